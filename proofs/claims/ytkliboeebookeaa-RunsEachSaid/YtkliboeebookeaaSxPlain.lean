/- The walks of the plain answers. -/
import Derived.Test.YtkliboeebookeaaProg
import Derived.Test.YtkliboeebookeaaSxEq
import Derived.Test.YtkliboeebookeaaSxKinds
import Derived.Test.YtkliboeebookeaaRunsTh
import Derived.Test.YtkliboeebookeaaSxRuns
import Derived.Test.YtkliboeebookeaaSxRunsB
import Derived.Test.YtkliboeebookeaaSxRef
namespace Go.Proofs.Ytkliboeebookeaa.Runs.D
open Go Go.RowKit Go.Proofs.YtkliboeebookeaaW.PrintWords Go.Proofs.Ytkliboeebookeaa.Kinds Go.Proofs.Ytkliboeebookeaa.Runs Go.Proofs.Ytkliboeebookeaa.Runs.B Go.Proofs.Ytkliboeebookeaa.Runs.C
set_option linter.unusedVariables false
set_option linter.unusedSimpArgs false
theorem fo28_0 : Sx.fieldOff Try.prog 28 0 = some 0 := by kernel_rfl
theorem sh26 : Sx.shapeOf Try.prog 26 = some (false, 1) := by kernel_rfl
theorem es26 : Sx.elemSz Try.prog 26 = some (3, 1) := by kernel_rfl
theorem fo28_1 : Sx.fieldOff Try.prog 28 1 = some 1 := by kernel_rfl
theorem sh3 : Sx.shapeOf Try.prog 3 = some (false, 1) := by kernel_rfl
theorem inf3 : (Try.prog.info? 3).map (fun i => (i.zero, i.size, i.bytes)) = some (some (.int .i64 (0)), 1, 8) := by kernel_rfl
theorem szf3 : (Try.prog.info? 3).map (·.size) = some 1 := by kernel_rfl
theorem infb3 : (Try.prog.info? 3).map (fun i => (i.zero, i.size)) = some (some (.int .i64 (0)), 1) := by kernel_rfl
theorem zo28 : Sx.zeroOf Try.prog 28 = some (.agg #[.slice (none) (0) (0), .int .i64 (0)]) := by kernel_rfl
theorem sh28 : Sx.shapeOf Try.prog 28 = some (true, 2) := by kernel_rfl
theorem ent26 : Sx.Ent Try.prog 26 := ⟨Try.f26, Try.func26, by kernel_rfl, by kernel_rfl⟩
theorem ent41 : Sx.Ent Try.prog 41 := ⟨Try.f41, Try.func41, by kernel_rfl, by kernel_rfl⟩
theorem ent49 : Sx.Ent Try.prog 49 := ⟨Try.f49, Try.func49, by kernel_rfl, by kernel_rfl⟩
theorem ent20 : Sx.Ent Try.prog 20 := ⟨Try.f20, Try.func20, by kernel_rfl, by kernel_rfl⟩

theorem part_succ (σ : List Int) (a j : Nat) (h1 : a ≤ j) (h2 : j < σ.length) : Runs.part σ a (j + 1) = Runs.part σ a j ++ [σ.getD j 0] := by
  unfold Runs.part
  rw [take_next σ j h2 0, List.drop_append_of_le_length (by rw [List.length_take]; omega)]
theorem any_next (σ : List Int) (a j : Nat) (s : Int) (h1 : a ≤ j) (h2 : j < σ.length) : (Runs.part σ a (j + 1)).any (fun y => decide (y ≠ s)) = ((Runs.part σ a j).any (fun y => decide (y ≠ s)) || decide (σ.getD j 0 ≠ s)) := by
  rw [part_succ σ a j h1 h2]; simp
/-- So many laid over a list at a place. -/
def layS (σ : List Int) (i : Nat) (τ : List Int) : List Int := σ.take i ++ τ ++ σ.drop (i + τ.length)
theorem layS_nil (σ : List Int) (i : Nat) : layS σ i [] = σ := by simp [layS]
theorem layS_len (σ : List Int) (i : Nat) (τ : List Int) (h : i + τ.length ≤ σ.length) : (layS σ i τ).length = σ.length := by
  simp [layS]; omega
theorem layS_set (σ : List Int) (i : Nat) (τ : List Int) (s : Int) (h : i + τ.length < σ.length) : (layS σ i τ).set (i + τ.length) s = layS σ i (τ ++ [s]) := by
  unfold layS
  have e : (σ.take i ++ τ).length = i + τ.length := by simp; omega
  rw [List.set_append_right _ _ (by omega), e, Nat.sub_self]
  have e2 : σ.drop (i + τ.length) = σ.getD (i + τ.length) 0 :: σ.drop (i + τ.length + 1) := by
    rw [List.drop_eq_getElem_cons h]; simp [List.getD, h]
  rw [e2]
  simp [Nat.add_assoc]
theorem snoc_set {L : List Rn} (hL : 0 < L.length) {s : Int} {z : Rn} (hs : (L.getD (L.length - 1) z).f1 = s) : snocR L s = L.set (L.length - 1) ⟨(L.getD (L.length - 1) z).f0 + 1, (L.getD (L.length - 1) z).f1⟩ := by
  unfold snocR
  rw [last_getD hL z]
  simp only
  rw [if_pos hs, set_last hL]
theorem snoc_app {L : List Rn} {s : Int} {z : Rn} (hs : ¬ (0 < L.length ∧ (L.getD (L.length - 1) z).f1 = s)) : snocR L s = L ++ [⟨1, s⟩] := by
  unfold snocR
  by_cases hL : 0 < L.length
  · rw [last_getD hL z]
    simp only
    rw [if_neg (fun e => hs ⟨hL, e⟩)]
  · have : L = [] := List.eq_nil_of_length_eq_zero (by omega)
    subst this; rfl
theorem put_set {L : List Rn} (hL : 0 < L.length) {n : Nat} {s : Int} {z : Rn} (hn : n ≠ 0) (hs : (L.getD (L.length - 1) z).f1 = s) : putL L n s = L.set (L.length - 1) ⟨(L.getD (L.length - 1) z).f0 + n, (L.getD (L.length - 1) z).f1⟩ := by
  unfold putL
  rw [if_neg hn, last_getD hL z]
  simp only
  rw [if_pos hs, set_last hL]
theorem put_app {L : List Rn} {n : Nat} {s : Int} {z : Rn} (hn : n ≠ 0) (hs : ¬ (0 < L.length ∧ (L.getD (L.length - 1) z).f1 = s)) : putL L n s = L ++ [⟨n, s⟩] := by
  unfold putL
  rw [if_neg hn]
  by_cases hL : 0 < L.length
  · rw [last_getD hL z]
    simp only
    rw [if_neg (fun e => hs ⟨hL, e⟩)]
  · have : L = [] := List.eq_nil_of_length_eq_zero (by omega)
    subst this; rfl
theorem runs_next {σ : List Int} {k : Nat} (hk : k < σ.length) : runsOf (σ.take (k + 1)) = snocR (runsOf (σ.take k)) (σ.getD k 0) := by rw [take_next σ k hk 0, runsOf_snoc]
theorem merged_next {l : List Rn} {k : Nat} (hk : k < l.length) (z : Rn) : runsOf (expand (l.take (k + 1))) = putL (runsOf (expand (l.take k))) (l.getD k z).f0.toNat (l.getD k z).f1 := by rw [expand_next hk z, runsOf_rep]
def sameB (a b : List Rn) : Bool := decide (a = b)

set_option maxRecDepth 100000 in
theorem Style_calls {w0 w : World} {F0 : Nat → Prop} {R : List Sx.HP} (n : Int)  (h : Sx.St w0 F0 ([] ++ R) w) : Calls Try.prog 35 #[.int .i64 (n)] w (fun e w1 => e = .returned (.bool (decide (styleP n))) ∧ Sx.St w0 F0 R w1) := by
 refine Sx.calls_fn (vs := [.int .i64 (n)]) Try.func35 rfl Try.ntmps35 rfl ?_
 refine Sx.wc_seq ?_
 refine Sx.wc_region ?_
 refine Sx.wl_v rfl rfl (Sx.ov_assign _ rfl) ?_
 refine Sx.wl_nil ?_
 refine Sx.qn_then ?_
 refine Sx.wc_seq ?_
 refine Sx.wc_region ?_
 refine Sx.wl_v rfl rfl (Sx.ov_move _ rfl) ?_
 refine Sx.wl_v rfl rfl (Sx.ov_bin _ rfl rfl (Sx.binR_geq)) ?_
 refine Sx.wl_v rfl rfl (Sx.ov_move _ rfl) ?_
 refine Sx.wl_split 5 rfl (fun c1 => ?_) (fun c1 => ?_)
 ·
  refine Sx.wl_v rfl rfl (Sx.ov_move _ rfl) ?_
  refine Sx.wl_v rfl rfl (Sx.ov_bin _ rfl rfl (Sx.binR_lss)) ?_
  refine Sx.wl_v rfl rfl (Sx.ov_pick_true _ rfl rfl) ?_
  refine Sx.wl_v rfl rfl (Sx.ov_assign _ rfl) ?_
  refine Sx.wl_nil ?_
  refine Sx.qn_then ?_
  refine Sx.wc_ret ?_
  refine Sx.qn_ret [_] ⟨rfl, trivial⟩ ?_
  exact ⟨congrArg (fun b => Ending.returned (Value.bool b)) (decide_eq_decide.2 (by omega)), h⟩
 ·
  refine Sx.wl_skip rfl rfl ?_
  refine Sx.wl_skip rfl rfl ?_
  refine Sx.wl_v rfl rfl (Sx.ov_pick_false _ rfl rfl) ?_
  refine Sx.wl_v rfl rfl (Sx.ov_assign _ rfl) ?_
  refine Sx.wl_nil ?_
  refine Sx.qn_then ?_
  refine Sx.wc_ret ?_
  refine Sx.qn_ret [_] ⟨rfl, trivial⟩ ?_
  exact ⟨congrArg (fun b => Ending.returned (Value.bool b)) ((decide_eq_false (show ¬ (styleP n) by omega)).symm), h⟩
set_option maxRecDepth 100000 in
theorem rNear_calls {w0 w : World} {F0 : Nat → Prop} {R : List Sx.HP} (A : Option Addr) (c : Nat) (x : LS) (i : Int) (hx : x.st.length ≤ 1099511627776) (h : Sx.St w0 F0 ([Sx.row (Kd.int .i64) 3 (A) (c) ((x).st)] ++ R) w) : Calls Try.prog 26 #[.agg #[.slice (A) (((x).st).length) (c), .int .i64 ((x).base)], .int .i64 (i)] w (fun e w1 => e = .returned (.tuple #[.int .i64 (nearV x i).1, .int .i64 (nearV x i).2]) ∧ Sx.St w0 F0 (Sx.row (Kd.int .i64) 3 A c x.st :: R) w1) := by
 refine Sx.calls_fn (vs := [.agg #[.slice (A) (((x).st).length) (c), .int .i64 ((x).base)], .int .i64 (i)]) Try.func26 rfl Try.ntmps26 rfl ?_
 refine Sx.wc_seq ?_
 refine Sx.wc_region ?_
 refine Sx.wl_box _ h rfl rfl rfl (fun b1 _ h => ?_)
 replace h : Sx.St _ _ (Sx.blk b1 [.slice (A) (((x).st).length) (c), .int .i64 ((x).base)] 28 :: _) _ := h
 refine Sx.wl_v rfl rfl (Sx.ov_assign _ rfl) ?_
 refine Sx.wl_v rfl rfl (Sx.ov_assign _ rfl) ?_
 refine Sx.wl_nil ?_
 refine Sx.qn_then ?_
 refine Sx.wc_seq ?_
 refine Sx.wc_seq ?_
 refine Sx.wc_region ?_
 refine Sx.wl_v rfl rfl (Sx.ov_move _ rfl) ?_
 refine Sx.wl_v rfl rfl (Sx.ov_bin _ rfl rfl (Sx.binR_lss)) ?_
 refine Sx.wl_v rfl rfl (Sx.ov_move _ rfl) ?_
 refine Sx.wl_split 8 rfl (fun c2 => ?_) (fun c2 => ?_)
 ·
  refine Sx.wl_skip rfl rfl ?_
  refine Sx.wl_skip rfl rfl ?_
  refine Sx.wl_skip rfl rfl ?_
  refine Sx.wl_skip rfl rfl ?_
  refine Sx.wl_skip rfl rfl ?_
  refine Sx.wl_v rfl rfl (Sx.ov_pick_true _ rfl rfl) ?_
  refine Sx.wl_nil ?_
  refine Sx.qn_then ?_
  refine Sx.wc_cond_true rfl ?_
  refine Sx.wc_seq ?_
  refine Sx.wc_region ?_
  refine Sx.wl_v rfl rfl (Sx.ov_assign _ rfl) ?_
  refine Sx.wl_v rfl rfl (Sx.ov_assign _ rfl) ?_
  refine Sx.wl_nil ?_
  refine Sx.qn_then ?_
  refine Sx.wc_ret ?_
  refine Sx.qn_then_ret ?_
  replace h := Sx.st_front 1 h
  replace h := Sx.st_selT [true, false] h
  refine Sx.qn_ret [_, _] ⟨rfl, rfl, trivial⟩ ?_
  have e_ : nearV x i = (0, 30) := by unfold nearV; rw [if_pos (by omega)]
  rw [e_]
  exact ⟨rfl, h⟩
 ·
  refine Sx.wl_v rfl rfl (Sx.ov_move _ rfl) ?_
  refine Sx.wl_v rfl rfl (Sx.ov_fieldAddr _ ⟨b1, 0, none⟩ _ rfl fo28_0 rfl) ?_
  refine Sx.wl_v rfl rfl (Sx.ov_loadb 0 _ h rfl rfl sh26 rfl) ?_
  refine Sx.wl_v rfl rfl (Sx.ov_len _ _ _ _ _ rfl es26) ?_
  refine Sx.wl_v rfl rfl (Sx.ov_bin _ rfl rfl (Sx.binR_gtr)) ?_
  refine Sx.wl_v rfl rfl (Sx.ov_pick_false _ rfl rfl) ?_
  refine Sx.wl_nil ?_
  refine Sx.qn_then ?_
  refine Sx.wc_cond (by rfl) (fun c3 => ?_) (fun c3 => ?_)
  ·
   refine Sx.wc_seq ?_
   refine Sx.wc_region ?_
   refine Sx.wl_v rfl rfl (Sx.ov_assign _ rfl) ?_
   refine Sx.wl_v rfl rfl (Sx.ov_assign _ rfl) ?_
   refine Sx.wl_nil ?_
   refine Sx.qn_then ?_
   refine Sx.wc_ret ?_
   refine Sx.qn_then_ret ?_
   replace h := Sx.st_front 1 h
   replace h := Sx.st_selT [true, false] h
   refine Sx.qn_ret [_, _] ⟨rfl, rfl, trivial⟩ ?_
   have e_ : nearV x i = (0, 30) := by unfold nearV; rw [if_pos (by omega)]
   rw [e_]
   exact ⟨rfl, h⟩
  ·
   refine Sx.wc_skip ?_
   refine Sx.qn_then ?_
   refine Sx.wc_seq ?_
   refine Sx.wc_seq ?_
   refine Sx.wc_region ?_
   refine Sx.wl_v rfl rfl (Sx.ov_fieldAddr _ ⟨b1, 0, none⟩ _ rfl fo28_0 rfl) ?_
   refine Sx.wl_v rfl rfl (Sx.ov_loadb 0 _ h rfl rfl sh26 rfl) ?_
   refine Sx.wl_v rfl rfl (Sx.ov_len _ _ _ _ _ rfl es26) ?_
   refine Sx.wl_v rfl rfl (Sx.ov_bin _ rfl rfl (Sx.binR_eql)) ?_
   refine Sx.wl_nil ?_
   refine Sx.qn_then ?_
   refine Sx.wc_cond (by rfl) (fun c4 => ?_) (fun c4 => ?_)
   ·
    refine Sx.wc_seq ?_
    refine Sx.wc_region ?_
    refine Sx.wl_v rfl rfl (Sx.ov_fieldAddr _ ⟨b1, 1, none⟩ _ rfl fo28_1 rfl) ?_
    refine Sx.wl_v rfl rfl (Sx.ov_loadb 0 _ h rfl rfl sh3 rfl) ?_
    refine Sx.wl_v rfl rfl (Sx.ov_assign _ rfl) ?_
    refine Sx.wl_v rfl rfl (Sx.ov_assign _ rfl) ?_
    refine Sx.wl_nil ?_
    refine Sx.qn_then ?_
    refine Sx.wc_ret ?_
    refine Sx.qn_then_ret ?_
    replace h := Sx.st_front 1 h
    replace h := Sx.st_selT [true, false] h
    refine Sx.qn_ret [_, _] ⟨rfl, rfl, trivial⟩ ?_
    have e_ : nearV x i = ((x).base, 0) := by unfold nearV; rw [if_neg (by omega), if_pos (by omega)]
    rw [e_]
    exact ⟨rfl, h⟩
   ·
    refine Sx.wc_skip ?_
    refine Sx.qn_then ?_
    refine Sx.wc_seq ?_
    refine Sx.wc_seq ?_
    refine Sx.wc_region ?_
    refine Sx.wl_v rfl rfl (Sx.ov_move _ rfl) ?_
    refine Sx.wl_v rfl rfl (Sx.ov_bin _ rfl rfl (Sx.binR_eql)) ?_
    refine Sx.wl_nil ?_
    refine Sx.qn_then ?_
    refine Sx.wc_cond (by rfl) (fun c5 => ?_) (fun c5 => ?_)
    ·
     refine Sx.wc_seq ?_
     refine Sx.wc_region ?_
     refine Sx.wl_v rfl rfl (Sx.ov_fieldAddr _ ⟨b1, 0, none⟩ _ rfl fo28_0 rfl) ?_
     refine Sx.wl_v rfl rfl (Sx.ov_loadb 0 _ h rfl rfl sh26 rfl) ?_
     obtain ⟨ad6, rfl⟩ := Sx.C_some ((Sx.row_reads h (i := 1) rfl).2) (k := 0) (by first | assumption | omega)
     refine Sx.wl_v rfl rfl (Sx.ov_indexAddrN _ _ _ _ _ 0 rfl rfl es26 rfl (by first | assumption | omega | (simp only [List.length_take, List.length_drop, List.length_set]; omega))) ?_
     obtain ⟨cl9, _, hk8, hc7⟩ := Sx.C_cells ((Sx.row_reads h (i := 1) rfl).2) (z := (0 : Int)) (k := 0) (by first | assumption | omega)
     obtain rfl : cl9 = [.int .i64 _] := hk8
     refine Sx.wl_v rfl rfl (Sx.ov_load1 _ _ rfl sh3 ((hc7 0 _ rfl))) ?_
     refine Sx.wl_v rfl rfl (Sx.ov_assign _ rfl) ?_
     refine Sx.wl_v rfl rfl (Sx.ov_assign _ rfl) ?_
     refine Sx.wl_nil ?_
     refine Sx.qn_then ?_
     refine Sx.wc_ret ?_
     refine Sx.qn_then_ret ?_
     replace h := Sx.st_front 1 h
     replace h := Sx.st_selT [true, false] h
     refine Sx.qn_ret [_, _] ⟨rfl, rfl, trivial⟩ ?_
     have e_ : nearV x i = (((x).st).getD 0 (0 : Int), 0) := by unfold nearV; rw [if_neg (by omega), if_neg (by omega)]; rw [show (i - 1).toNat = 0 by omega]
     rw [e_]
     exact ⟨rfl, h⟩
    ·
     refine Sx.wc_skip ?_
     refine Sx.qn_then ?_
     refine Sx.wc_seq ?_
     refine Sx.wc_region ?_
     refine Sx.wl_v rfl rfl (Sx.ov_fieldAddr _ ⟨b1, 0, none⟩ _ rfl fo28_0 rfl) ?_
     refine Sx.wl_v rfl rfl (Sx.ov_loadb 0 _ h rfl rfl sh26 rfl) ?_
     refine Sx.wl_v rfl rfl (Sx.ov_move _ rfl) ?_
     refine Sx.wl_v rfl rfl (Sx.ov_bin _ rfl rfl (Sx.binR_sub (r := i - 1) (Sx.w64 (by omega)))) ?_
     obtain ⟨ad10, rfl⟩ := Sx.C_some ((Sx.row_reads h (i := 1) rfl).2) (k := (i - 1 : Int).toNat) (by first | assumption | omega)
     refine Sx.wl_v rfl rfl (Sx.ov_indexAddrN _ _ _ _ _ (i - 1 : Int).toNat rfl rfl es26 (by omega) (by first | assumption | omega | (simp only [List.length_take, List.length_drop, List.length_set]; omega))) ?_
     obtain ⟨cl13, _, hk12, hc11⟩ := Sx.C_cells ((Sx.row_reads h (i := 1) rfl).2) (z := (0 : Int)) (k := (i - 1 : Int).toNat) (by first | assumption | omega)
     obtain rfl : cl13 = [.int .i64 _] := hk12
     refine Sx.wl_v rfl rfl (Sx.ov_load1 _ _ rfl sh3 ((hc11 0 _ rfl))) ?_
     refine Sx.wl_v rfl rfl (Sx.ov_assign _ rfl) ?_
     refine Sx.wl_v rfl rfl (Sx.ov_assign _ rfl) ?_
     refine Sx.wl_nil ?_
     refine Sx.qn_then ?_
     refine Sx.wc_ret ?_
     replace h := Sx.st_front 1 h
     replace h := Sx.st_selT [true, false] h
     refine Sx.qn_ret [_, _] ⟨rfl, rfl, trivial⟩ ?_
     have e_ : nearV x i = (((x).st).getD (i - 1 : Int).toNat (0 : Int), 0) := by unfold nearV; rw [if_neg (by omega), if_neg (by omega)]
     rw [e_]
     exact ⟨rfl, h⟩
set_option maxRecDepth 100000 in
theorem rSpan_calls {w0 w : World} {F0 : Nat → Prop} {R : List Sx.HP} (A : Option Addr) (c : Nat) (x : LS) (a b : Int)  (h : Sx.St w0 F0 ([Sx.row (Kd.int .i64) 3 (A) (c) ((x).st)] ++ R) w) : Calls Try.prog 20 #[.agg #[.slice (A) (((x).st).length) (c), .int .i64 ((x).base)], .int .i64 (a), .int .i64 (b)] w (fun e w1 => e = .returned (.int .i64 (spanV x a b)) ∧ Sx.St w0 F0 (Sx.row (Kd.int .i64) 3 A c x.st :: R) w1) := by
 refine Sx.calls_fn (vs := [.agg #[.slice (A) (((x).st).length) (c), .int .i64 ((x).base)], .int .i64 (a), .int .i64 (b)]) Try.func20 rfl Try.ntmps20 rfl ?_
 refine Sx.wc_seq ?_
 refine Sx.wc_region ?_
 refine Sx.wl_box _ h rfl rfl rfl (fun b1 _ h => ?_)
 replace h : Sx.St _ _ (Sx.blk b1 [.slice (A) (((x).st).length) (c), .int .i64 ((x).base)] 28 :: _) _ := h
 refine Sx.wl_v rfl rfl (Sx.ov_assign _ rfl) ?_
 refine Sx.wl_nil ?_
 refine Sx.qn_then ?_
 refine Sx.wc_seq ?_
 refine Sx.wc_seq ?_
 refine Sx.wc_region ?_
 refine Sx.wl_v rfl rfl (Sx.ov_move _ rfl) ?_
 refine Sx.wl_v rfl rfl (Sx.ov_bin _ rfl rfl (Sx.binR_lss)) ?_
 refine Sx.wl_v rfl rfl (Sx.ov_move _ rfl) ?_
 refine Sx.wl_split 9 rfl (fun c2 => ?_) (fun c2 => ?_)
 ·
  refine Sx.wl_skip rfl rfl ?_
  refine Sx.wl_skip rfl rfl ?_
  refine Sx.wl_skip rfl rfl ?_
  refine Sx.wl_skip rfl rfl ?_
  refine Sx.wl_skip rfl rfl ?_
  refine Sx.wl_v rfl rfl (Sx.ov_pick_true _ rfl rfl) ?_
  refine Sx.wl_v rfl rfl (Sx.ov_move _ rfl) ?_
  refine Sx.wl_skip rfl rfl ?_
  refine Sx.wl_skip rfl rfl ?_
  refine Sx.wl_skip rfl rfl ?_
  refine Sx.wl_v rfl rfl (Sx.ov_pick_true _ rfl rfl) ?_
  refine Sx.wl_nil ?_
  refine Sx.qn_then ?_
  refine Sx.wc_cond_true rfl ?_
  refine Sx.wc_seq ?_
  refine Sx.wc_region ?_
  refine Sx.wl_v rfl rfl (Sx.ov_assign _ rfl) ?_
  refine Sx.wl_nil ?_
  refine Sx.qn_then ?_
  refine Sx.wc_ret ?_
  refine Sx.qn_then_ret ?_
  replace h := Sx.st_front 1 h
  replace h := Sx.st_selT [true, false] h
  refine Sx.qn_ret [_] ⟨rfl, trivial⟩ ?_
  exact ⟨congrArg (fun z => Ending.returned (Value.int .i64 z)) (by unfold spanV; first | rw [if_pos (by omega)] | rw [if_neg (by omega)]), h⟩
 ·
  refine Sx.wl_v rfl rfl (Sx.ov_move _ rfl) ?_
  refine Sx.wl_v rfl rfl (Sx.ov_fieldAddr _ ⟨b1, 0, none⟩ _ rfl fo28_0 rfl) ?_
  refine Sx.wl_v rfl rfl (Sx.ov_loadb 0 _ h rfl rfl sh26 rfl) ?_
  refine Sx.wl_v rfl rfl (Sx.ov_len _ _ _ _ _ rfl es26) ?_
  refine Sx.wl_v rfl rfl (Sx.ov_bin _ rfl rfl (Sx.binR_gtr)) ?_
  refine Sx.wl_v rfl rfl (Sx.ov_pick_false _ rfl rfl) ?_
  refine Sx.wl_v rfl rfl (Sx.ov_move _ rfl) ?_
  refine Sx.wl_split 16 rfl (fun c3 => ?_) (fun c3 => ?_)
  ·
   refine Sx.wl_skip rfl rfl ?_
   refine Sx.wl_skip rfl rfl ?_
   refine Sx.wl_skip rfl rfl ?_
   refine Sx.wl_v rfl rfl (Sx.ov_pick_true _ rfl rfl) ?_
   refine Sx.wl_nil ?_
   refine Sx.qn_then ?_
   refine Sx.wc_cond_true rfl ?_
   refine Sx.wc_seq ?_
   refine Sx.wc_region ?_
   refine Sx.wl_v rfl rfl (Sx.ov_assign _ rfl) ?_
   refine Sx.wl_nil ?_
   refine Sx.qn_then ?_
   refine Sx.wc_ret ?_
   refine Sx.qn_then_ret ?_
   replace h := Sx.st_front 1 h
   replace h := Sx.st_selT [true, false] h
   refine Sx.qn_ret [_] ⟨rfl, trivial⟩ ?_
   exact ⟨congrArg (fun z => Ending.returned (Value.int .i64 z)) (by unfold spanV; first | rw [if_pos (by omega)] | rw [if_neg (by omega)]), h⟩
  ·
   refine Sx.wl_v rfl rfl (Sx.ov_move _ rfl) ?_
   refine Sx.wl_v rfl rfl (Sx.ov_move _ rfl) ?_
   refine Sx.wl_v rfl rfl (Sx.ov_bin _ rfl rfl (Sx.binR_gtr)) ?_
   refine Sx.wl_v rfl rfl (Sx.ov_pick_false _ rfl rfl) ?_
   refine Sx.wl_nil ?_
   refine Sx.qn_then ?_
   refine Sx.wc_cond (by rfl) (fun c4 => ?_) (fun c4 => ?_)
   ·
    refine Sx.wc_seq ?_
    refine Sx.wc_region ?_
    refine Sx.wl_v rfl rfl (Sx.ov_assign _ rfl) ?_
    refine Sx.wl_nil ?_
    refine Sx.qn_then ?_
    refine Sx.wc_ret ?_
    refine Sx.qn_then_ret ?_
    replace h := Sx.st_front 1 h
    replace h := Sx.st_selT [true, false] h
    refine Sx.qn_ret [_] ⟨rfl, trivial⟩ ?_
    exact ⟨congrArg (fun z => Ending.returned (Value.int .i64 z)) (by unfold spanV; first | rw [if_pos (by omega)] | rw [if_neg (by omega)]), h⟩
   ·
    refine Sx.wc_skip ?_
    refine Sx.qn_then ?_
    refine Sx.wc_seq ?_
    refine Sx.wc_region ?_
    refine Sx.wl_v rfl rfl (Sx.ov_assign _ rfl) ?_
    refine Sx.wl_nil ?_
    refine Sx.qn_then ?_
    refine Sx.wc_ret ?_
    replace h := Sx.st_front 1 h
    replace h := Sx.st_selT [true, false] h
    refine Sx.qn_ret [_] ⟨rfl, trivial⟩ ?_
    exact ⟨congrArg (fun z => Ending.returned (Value.int .i64 z)) (by unfold spanV; first | rw [if_pos (by omega)] | rw [if_neg (by omega)]), h⟩

theorem many_next (n s : Int) (k : Nat) (hk : k < n.toNat) : (List.replicate k s ++ List.replicate (n.toNat - k) (0 : Int)).set k s = List.replicate (k + 1) s ++ List.replicate (n.toNat - (k + 1)) 0 := by
  rw [List.set_append_right _ _ (by simp), List.length_replicate, Nat.sub_self, List.replicate_succ', show n.toNat - k = (n.toNat - (k + 1)) + 1 by omega, List.replicate_succ, List.set_cons_zero]
  simp

set_option maxRecDepth 100000 in
theorem Many_calls {w0 w : World} {F0 : Nat → Prop} {R : List Sx.HP} (n s : Int) (hn : 0 ≤ n) (hn2 : n ≤ 1099511627776) (h : Sx.St w0 F0 ([] ++ R) w) : Calls Try.prog 41 #[.int .i64 (n), .int .i64 (s)] w (fun e w1 => ∃ A c, e = .returned (.slice A (List.replicate n.toNat s).length c) ∧ Sx.St w0 F0 (Sx.row (Kd.int .i64) 3 A c (List.replicate n.toNat s) :: R) w1) := by
 refine Sx.calls_fn (vs := [.int .i64 (n), .int .i64 (s)]) Try.func41 rfl Try.ntmps41 rfl ?_
 refine Sx.wc_seq ?_
 refine Sx.wc_region ?_
 refine Sx.wl_v rfl rfl (Sx.ov_assign _ rfl) ?_
 refine Sx.wl_nil ?_
 refine Sx.qn_then ?_
 refine Sx.wc_seq ?_
 refine Sx.wc_region ?_
 refine Sx.wl_v rfl rfl (Sx.ov_move _ rfl) ?_
 refine Sx.wl_make (d := (Kd.int .i64)) _ 8 (0 : Int) (n) h rfl rfl rfl rfl Try.underlying26 inf3 rfl (by decide) (by decide) (fun _ _ _ => (Sx.mkInt .i64 ((0 : Int)))) (by omega) (by omega) (fun A1 cp2 _ h => ?_)
 refine Sx.wl_v rfl rfl (Sx.ov_assign _ rfl) ?_
 refine Sx.wl_nil ?_
 refine Sx.qn_then ?_
 refine Sx.wc_seq ?_
 refine Sx.wc_seq ?_
 refine Sx.wc_region ?_
 refine Sx.wl_v rfl rfl (Sx.ov_assign _ rfl) ?_
 refine Sx.wl_nil ?_
 refine Sx.qn_then ?_
 refine Sx.wc_block ?_
 have e_ : List.replicate (n : Int).toNat (0 : Int) = List.replicate 0 s ++ List.replicate (n.toNat - 0) 0 := by simp
 replace h := Sx.st_cast (congrArg (fun z_ => ([Sx.row (Kd.int .i64) 3 (A1) (cp2) (z_)] ++ R)) e_) h
 clear e_
 refine Sx.wc_loop (fun (x_ : Nat × (Option Addr) × Nat) => [(0, .int .i64 (n)), (1, .int .i64 (s)), (5, .slice (x_.2.1) (n.toNat) (x_.2.2)), (6, .int .i64 ((x_.1 : Int)))]) (fun (x_ : Nat × (Option Addr) × Nat) (w : World) => (x_.1 ≤ n.toNat) ∧ Sx.St w0 F0 ([Sx.row (Kd.int .i64) 3 (x_.2.1) (x_.2.2) (List.replicate x_.1 s ++ List.replicate (n.toNat - x_.1) 0)] ++ R) w) (fun (x_ : Nat × (Option Addr) × Nat) => n.toNat - x_.1) (0, A1, cp2) ?_ ?_ ?_
 · exact ⟨rfl, rfl, (congrArg (fun z_ => some (Value.slice A1 z_ cp2)) (by simp)), (congrArg (fun z_ => some (Value.int .i64 z_)) (show (0 : Int) = (0 : Int) by omega)), trivial⟩
 · exact ⟨by first | omega | simp, h⟩
 rintro ⟨k, A, c⟩ w h
 obtain ⟨hJ, h⟩ := h
 replace hJ : k ≤ n.toNat := hJ
 replace h : Sx.St w0 F0 ([Sx.row (Kd.int .i64) 3 (A) (c) (List.replicate k s ++ List.replicate (n.toNat - k) 0)] ++ R) w := h
 show Sx.WC _ _ _ _ [(0, .int .i64 (n)), (1, .int .i64 (s)), (5, .slice (A) (n.toNat) (c)), (6, .int .i64 ((k : Int)))] _
 refine Sx.wc_seq ?_
 refine Sx.wc_seq ?_
 refine Sx.wc_region ?_
 refine Sx.wl_v rfl rfl (Sx.ov_move _ rfl) ?_
 refine Sx.wl_v rfl rfl (Sx.ov_move _ rfl) ?_
 refine Sx.wl_v rfl rfl (Sx.ov_bin _ rfl rfl (Sx.binR_lss)) ?_
 refine Sx.wl_nil ?_
 refine Sx.qn_then ?_
 refine Sx.wc_cond (by rfl) (fun c3 => ?_) (fun c3 => ?_)
 ·
  have hk : k < n.toNat := by omega
  have hln : (List.replicate k s ++ List.replicate (n.toNat - k) 0).length = n.toNat := by simp; omega
  refine Sx.wc_skip ?_
  refine Sx.qn_then ?_
  refine Sx.wc_seq ?_
  refine Sx.wc_block ?_
  refine Sx.wc_region ?_
  refine Sx.wl_v rfl rfl (Sx.ov_move _ rfl) ?_
  refine Sx.wl_v rfl rfl (Sx.ov_move _ rfl) ?_
  refine Sx.wl_v rfl rfl (Sx.ov_move _ rfl) ?_
  obtain ⟨ad4, rfl⟩ := Sx.C_some ((Sx.row_reads h (i := 0) rfl).2) (k := k) (by first | assumption | omega)
  refine Sx.wl_v rfl rfl (Sx.ov_indexAddrN _ _ _ _ _ k rfl rfl es26 rfl (by first | assumption | omega | (simp only [List.length_take, List.length_drop, List.length_set]; omega))) ?_
  refine Sx.wl_storeeN 0 k 0 (.int .i64 (s)) [.int .i64 (s)] (0 : Int) (s) h rfl rfl rfl (by first | rfl | simp) rfl rfl (by simp [Value.oneCell']) szf3 (by first | assumption | omega) (Nat.le_of_ble_eq_true rfl) (by intro cl hcl hM; obtain ⟨_, _, _, hM⟩ := hM; obtain rfl : cl = [.int .i64 _] := hM; intro _ _ _; exact (Sx.mkInt .i64 (s))) (fun _ h => ?_)
  refine Sx.wl_nil ?_
  refine Sx.qn_block_normal ?_
  refine Sx.qn_then ?_
  refine Sx.wc_region ?_
  refine Sx.wl_v rfl rfl (Sx.ov_move _ rfl) ?_
  refine Sx.wl_v rfl rfl (Sx.ov_bin _ rfl rfl (Sx.binR_add (r := ((k : Int)) + 1) (Sx.w64 (by omega)))) ?_
  refine Sx.wl_v rfl rfl (Sx.ov_assign _ rfl) ?_
  refine Sx.wl_nil ?_
  have e_ : (List.replicate k s ++ List.replicate (n.toNat - k) 0).set k (s) = List.replicate (k + 1) s ++ List.replicate (n.toNat - (k + 1)) 0 := by exact many_next n s k hk
  replace h := Sx.st_cast (congrArg (fun z_ => ([Sx.row (Kd.int .i64) 3 (some ad4) (c) (z_)] ++ R)) e_) h
  clear e_
  refine Sx.qn_next ((k + 1), some ad4, c) (by show n.toNat - (k + 1) < n.toNat - k; omega) ⟨rfl, rfl, rfl, (congrArg (fun z_ => some (Value.int .i64 z_)) (show (((k : Int)) + 1 : Int) = ((k + 1) : Int) by omega)), trivial⟩ ?_
  show ((k + 1) ≤ n.toNat) ∧ _
  exact ⟨by first | omega | simp, h⟩
 ·
  refine Sx.wc_exit ?_
  refine Sx.qn_then_exit ?_
  refine Sx.qn_then_exit ?_
  refine Sx.qn_block_exit ?_
  refine Sx.qn_then ?_
  refine Sx.wc_seq ?_
  refine Sx.wc_region ?_
  refine Sx.wl_v rfl rfl (Sx.ov_move _ rfl) ?_
  refine Sx.wl_v rfl rfl (Sx.ov_assign _ rfl) ?_
  refine Sx.wl_nil ?_
  refine Sx.qn_then ?_
  refine Sx.wc_ret ?_
  have e_ : List.replicate k s ++ List.replicate (n.toNat - k) 0 = List.replicate n.toNat s := by rw [show k = n.toNat by omega]; simp
  replace h := Sx.st_cast (congrArg (fun z_ => ([Sx.row (Kd.int .i64) 3 (A) (c) (z_)] ++ R)) e_) h
  clear e_
  refine Sx.qn_ret [_] ⟨rfl, trivial⟩ ?_
  refine ⟨_, _, ?_, h⟩
  exact congrArg (fun z => Ending.returned (Value.slice A z c)) (by simp)
set_option maxRecDepth 100000 in
theorem three_calls {w0 w : World} {F0 : Nat → Prop} {R : List Sx.HP} (p q r : List Int) (Ap Aq Ar : Option Addr) (cp cq cr : Nat) (hl : p.length + q.length + r.length ≤ 1099511627776) (hp : ∀ cs w, Sx.St w0 F0 (cs ++ R) w → (Kd.int .i64).C w Ap p.length p) (hq : ∀ cs w, Sx.St w0 F0 (cs ++ R) w → (Kd.int .i64).C w Aq q.length q) (hr : ∀ cs w, Sx.St w0 F0 (cs ++ R) w → (Kd.int .i64).C w Ar r.length r) (h : Sx.St w0 F0 ([] ++ R) w) : Calls Try.prog 49 #[.slice (Ap) (p.length) (cp), .slice (Aq) (q.length) (cq), .slice (Ar) (r.length) (cr)] w (fun e w1 => ∃ A c, e = .returned (.slice A (p ++ q ++ r).length c) ∧ Sx.St w0 F0 (Sx.row (Kd.int .i64) 3 A c (p ++ q ++ r) :: R) w1) := by
 refine Sx.calls_fn (vs := [.slice (Ap) (p.length) (cp), .slice (Aq) (q.length) (cq), .slice (Ar) (r.length) (cr)]) Try.func49 rfl Try.ntmps49 rfl ?_
 refine Sx.wc_seq ?_
 refine Sx.wc_region ?_
 refine Sx.wl_v rfl rfl (Sx.ov_assign _ rfl) ?_
 refine Sx.wl_nil ?_
 refine Sx.qn_then ?_
 refine Sx.wc_seq ?_
 refine Sx.wc_region ?_
 refine Sx.wl_lit (d := (Kd.int .i64)) [] _ [] ([]) h rfl rfl rfl rfl Try.underlying26 infb3 rfl (by decide) (by kernel_rfl) rfl (fun _ _ _ => (Reps.none _ _)) (fun A1 cp2 _ h => ?_)
 refine Sx.wl_v rfl rfl (Sx.ov_move _ rfl) ?_
 refine Sx.wl_append (d := (Kd.int .i64)) (L := []) 0 _ 8 _ _ _ (p) (Sx.flat_int _) h rfl rfl rfl rfl rfl ((hp [_] _ h)) Try.underlying26 inf3 rfl (by decide) (by decide) (by simp only [List.length_cons, List.length_nil, List.length_append]; omega) (by first | rfl | simp) (fun A3 cp4 _ h => ?_)
 refine Sx.wl_v rfl rfl (Sx.ov_assign _ rfl) ?_
 refine Sx.wl_nil ?_
 refine Sx.qn_then ?_
 refine Sx.wc_seq ?_
 refine Sx.wc_region ?_
 refine Sx.wl_v rfl rfl (Sx.ov_move _ rfl) ?_
 refine Sx.wl_v rfl rfl (Sx.ov_move _ rfl) ?_
 refine Sx.wl_append (d := (Kd.int .i64)) (L := ([]) ++ p) 0 _ 8 _ _ _ (q) (Sx.flat_int _) h rfl rfl rfl rfl rfl ((hq [_] _ h)) Try.underlying26 inf3 rfl (by decide) (by decide) (by simp only [List.length_cons, List.length_nil, List.length_append]; omega) (by first | rfl | simp) (fun A5 cp6 _ h => ?_)
 refine Sx.wl_v rfl rfl (Sx.ov_assign _ rfl) ?_
 refine Sx.wl_nil ?_
 refine Sx.qn_then ?_
 refine Sx.wc_seq ?_
 refine Sx.wc_region ?_
 refine Sx.wl_v rfl rfl (Sx.ov_move _ rfl) ?_
 refine Sx.wl_v rfl rfl (Sx.ov_move _ rfl) ?_
 refine Sx.wl_append (d := (Kd.int .i64)) (L := (([]) ++ p) ++ q) 0 _ 8 _ _ _ (r) (Sx.flat_int _) h rfl rfl rfl rfl rfl ((hr [_] _ h)) Try.underlying26 inf3 rfl (by decide) (by decide) (by simp only [List.length_cons, List.length_nil, List.length_append]; omega) (by first | rfl | simp) (fun A7 cp8 _ h => ?_)
 refine Sx.wl_v rfl rfl (Sx.ov_assign _ rfl) ?_
 refine Sx.wl_nil ?_
 refine Sx.qn_then ?_
 refine Sx.wc_ret ?_
 have e_ : ((([]) ++ p) ++ q) ++ r = p ++ q ++ r := by simp
 replace h := Sx.st_cast (congrArg (fun z_ => ([Sx.row (Kd.int .i64) 3 (A7) (cp8) (z_)] ++ R)) e_) h
 clear e_
 refine Sx.qn_ret [_] ⟨rfl, trivial⟩ ?_
 exact ⟨_, _, rfl, h⟩
set_option maxRecDepth 100000 in
theorem rInsert_calls {w0 w : World} {F0 : Nat → Prop} {R : List Sx.HP} (A : Option Addr) (c : Nat) (x : LS) (i n : Int) (hx : x.st.length ≤ 65536) (h : Sx.St w0 F0 ([Sx.row (Kd.int .i64) 3 (A) (c) ((x).st)] ++ R) w) : Calls Try.prog 45 #[.agg #[.slice (A) (((x).st).length) (c), .int .i64 ((x).base)], .int .i64 (i), .int .i64 (n)] w (fun e w1 => ∃ A2 c2, e = .returned (.tuple #[.agg #[.slice A2 (((insV x i n).1).st).length c2, .int .i64 ((insV x i n).1).base], .int .i64 (insV x i n).2]) ∧ Sx.St w0 F0 (Sx.row (Kd.int .i64) 3 A2 c2 ((insV x i n).1).st :: R) w1) := by
 refine Sx.calls_fn (vs := [.agg #[.slice (A) (((x).st).length) (c), .int .i64 ((x).base)], .int .i64 (i), .int .i64 (n)]) Try.func45 rfl Try.ntmps45 rfl ?_
 refine Sx.wc_seq ?_
 refine Sx.wc_region ?_
 refine Sx.wl_box _ h rfl rfl rfl (fun b1 _ h => ?_)
 replace h : Sx.St _ _ (Sx.blk b1 [.slice (A) (((x).st).length) (c), .int .i64 ((x).base)] 28 :: _) _ := h
 refine Sx.wl_alloc _ h rfl rfl zo28 (fun b2 _ h => ?_)
 replace h : Sx.St _ _ (Sx.blk b2 [.slice (none) (0) (0), .int .i64 (0)] 28 :: _) _ := h
 refine Sx.wl_v rfl rfl (Sx.ov_assign _ rfl) ?_
 refine Sx.wl_nil ?_
 refine Sx.qn_then ?_
 refine Sx.wc_seq ?_
 refine Sx.wc_region ?_
 refine Sx.wl_v rfl rfl (Sx.ov_loadbN 1 [.slice (A) (((x).st).length) (c), .int .i64 ((x).base)] h rfl rfl sh28 rfl) ?_
 refine Sx.wl_v rfl rfl (Sx.ov_move _ rfl) ?_
 replace h := Sx.st_front 2 h
 refine Sx.wl_call _ rfl rfl rfl ent26 (rNear_calls (R := [Sx.blk b2 [.slice (none) (0) (0), .int .i64 (0)] 28, Sx.blk b1 [.slice (A) (((x).st).length) (c), .int .i64 ((x).base)] 28] ++ R) (A) (c) x i (by omega) h) ?_
 rintro e_ w_ ⟨rfl, h⟩
 refine ⟨_, rfl, ?_⟩
 refine Sx.wl_v rfl rfl (Sx.ov_move _ rfl) ?_
 refine Sx.wl_v rfl rfl (Sx.ov_extract [.int .i64 ((nearV x i).1), .int .i64 ((nearV x i).2)] _ rfl rfl) ?_
 refine Sx.wl_v rfl rfl (Sx.ov_extract [.int .i64 ((nearV x i).1), .int .i64 ((nearV x i).2)] _ rfl rfl) ?_
 refine Sx.wl_v rfl rfl (Sx.ov_assign _ rfl) ?_
 refine Sx.wl_v rfl rfl (Sx.ov_assign _ rfl) ?_
 refine Sx.wl_nil ?_
 refine Sx.qn_then ?_
 refine Sx.wc_seq ?_
 refine Sx.wc_seq ?_
 refine Sx.wc_region ?_
 refine Sx.wl_v rfl rfl (Sx.ov_move _ rfl) ?_
 refine Sx.wl_v rfl rfl (Sx.ov_bin _ rfl rfl (Sx.binR_neq)) ?_
 refine Sx.wl_nil ?_
 refine Sx.qn_then ?_
 refine Sx.wc_cond (by rfl) (fun c3 => ?_) (fun c3 => ?_)
 ·
  refine Sx.wc_seq ?_
  refine Sx.wc_region ?_
  refine Sx.wl_v rfl rfl (Sx.ov_loadbN 2 [.slice (A) (((x).st).length) (c), .int .i64 ((x).base)] h rfl rfl sh28 rfl) ?_
  refine Sx.wl_v rfl rfl (Sx.ov_move _ rfl) ?_
  refine Sx.wl_storebN 1 [.slice (A) (((x).st).length) (c), .int .i64 ((x).base)] [.slice (A) (((x).st).length) (c), .int .i64 ((x).base)] h rfl rfl rfl rfl (by simp [Value.oneCell']) sh28 rfl rfl (fun _ h => ?_)
  refine Sx.wl_v rfl rfl (Sx.ov_assign _ rfl) ?_
  refine Sx.wl_nil ?_
  refine Sx.qn_then ?_
  refine Sx.wc_ret ?_
  refine Sx.qn_then_ret ?_
  have hend_ := h
  replace h := Sx.st_selT [true, false, false] h
  refine Sx.qn_ret [_, _] ⟨⟨_, rfl, Sx.loadVarN (vs := [.slice (A) (((x).st).length) (c), .int .i64 ((x).base)]) sh28 (Sx.blk_cells (cells := [.slice (A) (((x).st).length) (c), .int .i64 ((x).base)]) hend_ (i := 1) rfl 0 _ rfl)⟩, rfl, trivial⟩ ?_
  have e_ : insV x i n = (x, (nearV x i).2) := by unfold insV; rw [if_pos (by omega)]
  rw [e_]
  exact ⟨_, _, rfl, h⟩
 ·
  have hok := near_ok c3
  refine Sx.wc_skip ?_
  refine Sx.qn_then ?_
  refine Sx.wc_seq ?_
  refine Sx.wc_seq ?_
  refine Sx.wc_region ?_
  refine Sx.wl_v rfl rfl (Sx.ov_move _ rfl) ?_
  refine Sx.wl_v rfl rfl (Sx.ov_bin _ rfl rfl (Sx.binR_lss)) ?_
  refine Sx.wl_nil ?_
  refine Sx.qn_then ?_
  refine Sx.wc_cond (by rfl) (fun c4 => ?_) (fun c4 => ?_)
  ·
   refine Sx.wc_seq ?_
   refine Sx.wc_region ?_
   refine Sx.wl_v rfl rfl (Sx.ov_loadbN 2 [.slice (A) (((x).st).length) (c), .int .i64 ((x).base)] h rfl rfl sh28 rfl) ?_
   refine Sx.wl_storebN 1 [.slice (A) (((x).st).length) (c), .int .i64 ((x).base)] [.slice (A) (((x).st).length) (c), .int .i64 ((x).base)] h rfl rfl rfl rfl (by simp [Value.oneCell']) sh28 rfl rfl (fun _ h => ?_)
   refine Sx.wl_v rfl rfl (Sx.ov_assign _ rfl) ?_
   refine Sx.wl_nil ?_
   refine Sx.qn_then ?_
   refine Sx.wc_ret ?_
   refine Sx.qn_then_ret ?_
   have hend_ := h
   replace h := Sx.st_selT [true, false, false] h
   refine Sx.qn_ret [_, _] ⟨⟨_, rfl, Sx.loadVarN (vs := [.slice (A) (((x).st).length) (c), .int .i64 ((x).base)]) sh28 (Sx.blk_cells (cells := [.slice (A) (((x).st).length) (c), .int .i64 ((x).base)]) hend_ (i := 1) rfl 0 _ rfl)⟩, rfl, trivial⟩ ?_
   have e_ : insV x i n = (x, 1) := by unfold insV; rw [if_neg (by omega), if_pos (by omega)]
   rw [e_]
   exact ⟨_, _, rfl, h⟩
  ·
   refine Sx.wc_skip ?_
   refine Sx.qn_then ?_
   refine Sx.wc_seq ?_
   refine Sx.wc_seq ?_
   refine Sx.wc_region ?_
   refine Sx.wl_v rfl rfl (Sx.ov_move _ rfl) ?_
   refine Sx.wl_v rfl rfl (Sx.ov_fieldAddr _ ⟨b1, 0, none⟩ _ rfl fo28_0 rfl) ?_
   refine Sx.wl_v rfl rfl (Sx.ov_loadb 2 _ h rfl rfl sh26 rfl) ?_
   refine Sx.wl_v rfl rfl (Sx.ov_len _ _ _ _ _ rfl es26) ?_
   refine Sx.wl_v rfl rfl (Sx.ov_bin _ rfl rfl (Sx.binR_sub (r := 65536 - (((((x).st).length : Nat) : Int))) (Sx.w64 (by omega)))) ?_
   refine Sx.wl_v rfl rfl (Sx.ov_bin _ rfl rfl (Sx.binR_gtr)) ?_
   refine Sx.wl_nil ?_
   refine Sx.qn_then ?_
   refine Sx.wc_cond (by rfl) (fun c5 => ?_) (fun c5 => ?_)
   ·
    refine Sx.wc_seq ?_
    refine Sx.wc_region ?_
    refine Sx.wl_v rfl rfl (Sx.ov_loadbN 2 [.slice (A) (((x).st).length) (c), .int .i64 ((x).base)] h rfl rfl sh28 rfl) ?_
    refine Sx.wl_storebN 1 [.slice (A) (((x).st).length) (c), .int .i64 ((x).base)] [.slice (A) (((x).st).length) (c), .int .i64 ((x).base)] h rfl rfl rfl rfl (by simp [Value.oneCell']) sh28 rfl rfl (fun _ h => ?_)
    refine Sx.wl_v rfl rfl (Sx.ov_assign _ rfl) ?_
    refine Sx.wl_nil ?_
    refine Sx.qn_then ?_
    refine Sx.wc_ret ?_
    refine Sx.qn_then_ret ?_
    have hend_ := h
    replace h := Sx.st_selT [true, false, false] h
    refine Sx.qn_ret [_, _] ⟨⟨_, rfl, Sx.loadVarN (vs := [.slice (A) (((x).st).length) (c), .int .i64 ((x).base)]) sh28 (Sx.blk_cells (cells := [.slice (A) (((x).st).length) (c), .int .i64 ((x).base)]) hend_ (i := 1) rfl 0 _ rfl)⟩, rfl, trivial⟩ ?_
    have e_ : insV x i n = (x, 31) := by unfold insV; rw [if_neg (by omega), if_neg (by omega), if_pos (by omega)]
    rw [e_]
    exact ⟨_, _, rfl, h⟩
   ·
    refine Sx.wc_skip ?_
    refine Sx.qn_then ?_
    refine Sx.wc_seq ?_
    refine Sx.wc_draw (fun w => Sx.St w0 F0 ([Sx.row (Kd.int .i64) 3 (A) (c) ((x).st), Sx.blk b1 [.slice (A) (((x).st).length) (c), .int .i64 ((x).base)] 28] ++ R) w) (by kernel_rfl) ?_
    replace h := Sx.st_drew h
    refine Sx.wa_tk 0 rfl rfl rfl (Sx.st_selT [true, false, true] h) (fun w_ hS => Sx.ov_fieldAddr _ ⟨b1, 0, none⟩ _ rfl fo28_0 rfl) ?_
    refine Sx.wa_tk 1 rfl rfl rfl (Sx.st_selT [true, false, true] h) (fun w_ hS => Sx.ov_loadb 1 _ hS rfl rfl sh26 rfl) ?_
    refine Sx.wa_tk 2 rfl rfl rfl (Sx.st_selT [true, false, true] h) (fun w_ hS => Sx.ov_move _ rfl) ?_
    have hcap6 := (Sx.row_reads h (i := 0) rfl).1
    obtain ⟨A7, hA8⟩ : ∃ A_, (if c = 0 then A else Option.map (·.add (0 * 1)) (A)) = A_ := ⟨_, rfl⟩
    refine Sx.wa_tk 3 rfl rfl rfl (Sx.st_selT [true, false, true] h) (fun w_ hS => by exact Sx.ov_slice _ _ _ 0 ((i : Int).toNat) (by rfl) (by exact rfl) (by exact ⟨_, _, rfl, (by omega)⟩) es26 (by omega) (by omega) hA8 (n' := ((((x).st).take ((i : Int).toNat)).drop 0).length) (by simp only [List.length_drop, List.length_take]; omega)) ?_
    refine Sx.wa_tk 4 rfl rfl rfl (Sx.st_selT [true, false, true] h) (fun w_ hS => Sx.ov_move _ rfl) ?_
    refine Sx.wa_tk 5 rfl rfl rfl (Sx.st_selT [true, false, true] h) (fun w_ hS => Sx.ov_move _ rfl) ?_
    refine Sx.wa_tk 7 rfl rfl rfl (Sx.st_selT [true, false, true] h) (fun w_ hS => Sx.ov_fieldAddr _ ⟨b1, 0, none⟩ _ rfl fo28_0 rfl) ?_
    refine Sx.wa_tk 8 rfl rfl rfl (Sx.st_selT [true, false, true] h) (fun w_ hS => Sx.ov_loadb 1 _ hS rfl rfl sh26 rfl) ?_
    refine Sx.wa_tk 9 rfl rfl rfl (Sx.st_selT [true, false, true] h) (fun w_ hS => Sx.ov_move _ rfl) ?_
    have hcap9 := (Sx.row_reads h (i := 0) rfl).1
    obtain ⟨A10, hA11⟩ : ∃ A_, (if c = ((i : Int).toNat) then A else Option.map (·.add (((i : Int).toNat) * 1)) (A)) = A_ := ⟨_, rfl⟩
    refine Sx.wa_tk 10 rfl rfl rfl (Sx.st_selT [true, false, true] h) (fun w_ hS => by exact Sx.ov_slice _ _ _ ((i : Int).toNat) (((x).st).length) (by rfl) (by exact ⟨_, _, rfl, (by omega)⟩) (by exact rfl) es26 (by omega) (by omega) hA11 (n' := ((((x).st).take (((x).st).length)).drop ((i : Int).toNat)).length) (by simp only [List.length_drop, List.length_take]; omega)) ?_
    refine Sx.wa_tk 12 rfl rfl rfl (Sx.st_selT [true, false, true] h) (fun w_ hS => Sx.ov_fieldAddr _ ⟨b1, 1, none⟩ _ rfl fo28_1 rfl) ?_
    refine Sx.wa_tk 13 rfl rfl rfl (Sx.st_selT [true, false, true] h) (fun w_ hS => Sx.ov_loadb 1 _ hS rfl rfl sh3 rfl) ?_
    refine Sx.wa_one 6 rfl (by kernel_rfl) ?_
    refine Sx.wl_call _ rfl rfl rfl ent41 (Many_calls (R := [Sx.row (Kd.int .i64) 3 (A) (c) ((x).st), Sx.blk b2 [.slice (none) (0) (0), .int .i64 (0)] 28, Sx.blk b1 [.slice (A) (((x).st).length) (c), .int .i64 ((x).base)] 28] ++ R) n ((nearV x i).1) (by omega) (by omega) h) ?_
    rintro e_ w_ ⟨A12, cp13, rfl, h⟩
    refine ⟨_, rfl, ?_⟩
    refine Sx.wl_nil ?_
    refine Sx.qn_wa (Sx.st_selT [false, true, false, true] h) ?_
    refine Sx.wa_one 11 rfl (by kernel_rfl) ?_
    refine Sx.wl_call _ rfl rfl rfl ent49 (three_calls (R := [Sx.row (Kd.int .i64) 3 (A12) (cp13) (List.replicate (n : Int).toNat ((nearV x i).1)), Sx.row (Kd.int .i64) 3 (A) (c) ((x).st), Sx.blk b2 [.slice (none) (0) (0), .int .i64 (0)] 28, Sx.blk b1 [.slice (A) (((x).st).length) (c), .int .i64 ((x).base)] 28] ++ R) ((((x).st).take ((i : Int).toNat)).drop 0) (List.replicate (n : Int).toNat ((nearV x i).1)) ((((x).st).take (((x).st).length)).drop ((i : Int).toNat)) (A7) (A12) (A10) (c - 0) (cp13) (c - ((i : Int).toNat)) (by simp only [List.length_cons, List.length_nil, List.length_append, List.length_take, List.length_drop, List.length_replicate]; omega) (fun cs_ w_ h_ => Sx.mid_C (lo := 0) (hi := ((i : Int).toNat)) (by omega) (by omega) hcap6 hA8 ((Sx.row_reads_at (R := [Sx.row (Kd.int .i64) 3 (A12) (cp13) (List.replicate (n : Int).toNat ((nearV x i).1)), Sx.row (Kd.int .i64) 3 (A) (c) ((x).st), Sx.blk b2 [.slice (none) (0) (0), .int .i64 (0)] 28, Sx.blk b1 [.slice (A) (((x).st).length) (c), .int .i64 ((x).base)] 28] ++ R) (j := 1) rfl) cs_ w_ h_)) (Sx.row_reads_at (R := [Sx.row (Kd.int .i64) 3 (A12) (cp13) (List.replicate (n : Int).toNat ((nearV x i).1)), Sx.row (Kd.int .i64) 3 (A) (c) ((x).st), Sx.blk b2 [.slice (none) (0) (0), .int .i64 (0)] 28, Sx.blk b1 [.slice (A) (((x).st).length) (c), .int .i64 ((x).base)] 28] ++ R) (j := 0) rfl) (fun cs_ w_ h_ => Sx.mid_C (lo := ((i : Int).toNat)) (hi := (((x).st).length)) (by omega) (by omega) hcap9 hA11 ((Sx.row_reads_at (R := [Sx.row (Kd.int .i64) 3 (A12) (cp13) (List.replicate (n : Int).toNat ((nearV x i).1)), Sx.row (Kd.int .i64) 3 (A) (c) ((x).st), Sx.blk b2 [.slice (none) (0) (0), .int .i64 (0)] 28, Sx.blk b1 [.slice (A) (((x).st).length) (c), .int .i64 ((x).base)] 28] ++ R) (j := 1) rfl) cs_ w_ h_)) h) ?_
    rintro e_ w_ ⟨A14, cp15, rfl, h⟩
    refine ⟨_, rfl, ?_⟩
    refine Sx.wl_nil ?_
    refine Sx.qn_wa (Sx.st_selT [false, false, true, false, true] h) ?_
    refine Sx.wa_tk 14 rfl rfl rfl (Sx.st_selT [false, false, true, false, true] h) (fun w_ hS => Sx.ov_build [(0, .slice (A14) ((((((x).st).take ((i : Int).toNat)).drop 0) ++ (List.replicate (n : Int).toNat ((nearV x i).1)) ++ ((((x).st).take (((x).st).length)).drop ((i : Int).toNat))).length) (cp15)), (1, .int .i64 ((x).base))] [.slice (A14) ((((((x).st).take ((i : Int).toNat)).drop 0) ++ (List.replicate (n : Int).toNat ((nearV x i).1)) ++ ((((x).st).take (((x).st).length)).drop ((i : Int).toNat))).length) (cp15), .int .i64 ((x).base)] rfl rfl (by kernel_rfl)) ?_
    refine Sx.wa_one 15 rfl (by kernel_rfl) ?_
    refine Sx.wl_storebN 3 [.slice (A14) ((((((x).st).take ((i : Int).toNat)).drop 0) ++ (List.replicate (n : Int).toNat ((nearV x i).1)) ++ ((((x).st).take (((x).st).length)).drop ((i : Int).toNat))).length) (cp15), .int .i64 ((x).base)] [.slice (A14) ((((((x).st).take ((i : Int).toNat)).drop 0) ++ (List.replicate (n : Int).toNat ((nearV x i).1)) ++ ((((x).st).take (((x).st).length)).drop ((i : Int).toNat))).length) (cp15), .int .i64 ((x).base)] h rfl rfl rfl rfl (by simp [Value.oneCell']) sh28 rfl rfl (fun _ h => ?_)
    refine Sx.wl_nil ?_
    refine Sx.qn_wa (Sx.st_selT [false, false, true, false, true] h) ?_
    refine Sx.wa_tk 16 rfl rfl rfl (Sx.st_selT [false, false, true, false, true] h) (fun w_ hS => Sx.ov_assign _ rfl) ?_
    refine Sx.wa_done (by kernel_rfl) ?_
    refine Sx.qn_then ?_
    refine Sx.wc_ret ?_
    have hend_ := h
    have e_ : ((((x).st).take ((i : Int).toNat)).drop 0) ++ (List.replicate (n : Int).toNat ((nearV x i).1)) ++ ((((x).st).take (((x).st).length)).drop ((i : Int).toNat)) = x.st.take i.toNat ++ List.replicate n.toNat (nearV x i).1 ++ x.st.drop i.toNat := by simp
    replace h := Sx.st_cast (congrArg (fun z_ => ([Sx.row (Kd.int .i64) 3 (A14) (cp15) (z_), Sx.row (Kd.int .i64) 3 (A12) (cp13) (List.replicate (n : Int).toNat ((nearV x i).1)), Sx.row (Kd.int .i64) 3 (A) (c) ((x).st), Sx.blk b2 [.slice (A14) ((((((x).st).take ((i : Int).toNat)).drop 0) ++ (List.replicate (n : Int).toNat ((nearV x i).1)) ++ ((((x).st).take (((x).st).length)).drop ((i : Int).toNat))).length) (cp15), .int .i64 ((x).base)] 28, Sx.blk b1 [.slice (A) (((x).st).length) (c), .int .i64 ((x).base)] 28] ++ R)) e_) h
    clear e_
    replace h := Sx.st_selT [true, false, false, false, false] h
    refine Sx.qn_ret [_, _] ⟨⟨_, rfl, Sx.loadVarN (vs := [.slice (A14) ((((((x).st).take ((i : Int).toNat)).drop 0) ++ (List.replicate (n : Int).toNat ((nearV x i).1)) ++ ((((x).st).take (((x).st).length)).drop ((i : Int).toNat))).length) (cp15), .int .i64 ((x).base)]) sh28 (Sx.blk_cells (cells := [.slice (A14) ((((((x).st).take ((i : Int).toNat)).drop 0) ++ (List.replicate (n : Int).toNat ((nearV x i).1)) ++ ((((x).st).take (((x).st).length)).drop ((i : Int).toNat))).length) (cp15), .int .i64 ((x).base)]) hend_ (i := 3) rfl 0 _ rfl)⟩, rfl, trivial⟩ ?_
    have e_ : insV x i n = (⟨x.st.take i.toNat ++ List.replicate n.toNat (nearV x i).1 ++ x.st.drop i.toNat, x.base⟩, 0) := by unfold insV; rw [if_neg (by omega), if_neg (by omega), if_neg (by omega)]
    rw [e_]
    refine ⟨_, _, ?_, h⟩
    exact congrArg (fun z => Ending.returned (Value.tuple #[Value.agg #[Value.slice A14 z cp15, .int .i64 ((x).base)], .int .i64 (0)])) (by first | rfl | simp)
set_option maxRecDepth 100000 in
theorem rDelete_calls {w0 w : World} {F0 : Nat → Prop} {R : List Sx.HP} (A : Option Addr) (c : Nat) (x : LS) (a b : Int) (hx : x.st.length ≤ 65536) (h : Sx.St w0 F0 ([Sx.row (Kd.int .i64) 3 (A) (c) ((x).st)] ++ R) w) : Calls Try.prog 46 #[.agg #[.slice (A) (((x).st).length) (c), .int .i64 ((x).base)], .int .i64 (a), .int .i64 (b)] w (fun e w1 => ∃ A2 c2, e = .returned (.tuple #[.agg #[.slice A2 (((delV x a b).1).st).length c2, .int .i64 ((delV x a b).1).base], .int .i64 (delV x a b).2]) ∧ Sx.St w0 F0 (Sx.row (Kd.int .i64) 3 A2 c2 ((delV x a b).1).st :: R) w1) := by
 refine Sx.calls_fn (vs := [.agg #[.slice (A) (((x).st).length) (c), .int .i64 ((x).base)], .int .i64 (a), .int .i64 (b)]) Try.func46 rfl Try.ntmps46 rfl ?_
 refine Sx.wc_seq ?_
 refine Sx.wc_region ?_
 refine Sx.wl_box _ h rfl rfl rfl (fun b1 _ h => ?_)
 replace h : Sx.St _ _ (Sx.blk b1 [.slice (A) (((x).st).length) (c), .int .i64 ((x).base)] 28 :: _) _ := h
 refine Sx.wl_alloc _ h rfl rfl zo28 (fun b2 _ h => ?_)
 replace h : Sx.St _ _ (Sx.blk b2 [.slice (none) (0) (0), .int .i64 (0)] 28 :: _) _ := h
 refine Sx.wl_v rfl rfl (Sx.ov_assign _ rfl) ?_
 refine Sx.wl_nil ?_
 refine Sx.qn_then ?_
 refine Sx.wc_seq ?_
 refine Sx.wc_seq ?_
 refine Sx.wc_region ?_
 refine Sx.wl_v rfl rfl (Sx.ov_loadbN 1 [.slice (A) (((x).st).length) (c), .int .i64 ((x).base)] h rfl rfl sh28 rfl) ?_
 refine Sx.wl_v rfl rfl (Sx.ov_move _ rfl) ?_
 refine Sx.wl_v rfl rfl (Sx.ov_move _ rfl) ?_
 replace h := Sx.st_front 2 h
 refine Sx.wl_call _ rfl rfl rfl ent20 (rSpan_calls (R := [Sx.blk b2 [.slice (none) (0) (0), .int .i64 (0)] 28, Sx.blk b1 [.slice (A) (((x).st).length) (c), .int .i64 ((x).base)] 28] ++ R) (A) (c) x a b  h) ?_
 rintro e_ w_ ⟨rfl, h⟩
 refine ⟨_, rfl, ?_⟩
 refine Sx.wl_v rfl rfl (Sx.ov_assign _ rfl) ?_
 refine Sx.wl_nil ?_
 refine Sx.qn_then ?_
 refine Sx.wc_seq ?_
 refine Sx.wc_region ?_
 refine Sx.wl_v rfl rfl (Sx.ov_move _ rfl) ?_
 refine Sx.wl_v rfl rfl (Sx.ov_bin _ rfl rfl (Sx.binR_neq)) ?_
 refine Sx.wl_nil ?_
 refine Sx.qn_then ?_
 refine Sx.wc_cond (by rfl) (fun c3 => ?_) (fun c3 => ?_)
 ·
  refine Sx.wc_seq ?_
  refine Sx.wc_region ?_
  refine Sx.wl_v rfl rfl (Sx.ov_loadbN 2 [.slice (A) (((x).st).length) (c), .int .i64 ((x).base)] h rfl rfl sh28 rfl) ?_
  refine Sx.wl_v rfl rfl (Sx.ov_move _ rfl) ?_
  refine Sx.wl_storebN 1 [.slice (A) (((x).st).length) (c), .int .i64 ((x).base)] [.slice (A) (((x).st).length) (c), .int .i64 ((x).base)] h rfl rfl rfl rfl (by simp [Value.oneCell']) sh28 rfl rfl (fun _ h => ?_)
  refine Sx.wl_v rfl rfl (Sx.ov_assign _ rfl) ?_
  refine Sx.wl_nil ?_
  refine Sx.qn_then ?_
  refine Sx.wc_ret ?_
  refine Sx.qn_then_ret ?_
  have hend_ := h
  replace h := Sx.st_selT [true, false, false] h
  refine Sx.qn_ret [_, _] ⟨⟨_, rfl, Sx.loadVarN (vs := [.slice (A) (((x).st).length) (c), .int .i64 ((x).base)]) sh28 (Sx.blk_cells (cells := [.slice (A) (((x).st).length) (c), .int .i64 ((x).base)]) hend_ (i := 1) rfl 0 _ rfl)⟩, rfl, trivial⟩ ?_
  have e_ : delV x a b = (x, spanV x a b) := by unfold delV; rw [if_pos (by omega)]
  rw [e_]
  exact ⟨_, _, rfl, h⟩
 ·
  have hok := span_ok c3
  refine Sx.wc_skip ?_
  refine Sx.qn_then ?_
  refine Sx.wc_seq ?_
  refine Sx.wc_region ?_
  refine Sx.wl_v rfl rfl (Sx.ov_fieldAddr _ ⟨b1, 1, none⟩ _ rfl fo28_1 rfl) ?_
  refine Sx.wl_v rfl rfl (Sx.ov_loadb 2 _ h rfl rfl sh3 rfl) ?_
  refine Sx.wl_v rfl rfl (Sx.ov_assign _ rfl) ?_
  refine Sx.wl_nil ?_
  refine Sx.qn_then ?_
  refine Sx.wc_seq ?_
  refine Sx.wc_seq ?_
  refine Sx.wc_region ?_
  refine Sx.wl_v rfl rfl (Sx.ov_fieldAddr _ ⟨b1, 0, none⟩ _ rfl fo28_0 rfl) ?_
  refine Sx.wl_v rfl rfl (Sx.ov_loadb 2 _ h rfl rfl sh26 rfl) ?_
  refine Sx.wl_v rfl rfl (Sx.ov_len _ _ _ _ _ rfl es26) ?_
  refine Sx.wl_v rfl rfl (Sx.ov_bin _ rfl rfl (Sx.binR_gtr)) ?_
  refine Sx.wl_nil ?_
  refine Sx.qn_then ?_
  refine Sx.wc_cond (by rfl) (fun c4 => ?_) (fun c4 => ?_)
  ·
   refine Sx.wc_region ?_
   refine Sx.wl_v rfl rfl (Sx.ov_fieldAddr _ ⟨b1, 0, none⟩ _ rfl fo28_0 rfl) ?_
   refine Sx.wl_v rfl rfl (Sx.ov_loadb 2 _ h rfl rfl sh26 rfl) ?_
   obtain ⟨ad5, rfl⟩ := Sx.C_some ((Sx.row_reads h (i := 0) rfl).2) (k := 0) (by first | assumption | omega)
   refine Sx.wl_v rfl rfl (Sx.ov_indexAddrN _ _ _ _ _ 0 rfl rfl es26 rfl (by first | assumption | omega | (simp only [List.length_take, List.length_drop, List.length_set]; omega))) ?_
   obtain ⟨cl8, _, hk7, hc6⟩ := Sx.C_cells ((Sx.row_reads h (i := 0) rfl).2) (z := (0 : Int)) (k := 0) (by first | assumption | omega)
   obtain rfl : cl8 = [.int .i64 _] := hk7
   refine Sx.wl_v rfl rfl (Sx.ov_load1 _ _ rfl sh3 ((hc6 0 _ rfl))) ?_
   refine Sx.wl_v rfl rfl (Sx.ov_assign _ rfl) ?_
   refine Sx.wl_nil ?_
   refine Sx.qn_then ?_
   refine Sx.wc_seq ?_
   refine Sx.wc_draw (fun w => Sx.St w0 F0 ([Sx.row (Kd.int .i64) 3 (some ad5) (c) ((x).st), Sx.blk b1 [.slice (some ad5) (((x).st).length) (c), .int .i64 ((x).base)] 28] ++ R) w) (by kernel_rfl) ?_
   replace h := Sx.st_drew h
   refine Sx.wa_tk 0 rfl rfl rfl (Sx.st_selT [true, false, true] h) (fun w_ hS => Sx.ov_fieldAddr _ ⟨b1, 0, none⟩ _ rfl fo28_0 rfl) ?_
   refine Sx.wa_tk 1 rfl rfl rfl (Sx.st_selT [true, false, true] h) (fun w_ hS => Sx.ov_loadb 1 _ hS rfl rfl sh26 rfl) ?_
   refine Sx.wa_tk 2 rfl rfl rfl (Sx.st_selT [true, false, true] h) (fun w_ hS => Sx.ov_move _ rfl) ?_
   have hcap9 := (Sx.row_reads h (i := 0) rfl).1
   obtain ⟨A10, hA11⟩ : ∃ A_, (if c = 0 then (some ad5) else Option.map (·.add (0 * 1)) (some ad5)) = A_ := ⟨_, rfl⟩
   refine Sx.wa_tk 3 rfl rfl rfl (Sx.st_selT [true, false, true] h) (fun w_ hS => by exact Sx.ov_slice _ _ _ 0 ((a : Int).toNat) (by rfl) (by exact rfl) (by exact ⟨_, _, rfl, (by omega)⟩) es26 (by omega) (by omega) hA11 (n' := ((((x).st).take ((a : Int).toNat)).drop 0).length) (by simp only [List.length_drop, List.length_take]; omega)) ?_
   refine Sx.wa_tk 4 rfl rfl rfl (Sx.st_selT [true, false, true] h) (fun w_ hS => Sx.ov_fieldAddr _ ⟨b1, 0, none⟩ _ rfl fo28_0 rfl) ?_
   refine Sx.wa_tk 5 rfl rfl rfl (Sx.st_selT [true, false, true] h) (fun w_ hS => Sx.ov_loadb 1 _ hS rfl rfl sh26 rfl) ?_
   refine Sx.wa_tk 6 rfl rfl rfl (Sx.st_selT [true, false, true] h) (fun w_ hS => Sx.ov_move _ rfl) ?_
   have hcap12 := (Sx.row_reads h (i := 0) rfl).1
   obtain ⟨A13, hA14⟩ : ∃ A_, (if c = ((b : Int).toNat) then (some ad5) else Option.map (·.add (((b : Int).toNat) * 1)) (some ad5)) = A_ := ⟨_, rfl⟩
   refine Sx.wa_tk 7 rfl rfl rfl (Sx.st_selT [true, false, true] h) (fun w_ hS => by exact Sx.ov_slice _ _ _ ((b : Int).toNat) (((x).st).length) (by rfl) (by exact ⟨_, _, rfl, (by omega)⟩) (by exact rfl) es26 (by omega) (by omega) hA14 (n' := ((((x).st).take (((x).st).length)).drop ((b : Int).toNat)).length) (by simp only [List.length_drop, List.length_take]; omega)) ?_
   refine Sx.wa_tk 9 rfl rfl rfl (Sx.st_selT [true, false, true] h) (fun w_ hS => Sx.ov_move _ rfl) ?_
   refine Sx.wa_one 8 rfl (by kernel_rfl) ?_
   refine Sx.wl_call _ rfl rfl rfl ent49 (three_calls (R := [Sx.row (Kd.int .i64) 3 (some ad5) (c) ((x).st), Sx.blk b2 [.slice (none) (0) (0), .int .i64 (0)] 28, Sx.blk b1 [.slice (some ad5) (((x).st).length) (c), .int .i64 ((x).base)] 28] ++ R) ((((x).st).take ((a : Int).toNat)).drop 0) ([]) ((((x).st).take (((x).st).length)).drop ((b : Int).toNat)) (A10) (none) (A13) (c - 0) (0) (c - ((b : Int).toNat)) (by simp only [List.length_cons, List.length_nil, List.length_append, List.length_take, List.length_drop, List.length_replicate]; omega) (fun cs_ w_ h_ => Sx.mid_C (lo := 0) (hi := ((a : Int).toNat)) (by omega) (by omega) hcap9 hA11 ((Sx.row_reads_at (R := [Sx.row (Kd.int .i64) 3 (some ad5) (c) ((x).st), Sx.blk b2 [.slice (none) (0) (0), .int .i64 (0)] 28, Sx.blk b1 [.slice (some ad5) (((x).st).length) (c), .int .i64 ((x).base)] 28] ++ R) (j := 0) rfl) cs_ w_ h_)) (fun _ _ _ => Kd.C_nil _ _) (fun cs_ w_ h_ => Sx.mid_C (lo := ((b : Int).toNat)) (hi := (((x).st).length)) (by omega) (by omega) hcap12 hA14 ((Sx.row_reads_at (R := [Sx.row (Kd.int .i64) 3 (some ad5) (c) ((x).st), Sx.blk b2 [.slice (none) (0) (0), .int .i64 (0)] 28, Sx.blk b1 [.slice (some ad5) (((x).st).length) (c), .int .i64 ((x).base)] 28] ++ R) (j := 0) rfl) cs_ w_ h_)) h) ?_
   rintro e_ w_ ⟨A15, cp16, rfl, h⟩
   refine ⟨_, rfl, ?_⟩
   refine Sx.wl_nil ?_
   refine Sx.qn_wa (Sx.st_selT [false, true, false, true] h) ?_
   refine Sx.wa_tk 10 rfl rfl rfl (Sx.st_selT [false, true, false, true] h) (fun w_ hS => Sx.ov_build [(0, .slice (A15) ((((((x).st).take ((a : Int).toNat)).drop 0) ++ ([]) ++ ((((x).st).take (((x).st).length)).drop ((b : Int).toNat))).length) (cp16)), (1, .int .i64 (((x).st).getD 0 (0 : Int)))] [.slice (A15) ((((((x).st).take ((a : Int).toNat)).drop 0) ++ ([]) ++ ((((x).st).take (((x).st).length)).drop ((b : Int).toNat))).length) (cp16), .int .i64 (((x).st).getD 0 (0 : Int))] rfl rfl (by kernel_rfl)) ?_
   refine Sx.wa_one 11 rfl (by kernel_rfl) ?_
   refine Sx.wl_storebN 2 [.slice (A15) ((((((x).st).take ((a : Int).toNat)).drop 0) ++ ([]) ++ ((((x).st).take (((x).st).length)).drop ((b : Int).toNat))).length) (cp16), .int .i64 (((x).st).getD 0 (0 : Int))] [.slice (A15) ((((((x).st).take ((a : Int).toNat)).drop 0) ++ ([]) ++ ((((x).st).take (((x).st).length)).drop ((b : Int).toNat))).length) (cp16), .int .i64 (((x).st).getD 0 (0 : Int))] h rfl rfl rfl rfl (by simp [Value.oneCell']) sh28 rfl rfl (fun _ h => ?_)
   refine Sx.wl_nil ?_
   refine Sx.qn_wa (Sx.st_selT [false, true, false, true] h) ?_
   refine Sx.wa_tk 12 rfl rfl rfl (Sx.st_selT [false, true, false, true] h) (fun w_ hS => Sx.ov_assign _ rfl) ?_
   refine Sx.wa_done (by kernel_rfl) ?_
   refine Sx.qn_then ?_
   refine Sx.wc_ret ?_
   have hend_ := h
   have e_ : ((((x).st).take ((a : Int).toNat)).drop 0) ++ ([]) ++ ((((x).st).take (((x).st).length)).drop ((b : Int).toNat)) = x.st.take a.toNat ++ x.st.drop b.toNat := by simp
   replace h := Sx.st_cast (congrArg (fun z_ => ([Sx.row (Kd.int .i64) 3 (A15) (cp16) (z_), Sx.row (Kd.int .i64) 3 (some ad5) (c) ((x).st), Sx.blk b2 [.slice (A15) ((((((x).st).take ((a : Int).toNat)).drop 0) ++ ([]) ++ ((((x).st).take (((x).st).length)).drop ((b : Int).toNat))).length) (cp16), .int .i64 (((x).st).getD 0 (0 : Int))] 28, Sx.blk b1 [.slice (some ad5) (((x).st).length) (c), .int .i64 ((x).base)] 28] ++ R)) e_) h
   clear e_
   replace h := Sx.st_selT [true, false, false, false] h
   refine Sx.qn_ret [_, _] ⟨⟨_, rfl, Sx.loadVarN (vs := [.slice (A15) ((((((x).st).take ((a : Int).toNat)).drop 0) ++ ([]) ++ ((((x).st).take (((x).st).length)).drop ((b : Int).toNat))).length) (cp16), .int .i64 (((x).st).getD 0 (0 : Int))]) sh28 (Sx.blk_cells (cells := [.slice (A15) ((((((x).st).take ((a : Int).toNat)).drop 0) ++ ([]) ++ ((((x).st).take (((x).st).length)).drop ((b : Int).toNat))).length) (cp16), .int .i64 (((x).st).getD 0 (0 : Int))]) hend_ (i := 2) rfl 0 _ rfl)⟩, rfl, trivial⟩ ?_
   have e_ : delV x a b = (⟨x.st.take a.toNat ++ x.st.drop b.toNat, ((x).st).getD 0 (0 : Int)⟩, 0) := by unfold delV; rw [if_neg (by omega)]; rw [if_neg (by omega)]
   rw [e_]
   refine ⟨_, _, ?_, h⟩
   exact congrArg (fun z => Ending.returned (Value.tuple #[Value.agg #[Value.slice A15 z cp16, .int .i64 (((x).st).getD 0 (0 : Int))], .int .i64 (0)])) (by first | rfl | simp)
  ·
   refine Sx.wc_skip ?_
   refine Sx.qn_then ?_
   refine Sx.wc_seq ?_
   refine Sx.wc_draw (fun w => Sx.St w0 F0 ([Sx.row (Kd.int .i64) 3 (A) (c) ((x).st), Sx.blk b1 [.slice (A) (((x).st).length) (c), .int .i64 ((x).base)] 28] ++ R) w) (by kernel_rfl) ?_
   replace h := Sx.st_drew h
   refine Sx.wa_tk 0 rfl rfl rfl (Sx.st_selT [true, false, true] h) (fun w_ hS => Sx.ov_fieldAddr _ ⟨b1, 0, none⟩ _ rfl fo28_0 rfl) ?_
   refine Sx.wa_tk 1 rfl rfl rfl (Sx.st_selT [true, false, true] h) (fun w_ hS => Sx.ov_loadb 1 _ hS rfl rfl sh26 rfl) ?_
   refine Sx.wa_tk 2 rfl rfl rfl (Sx.st_selT [true, false, true] h) (fun w_ hS => Sx.ov_move _ rfl) ?_
   have hcap17 := (Sx.row_reads h (i := 0) rfl).1
   obtain ⟨A18, hA19⟩ : ∃ A_, (if c = 0 then A else Option.map (·.add (0 * 1)) (A)) = A_ := ⟨_, rfl⟩
   refine Sx.wa_tk 3 rfl rfl rfl (Sx.st_selT [true, false, true] h) (fun w_ hS => by exact Sx.ov_slice _ _ _ 0 ((a : Int).toNat) (by rfl) (by exact rfl) (by exact ⟨_, _, rfl, (by omega)⟩) es26 (by omega) (by omega) hA19 (n' := ((((x).st).take ((a : Int).toNat)).drop 0).length) (by simp only [List.length_drop, List.length_take]; omega)) ?_
   refine Sx.wa_tk 4 rfl rfl rfl (Sx.st_selT [true, false, true] h) (fun w_ hS => Sx.ov_fieldAddr _ ⟨b1, 0, none⟩ _ rfl fo28_0 rfl) ?_
   refine Sx.wa_tk 5 rfl rfl rfl (Sx.st_selT [true, false, true] h) (fun w_ hS => Sx.ov_loadb 1 _ hS rfl rfl sh26 rfl) ?_
   refine Sx.wa_tk 6 rfl rfl rfl (Sx.st_selT [true, false, true] h) (fun w_ hS => Sx.ov_move _ rfl) ?_
   have hcap20 := (Sx.row_reads h (i := 0) rfl).1
   obtain ⟨A21, hA22⟩ : ∃ A_, (if c = ((b : Int).toNat) then A else Option.map (·.add (((b : Int).toNat) * 1)) (A)) = A_ := ⟨_, rfl⟩
   refine Sx.wa_tk 7 rfl rfl rfl (Sx.st_selT [true, false, true] h) (fun w_ hS => by exact Sx.ov_slice _ _ _ ((b : Int).toNat) (((x).st).length) (by rfl) (by exact ⟨_, _, rfl, (by omega)⟩) (by exact rfl) es26 (by omega) (by omega) hA22 (n' := ((((x).st).take (((x).st).length)).drop ((b : Int).toNat)).length) (by simp only [List.length_drop, List.length_take]; omega)) ?_
   refine Sx.wa_tk 9 rfl rfl rfl (Sx.st_selT [true, false, true] h) (fun w_ hS => Sx.ov_move _ rfl) ?_
   refine Sx.wa_one 8 rfl (by kernel_rfl) ?_
   refine Sx.wl_call _ rfl rfl rfl ent49 (three_calls (R := [Sx.row (Kd.int .i64) 3 (A) (c) ((x).st), Sx.blk b2 [.slice (none) (0) (0), .int .i64 (0)] 28, Sx.blk b1 [.slice (A) (((x).st).length) (c), .int .i64 ((x).base)] 28] ++ R) ((((x).st).take ((a : Int).toNat)).drop 0) ([]) ((((x).st).take (((x).st).length)).drop ((b : Int).toNat)) (A18) (none) (A21) (c - 0) (0) (c - ((b : Int).toNat)) (by simp only [List.length_cons, List.length_nil, List.length_append, List.length_take, List.length_drop, List.length_replicate]; omega) (fun cs_ w_ h_ => Sx.mid_C (lo := 0) (hi := ((a : Int).toNat)) (by omega) (by omega) hcap17 hA19 ((Sx.row_reads_at (R := [Sx.row (Kd.int .i64) 3 (A) (c) ((x).st), Sx.blk b2 [.slice (none) (0) (0), .int .i64 (0)] 28, Sx.blk b1 [.slice (A) (((x).st).length) (c), .int .i64 ((x).base)] 28] ++ R) (j := 0) rfl) cs_ w_ h_)) (fun _ _ _ => Kd.C_nil _ _) (fun cs_ w_ h_ => Sx.mid_C (lo := ((b : Int).toNat)) (hi := (((x).st).length)) (by omega) (by omega) hcap20 hA22 ((Sx.row_reads_at (R := [Sx.row (Kd.int .i64) 3 (A) (c) ((x).st), Sx.blk b2 [.slice (none) (0) (0), .int .i64 (0)] 28, Sx.blk b1 [.slice (A) (((x).st).length) (c), .int .i64 ((x).base)] 28] ++ R) (j := 0) rfl) cs_ w_ h_)) h) ?_
   rintro e_ w_ ⟨A23, cp24, rfl, h⟩
   refine ⟨_, rfl, ?_⟩
   refine Sx.wl_nil ?_
   refine Sx.qn_wa (Sx.st_selT [false, true, false, true] h) ?_
   refine Sx.wa_tk 10 rfl rfl rfl (Sx.st_selT [false, true, false, true] h) (fun w_ hS => Sx.ov_build [(0, .slice (A23) ((((((x).st).take ((a : Int).toNat)).drop 0) ++ ([]) ++ ((((x).st).take (((x).st).length)).drop ((b : Int).toNat))).length) (cp24)), (1, .int .i64 ((x).base))] [.slice (A23) ((((((x).st).take ((a : Int).toNat)).drop 0) ++ ([]) ++ ((((x).st).take (((x).st).length)).drop ((b : Int).toNat))).length) (cp24), .int .i64 ((x).base)] rfl rfl (by kernel_rfl)) ?_
   refine Sx.wa_one 11 rfl (by kernel_rfl) ?_
   refine Sx.wl_storebN 2 [.slice (A23) ((((((x).st).take ((a : Int).toNat)).drop 0) ++ ([]) ++ ((((x).st).take (((x).st).length)).drop ((b : Int).toNat))).length) (cp24), .int .i64 ((x).base)] [.slice (A23) ((((((x).st).take ((a : Int).toNat)).drop 0) ++ ([]) ++ ((((x).st).take (((x).st).length)).drop ((b : Int).toNat))).length) (cp24), .int .i64 ((x).base)] h rfl rfl rfl rfl (by simp [Value.oneCell']) sh28 rfl rfl (fun _ h => ?_)
   refine Sx.wl_nil ?_
   refine Sx.qn_wa (Sx.st_selT [false, true, false, true] h) ?_
   refine Sx.wa_tk 12 rfl rfl rfl (Sx.st_selT [false, true, false, true] h) (fun w_ hS => Sx.ov_assign _ rfl) ?_
   refine Sx.wa_done (by kernel_rfl) ?_
   refine Sx.qn_then ?_
   refine Sx.wc_ret ?_
   have hend_ := h
   have e_ : ((((x).st).take ((a : Int).toNat)).drop 0) ++ ([]) ++ ((((x).st).take (((x).st).length)).drop ((b : Int).toNat)) = x.st.take a.toNat ++ x.st.drop b.toNat := by simp
   replace h := Sx.st_cast (congrArg (fun z_ => ([Sx.row (Kd.int .i64) 3 (A23) (cp24) (z_), Sx.row (Kd.int .i64) 3 (A) (c) ((x).st), Sx.blk b2 [.slice (A23) ((((((x).st).take ((a : Int).toNat)).drop 0) ++ ([]) ++ ((((x).st).take (((x).st).length)).drop ((b : Int).toNat))).length) (cp24), .int .i64 ((x).base)] 28, Sx.blk b1 [.slice (A) (((x).st).length) (c), .int .i64 ((x).base)] 28] ++ R)) e_) h
   clear e_
   replace h := Sx.st_selT [true, false, false, false] h
   refine Sx.qn_ret [_, _] ⟨⟨_, rfl, Sx.loadVarN (vs := [.slice (A23) ((((((x).st).take ((a : Int).toNat)).drop 0) ++ ([]) ++ ((((x).st).take (((x).st).length)).drop ((b : Int).toNat))).length) (cp24), .int .i64 ((x).base)]) sh28 (Sx.blk_cells (cells := [.slice (A23) ((((((x).st).take ((a : Int).toNat)).drop 0) ++ ([]) ++ ((((x).st).take (((x).st).length)).drop ((b : Int).toNat))).length) (cp24), .int .i64 ((x).base)]) hend_ (i := 2) rfl 0 _ rfl)⟩, rfl, trivial⟩ ?_
   have e_ : delV x a b = (⟨x.st.take a.toNat ++ x.st.drop b.toNat, (x).base⟩, 0) := by unfold delV; rw [if_neg (by omega)]; rw [if_pos (by omega)]
   rw [e_]
   refine ⟨_, _, ?_, h⟩
   exact congrArg (fun z => Ending.returned (Value.tuple #[Value.agg #[Value.slice A23 z cp24, .int .i64 ((x).base)], .int .i64 (0)])) (by first | rfl | simp)
end Go.Proofs.Ytkliboeebookeaa.Runs.D
