/- The walks of Same and of the plain answers. -/
import Derived.Test.YtkliboeebookeaaProg
import Derived.Test.YtkliboeebookeaaSxEq
import Derived.Test.YtkliboeebookeaaSxKinds
import Derived.Test.YtkliboeebookeaaRunsTh
import Derived.Test.YtkliboeebookeaaSxRuns
import Derived.Test.YtkliboeebookeaaSxRunsB
namespace Go.Proofs.Ytkliboeebookeaa.Runs.C
open Go Go.RowKit Go.Proofs.YtkliboeebookeaaW.PrintWords Go.Proofs.Ytkliboeebookeaa.Kinds Go.Proofs.Ytkliboeebookeaa.Runs Go.Proofs.Ytkliboeebookeaa.Runs.B
set_option linter.unusedVariables false
set_option linter.unusedSimpArgs false
theorem es33 : Sx.elemSz Try.prog 33 = some (66, 2) := by kernel_rfl
theorem sh66 : Sx.shapeOf Try.prog 66 = some (true, 2) := by kernel_rfl
theorem zo66 : Sx.zeroOf Try.prog 66 = some (.agg #[.int .i64 (0), .int .i64 (0)]) := by kernel_rfl
theorem fo66_0 : Sx.fieldOff Try.prog 66 0 = some 0 := by kernel_rfl
theorem sh3 : Sx.shapeOf Try.prog 3 = some (false, 1) := by kernel_rfl
theorem fo66_1 : Sx.fieldOff Try.prog 66 1 = some 1 := by kernel_rfl
theorem ent40 : Sx.Ent Try.prog 40 := ⟨Try.f40, Try.func40, by kernel_rfl, by kernel_rfl⟩
theorem fo72_0 : Sx.fieldOff Try.prog 72 0 = some 0 := by kernel_rfl
theorem sh33 : Sx.shapeOf Try.prog 33 = some (false, 1) := by kernel_rfl
theorem eqs66 : (Try.prog.stoodInHeld 66 || Try.prog.eqGuardType Try.prog.depth 66) = false := by kernel_rfl
theorem eqf66 : Try.prog.underlying 66 = some (.struct (Try.prog.fieldsOf 66)) := by kernel_rfl

theorem take_next_eq {α : Type} {L M : List α} {k : Nat} (h : L.take k = M.take k) (hk : k < L.length) (hl : L.length = M.length) (z : α) (e : L.getD k z = M.getD k z) : L.take (k + 1) = M.take (k + 1) := by
  rw [take_next L k hk z, take_next M k (by omega) z, h, e]
theorem take_all_eq {α : Type} {L M : List α} {k : Nat} (h : L.take k = M.take k) (hk : ¬ (k < L.length)) (hl : L.length = M.length) : L = M := by
  rw [List.take_of_length_le (by omega), List.take_of_length_le (by omega)] at h; exact h
theorem exp_runs_len : ∀ (l : List Rn), (runsOf (expand l)).length ≤ l.length := by
  intro l
  obtain ⟨m, rfl⟩ : ∃ m : List Rn, l = m.reverse := ⟨l.reverse, by simp⟩
  induction m with
  | nil => simp [expand, runsOf_nil]
  | cons r m ih =>
    rw [List.reverse_cons]
    have e : expand (m.reverse ++ [r]) = expand m.reverse ++ List.replicate r.f0.toNat r.f1 := by simp [expand]
    rw [e, runsOf_rep]
    unfold putL
    split
    · simp at ih ⊢; omega
    · split
      · split
        · simp at ih ⊢; omega
        · simp at ih ⊢; omega
      · simp at ih ⊢
theorem exp_take_le (l : List Rn) (k : Nat) : (expand (l.take k)).length ≤ (expand l).length := posR_le l k
theorem rn_ext {r q : Rn} (h : r.f0 = q.f0 ∧ r.f1 = q.f1) : r = q := by cases r; cases q; simp_all
def sameV (a b : List Rn) : Bool := decide (runsOf (expand a) = runsOf (expand b))

set_option maxRecDepth 100000 in
theorem Same_calls {w0 w : World} {F0 : Nat → Prop} {R : List Sx.HP} (a b : List Rn) (Aa Ab : Option Addr) (ca cb : Nat) (ha1 : (expand a).length ≤ 1152921504606846976) (hb1 : (expand b).length ≤ 1152921504606846976) (ha2 : a.length ≤ 1099511627776) (hb2 : b.length ≤ 1099511627776) (ha : ∀ cs w, Sx.St w0 F0 (cs ++ R) w → k66.C w Aa a.length a) (hb : ∀ cs w, Sx.St w0 F0 (cs ++ R) w → k66.C w Ab b.length b) (h : Sx.St w0 F0 ([] ++ R) w) : Calls Try.prog 33 #[.slice (Aa) (a.length) (ca), .slice (Ab) (b.length) (cb)] w (fun e w1 => e = .returned (.bool (sameV a b)) ∧ Sx.St w0 F0 R w1) := by
 refine Sx.calls_fn (vs := [.slice (Aa) (a.length) (ca), .slice (Ab) (b.length) (cb)]) Try.func33 rfl Try.ntmps33 rfl ?_
 refine Sx.wc_seq ?_
 refine Sx.wc_region ?_
 refine Sx.wl_v rfl rfl (Sx.ov_assign _ rfl) ?_
 refine Sx.wl_nil ?_
 refine Sx.qn_then ?_
 refine Sx.wc_seq ?_
 refine Sx.wc_region ?_
 refine Sx.wl_v rfl rfl (Sx.ov_build [] [.slice (none) (0) (0), .int .i64 (0), .int .i64 (0)] rfl rfl (by kernel_rfl)) ?_
 refine Sx.wl_box _ h rfl rfl rfl (fun b1 _ h => ?_)
 replace h : Sx.St _ _ (Sx.blk b1 [.slice (none) (0) (0), .int .i64 (0), .int .i64 (0)] 72 :: _) _ := h
 refine Sx.wl_v rfl rfl (Sx.ov_build [] [.slice (none) (0) (0), .int .i64 (0), .int .i64 (0)] rfl rfl (by kernel_rfl)) ?_
 refine Sx.wl_box _ h rfl rfl rfl (fun b2 _ h => ?_)
 replace h : Sx.St _ _ (Sx.blk b2 [.slice (none) (0) (0), .int .i64 (0), .int .i64 (0)] 72 :: _) _ := h
 refine Sx.wl_v rfl rfl (Sx.ov_assign _ rfl) ?_
 refine Sx.wl_v rfl rfl (Sx.ov_assign _ rfl) ?_
 refine Sx.wl_nil ?_
 refine Sx.qn_then ?_
 refine Sx.wc_seq ?_
 refine Sx.wc_seq ?_
 refine Sx.wc_region ?_
 refine Sx.wl_v rfl rfl (Sx.ov_move _ rfl) ?_
 refine Sx.wl_v rfl rfl (Sx.ov_len _ _ _ _ _ rfl es33) ?_
 refine Sx.wl_v rfl rfl (Sx.ov_move _ rfl) ?_
 refine Sx.wl_nil ?_
 refine Sx.qn_then ?_
 refine Sx.wc_block ?_
 replace h := Sx.st_nilrow k66 66 h
 replace h := Sx.st_front 2 h
 replace h := listS_close (σ := []) (by first | rfl | simp) (by first | rfl | simp) h
 replace h := Sx.st_nilrow k66 66 h
 replace h := Sx.st_front 2 h
 replace h := listS_close (σ := []) (by first | rfl | simp) (by first | rfl | simp) h
 have e_ : (⟨[], 0⟩ : LS) = (⟨expand (a.take 0), 0⟩ : LS) := by rfl
 replace h := Sx.st_cast (congrArg (fun z_ => ([listS b2 ((⟨[], 0⟩ : LS)), listS b1 (z_)] ++ R)) e_) h
 clear e_
 replace h := Sx.st_front 1 h
 refine Sx.wc_loop (fun (x_ : Nat) => [(0, .slice (Aa) (a.length) (ca)), (1, .slice (Ab) (b.length) (cb)), (5, .pointer (some ⟨b1, 0, none⟩)), (6, .pointer (some ⟨b2, 0, none⟩)), (17, .slice (Aa) (a.length) (ca)), (18, .int .i64 ((a.length : Int))), (19, .int .i64 ((x_ : Int)))]) (fun (x_ : Nat) (w : World) => (x_ ≤ a.length) ∧ Sx.St w0 F0 ([listS b1 ((⟨expand (a.take x_), 0⟩ : LS)), listS b2 ((⟨[], 0⟩ : LS))] ++ R) w) (fun (x_ : Nat) => a.length - x_) (0) ?_ ?_ ?_
 · exact ⟨rfl, rfl, rfl, rfl, rfl, (congrArg (fun z_ => some (Value.int .i64 z_)) (show (((a.length : Nat) : Int) : Int) = (a.length : Int) by omega)), (congrArg (fun z_ => some (Value.int .i64 z_)) (show (0 : Int) = (0 : Int) by omega)), trivial⟩
 · exact ⟨by first | omega | simp, h⟩
 intro k w h
 obtain ⟨hJ, h⟩ := h
 replace hJ : k ≤ a.length := hJ
 replace h : Sx.St w0 F0 ([listS b1 ((⟨expand (a.take k), 0⟩ : LS)), listS b2 ((⟨[], 0⟩ : LS))] ++ R) w := h
 show Sx.WC _ _ _ _ [(0, .slice (Aa) (a.length) (ca)), (1, .slice (Ab) (b.length) (cb)), (5, .pointer (some ⟨b1, 0, none⟩)), (6, .pointer (some ⟨b2, 0, none⟩)), (17, .slice (Aa) (a.length) (ca)), (18, .int .i64 ((a.length : Int))), (19, .int .i64 ((k : Int)))] _
 refine Sx.wc_seq ?_
 refine Sx.wc_region ?_
 refine Sx.wl_v rfl rfl (Sx.ov_bin _ rfl rfl (Sx.binR_lss)) ?_
 refine Sx.wl_nil ?_
 refine Sx.qn_then ?_
 refine Sx.wc_seq ?_
 refine Sx.wc_cond (by rfl) (fun c3 => ?_) (fun c3 => ?_)
 ·
  have hk : k < a.length := by omega
  have hxn := expand_next hk z66
  have hl1 := exp_take_le a k
  have hl2 := exp_take_le a (k + 1)
  have hl3 := exp_runs_len (a.take k)
  have hl4 : (expand (a.take (k + 1))).length = (expand (a.take k)).length + (a.getD k z66).f0.toNat := by rw [hxn]; simp
  refine Sx.wc_skip ?_
  refine Sx.qn_then ?_
  refine Sx.wc_seq ?_
  refine Sx.wc_block ?_
  refine Sx.wc_seq ?_
  refine Sx.wc_region ?_
  obtain ⟨ad4, rfl⟩ := Sx.C_some ((ha [_, _] _ h)) (k := k) (by first | assumption | omega)
  refine Sx.wl_v rfl rfl (Sx.ov_indexAddrN _ _ _ _ _ k rfl rfl es33 rfl (by first | assumption | omega | (simp only [List.length_take, List.length_drop, List.length_set]; omega))) ?_
  obtain ⟨cl7, _, hk6, hc5⟩ := Sx.C_cells ((ha [_, _] _ h)) (z := z66) (k := k) (by first | assumption | omega)
  obtain rfl := k66_open hk6
  refine Sx.wl_v rfl rfl (Sx.ov_loadN _ [.int .i64 (((a).getD k z66).f0), .int .i64 (((a).getD k z66).f1)] rfl sh66 (by intro j u hu; rw [Deep.add_add]; exact (hc5 _ _ hu))) ?_
  refine Sx.wl_alloc _ h rfl rfl zo66 (fun b8 _ h => ?_)
  replace h : Sx.St _ _ (Sx.blk b8 [.int .i64 (0), .int .i64 (0)] 66 :: _) _ := h
  refine Sx.wl_storebN 0 [.int .i64 (((a).getD k z66).f0), .int .i64 (((a).getD k z66).f1)] [.int .i64 (((a).getD k z66).f0), .int .i64 (((a).getD k z66).f1)] h rfl rfl rfl rfl (by simp [Value.oneCell']) sh66 rfl rfl (fun _ h => ?_)
  refine Sx.wl_nil ?_
  refine Sx.qn_then ?_
  refine Sx.wc_region ?_
  refine Sx.wl_v rfl rfl (Sx.ov_move _ rfl) ?_
  refine Sx.wl_v rfl rfl (Sx.ov_fieldAddr _ ⟨b8, 0, none⟩ _ rfl fo66_0 rfl) ?_
  refine Sx.wl_v rfl rfl (Sx.ov_loadb 0 _ h rfl rfl sh3 rfl) ?_
  refine Sx.wl_v rfl rfl (Sx.ov_fieldAddr _ ⟨b8, 1, none⟩ _ rfl fo66_1 rfl) ?_
  refine Sx.wl_v rfl rfl (Sx.ov_loadb 0 _ h rfl rfl sh3 rfl) ?_
  replace h := Sx.st_front 1 h
  refine Sx.wl_call _ rfl rfl rfl ent40 (put_S b1 ((⟨expand (a.take k), 0⟩ : LS)) (((a).getD k z66).f0) (((a).getD k z66).f1) (by dsimp only; omega) (by refine Nat.le_trans hl3 ?_; rw [List.length_take]; omega) h) ?_
  rintro e_ w_ ⟨rfl, h⟩
  refine ⟨_, rfl, ?_⟩
  refine Sx.wl_nil ?_
  refine Sx.qn_block_normal ?_
  refine Sx.qn_then ?_
  refine Sx.wc_region ?_
  refine Sx.wl_v rfl rfl (Sx.ov_bin _ rfl rfl (Sx.binR_add (r := ((k : Int)) + 1) (Sx.w64 (by omega)))) ?_
  refine Sx.wl_v rfl rfl (Sx.ov_move _ rfl) ?_
  refine Sx.wl_nil ?_
  have e_ : (⟨((⟨expand (a.take k), 0⟩ : LS)).st ++ List.replicate ((((a).getD k z66).f0) : Int).toNat (((a).getD k z66).f1), ((⟨expand (a.take k), 0⟩ : LS)).base⟩ : LS) = (⟨expand (a.take (k + 1)), 0⟩ : LS) := by rw [hxn]
  replace h := Sx.st_cast (congrArg (fun z_ => ([listS b1 (z_), Sx.blk b8 [.int .i64 (((a).getD k z66).f0), .int .i64 (((a).getD k z66).f1)] 66, listS b2 ((⟨[], 0⟩ : LS))] ++ R)) e_) h
  clear e_
  replace h := Sx.st_front 2 h
  replace h := Sx.st_front 1 h
  replace h := Sx.st_selT [true, true, false] h
  refine Sx.qn_next ((k + 1)) (by show a.length - (k + 1) < a.length - k; omega) ⟨(congrArg (fun z_ => some (Value.slice (some ad4) z_ (ca))) (show (a.length : Nat) = a.length by first | rfl | simp)), rfl, rfl, rfl, (congrArg (fun z_ => some (Value.slice (some ad4) z_ (ca))) (show (a.length : Nat) = a.length by first | rfl | simp)), rfl, (congrArg (fun z_ => some (Value.int .i64 z_)) (show (((k : Int)) + 1 : Int) = ((k + 1) : Int) by omega)), trivial⟩ ?_
  show ((k + 1) ≤ a.length) ∧ _
  exact ⟨by first | omega | simp, h⟩
 ·
  have e_ : (⟨expand (a.take k), 0⟩ : LS) = (⟨expand a, 0⟩ : LS) := by rw [show k = a.length by omega, List.take_length]
  replace h := Sx.st_cast (congrArg (fun z_ => ([listS b1 (z_), listS b2 ((⟨[], 0⟩ : LS))] ++ R)) e_) h
  clear e_
  refine Sx.wc_exit ?_
  refine Sx.qn_then_exit ?_
  refine Sx.qn_then_exit ?_
  refine Sx.qn_block_exit ?_
  refine Sx.qn_then ?_
  refine Sx.wc_seq ?_
  refine Sx.wc_seq ?_
  refine Sx.wc_region ?_
  refine Sx.wl_v rfl rfl (Sx.ov_move _ rfl) ?_
  refine Sx.wl_v rfl rfl (Sx.ov_len _ _ _ _ _ rfl es33) ?_
  refine Sx.wl_v rfl rfl (Sx.ov_move _ rfl) ?_
  refine Sx.wl_nil ?_
  refine Sx.qn_then ?_
  refine Sx.wc_block ?_
  have e_ : (⟨[], 0⟩ : LS) = (⟨expand (b.take 0), 0⟩ : LS) := by rfl
  replace h := Sx.st_cast (congrArg (fun z_ => ([listS b1 ((⟨expand a, 0⟩ : LS)), listS b2 (z_)] ++ R)) e_) h
  clear e_
  replace h := Sx.st_front 1 h
  refine Sx.wc_loop (fun (x_ : Nat) => [(0, .slice (Aa) (a.length) (ca)), (1, .slice (Ab) (b.length) (cb)), (5, .pointer (some ⟨b1, 0, none⟩)), (6, .pointer (some ⟨b2, 0, none⟩)), (30, .slice (Ab) (b.length) (cb)), (31, .int .i64 ((b.length : Int))), (32, .int .i64 ((x_ : Int)))]) (fun (x_ : Nat) (w : World) => (x_ ≤ b.length) ∧ Sx.St w0 F0 ([listS b2 ((⟨expand (b.take x_), 0⟩ : LS)), listS b1 ((⟨expand a, 0⟩ : LS))] ++ R) w) (fun (x_ : Nat) => b.length - x_) (0) ?_ ?_ ?_
  · exact ⟨rfl, rfl, rfl, rfl, rfl, (congrArg (fun z_ => some (Value.int .i64 z_)) (show (((b.length : Nat) : Int) : Int) = (b.length : Int) by omega)), (congrArg (fun z_ => some (Value.int .i64 z_)) (show (0 : Int) = (0 : Int) by omega)), trivial⟩
  · exact ⟨by first | omega | simp, h⟩
  intro j w h
  obtain ⟨hJ, h⟩ := h
  replace hJ : j ≤ b.length := hJ
  replace h : Sx.St w0 F0 ([listS b2 ((⟨expand (b.take j), 0⟩ : LS)), listS b1 ((⟨expand a, 0⟩ : LS))] ++ R) w := h
  show Sx.WC _ _ _ _ [(0, .slice (Aa) (a.length) (ca)), (1, .slice (Ab) (b.length) (cb)), (5, .pointer (some ⟨b1, 0, none⟩)), (6, .pointer (some ⟨b2, 0, none⟩)), (30, .slice (Ab) (b.length) (cb)), (31, .int .i64 ((b.length : Int))), (32, .int .i64 ((j : Int)))] _
  refine Sx.wc_seq ?_
  refine Sx.wc_region ?_
  refine Sx.wl_v rfl rfl (Sx.ov_bin _ rfl rfl (Sx.binR_lss)) ?_
  refine Sx.wl_nil ?_
  refine Sx.qn_then ?_
  refine Sx.wc_seq ?_
  refine Sx.wc_cond (by rfl) (fun c9 => ?_) (fun c9 => ?_)
  ·
   have hk : j < b.length := by omega
   have hxn := expand_next hk z66
   have hl1 := exp_take_le b j
   have hl2 := exp_take_le b (j + 1)
   have hl3 := exp_runs_len (b.take j)
   have hl4 : (expand (b.take (j + 1))).length = (expand (b.take j)).length + (b.getD j z66).f0.toNat := by rw [hxn]; simp
   refine Sx.wc_skip ?_
   refine Sx.qn_then ?_
   refine Sx.wc_seq ?_
   refine Sx.wc_block ?_
   refine Sx.wc_seq ?_
   refine Sx.wc_region ?_
   obtain ⟨ad10, rfl⟩ := Sx.C_some ((hb [_, _] _ h)) (k := j) (by first | assumption | omega)
   refine Sx.wl_v rfl rfl (Sx.ov_indexAddrN _ _ _ _ _ j rfl rfl es33 rfl (by first | assumption | omega | (simp only [List.length_take, List.length_drop, List.length_set]; omega))) ?_
   obtain ⟨cl13, _, hk12, hc11⟩ := Sx.C_cells ((hb [_, _] _ h)) (z := z66) (k := j) (by first | assumption | omega)
   obtain rfl := k66_open hk12
   refine Sx.wl_v rfl rfl (Sx.ov_loadN _ [.int .i64 (((b).getD j z66).f0), .int .i64 (((b).getD j z66).f1)] rfl sh66 (by intro j u hu; rw [Deep.add_add]; exact (hc11 _ _ hu))) ?_
   refine Sx.wl_alloc _ h rfl rfl zo66 (fun b14 _ h => ?_)
   replace h : Sx.St _ _ (Sx.blk b14 [.int .i64 (0), .int .i64 (0)] 66 :: _) _ := h
   refine Sx.wl_storebN 0 [.int .i64 (((b).getD j z66).f0), .int .i64 (((b).getD j z66).f1)] [.int .i64 (((b).getD j z66).f0), .int .i64 (((b).getD j z66).f1)] h rfl rfl rfl rfl (by simp [Value.oneCell']) sh66 rfl rfl (fun _ h => ?_)
   refine Sx.wl_nil ?_
   refine Sx.qn_then ?_
   refine Sx.wc_region ?_
   refine Sx.wl_v rfl rfl (Sx.ov_move _ rfl) ?_
   refine Sx.wl_v rfl rfl (Sx.ov_fieldAddr _ ⟨b14, 0, none⟩ _ rfl fo66_0 rfl) ?_
   refine Sx.wl_v rfl rfl (Sx.ov_loadb 0 _ h rfl rfl sh3 rfl) ?_
   refine Sx.wl_v rfl rfl (Sx.ov_fieldAddr _ ⟨b14, 1, none⟩ _ rfl fo66_1 rfl) ?_
   refine Sx.wl_v rfl rfl (Sx.ov_loadb 0 _ h rfl rfl sh3 rfl) ?_
   replace h := Sx.st_front 1 h
   refine Sx.wl_call _ rfl rfl rfl ent40 (put_S b2 ((⟨expand (b.take j), 0⟩ : LS)) (((b).getD j z66).f0) (((b).getD j z66).f1) (by dsimp only; omega) (by refine Nat.le_trans hl3 ?_; rw [List.length_take]; omega) h) ?_
   rintro e_ w_ ⟨rfl, h⟩
   refine ⟨_, rfl, ?_⟩
   refine Sx.wl_nil ?_
   refine Sx.qn_block_normal ?_
   refine Sx.qn_then ?_
   refine Sx.wc_region ?_
   refine Sx.wl_v rfl rfl (Sx.ov_bin _ rfl rfl (Sx.binR_add (r := ((j : Int)) + 1) (Sx.w64 (by omega)))) ?_
   refine Sx.wl_v rfl rfl (Sx.ov_move _ rfl) ?_
   refine Sx.wl_nil ?_
   have e_ : (⟨((⟨expand (b.take j), 0⟩ : LS)).st ++ List.replicate ((((b).getD j z66).f0) : Int).toNat (((b).getD j z66).f1), ((⟨expand (b.take j), 0⟩ : LS)).base⟩ : LS) = (⟨expand (b.take (j + 1)), 0⟩ : LS) := by rw [hxn]
   replace h := Sx.st_cast (congrArg (fun z_ => ([listS b2 (z_), Sx.blk b14 [.int .i64 (((b).getD j z66).f0), .int .i64 (((b).getD j z66).f1)] 66, listS b1 ((⟨expand a, 0⟩ : LS))] ++ R)) e_) h
   clear e_
   replace h := Sx.st_front 2 h
   replace h := Sx.st_front 1 h
   replace h := Sx.st_selT [true, true, false] h
   refine Sx.qn_next ((j + 1)) (by show b.length - (j + 1) < b.length - j; omega) ⟨rfl, (congrArg (fun z_ => some (Value.slice (some ad10) z_ (cb))) (show (b.length : Nat) = b.length by first | rfl | simp)), rfl, rfl, (congrArg (fun z_ => some (Value.slice (some ad10) z_ (cb))) (show (b.length : Nat) = b.length by first | rfl | simp)), rfl, (congrArg (fun z_ => some (Value.int .i64 z_)) (show (((j : Int)) + 1 : Int) = ((j + 1) : Int) by omega)), trivial⟩ ?_
   show ((j + 1) ≤ b.length) ∧ _
   exact ⟨by first | omega | simp, h⟩
  ·
   have e_ : (⟨expand (b.take j), 0⟩ : LS) = (⟨expand b, 0⟩ : LS) := by rw [show j = b.length by omega, List.take_length]
   replace h := Sx.st_cast (congrArg (fun z_ => ([listS b2 (z_), listS b1 ((⟨expand a, 0⟩ : LS))] ++ R)) e_) h
   clear e_
   refine Sx.wc_exit ?_
   refine Sx.qn_then_exit ?_
   refine Sx.qn_then_exit ?_
   refine Sx.qn_block_exit ?_
   refine Sx.qn_then ?_
   refine Sx.wc_seq ?_
   refine Sx.wc_seq ?_
   replace h := Sx.st_front 1 h
   obtain ⟨A15, c16, h⟩ := listS_open h
   replace h : Sx.St _ _ (Sx.blk b1 [.slice (A15) ((runsOf (expand a)).length) (c16), .int .i64 ((((expand a)).length : Int)), .int .i64 ((0))] 72 :: Sx.row k66 66 (A15) (c16) (runsOf (expand a)) :: _) _ := h
   replace h := Sx.st_front 2 h
   obtain ⟨A17, c18, h⟩ := listS_open h
   replace h : Sx.St _ _ (Sx.blk b2 [.slice (A17) ((runsOf (expand b)).length) (c18), .int .i64 ((((expand b)).length : Int)), .int .i64 ((0))] 72 :: Sx.row k66 66 (A17) (c18) (runsOf (expand b)) :: _) _ := h
   refine Sx.wc_draw (fun w => Sx.St w0 F0 ([Sx.blk b2 [.slice (A17) ((runsOf (expand b)).length) (c18), .int .i64 ((((expand b)).length : Int)), .int .i64 ((0))] 72, Sx.row k66 66 (A17) (c18) (runsOf (expand b)), Sx.blk b1 [.slice (A15) ((runsOf (expand a)).length) (c16), .int .i64 ((((expand a)).length : Int)), .int .i64 ((0))] 72, Sx.row k66 66 (A15) (c16) (runsOf (expand a))] ++ R) w) (by kernel_rfl) ?_
   replace h := Sx.st_drew h
   refine Sx.wa_tk 0 rfl rfl rfl (Sx.st_selT [true, true, true, true] h) (fun w_ hS => Sx.ov_move _ rfl) ?_
   refine Sx.wa_tk 1 rfl rfl rfl (Sx.st_selT [true, true, true, true] h) (fun w_ hS => Sx.ov_nilCheck _ rfl) ?_
   refine Sx.wa_tk 2 rfl rfl rfl (Sx.st_selT [true, true, true, true] h) (fun w_ hS => Sx.ov_fieldAddr _ ⟨b1, 0, none⟩ _ rfl fo72_0 rfl) ?_
   refine Sx.wa_tk 3 rfl rfl rfl (Sx.st_selT [true, true, true, true] h) (fun w_ hS => Sx.ov_loadb 2 _ hS rfl rfl sh33 rfl) ?_
   refine Sx.wa_tk 4 rfl rfl rfl (Sx.st_selT [true, true, true, true] h) (fun w_ hS => Sx.ov_len _ _ _ _ _ rfl es33) ?_
   refine Sx.wa_tk 5 rfl rfl rfl (Sx.st_selT [true, true, true, true] h) (fun w_ hS => Sx.ov_move _ rfl) ?_
   refine Sx.wa_tk 6 rfl rfl rfl (Sx.st_selT [true, true, true, true] h) (fun w_ hS => Sx.ov_nilCheck _ rfl) ?_
   refine Sx.wa_tk 7 rfl rfl rfl (Sx.st_selT [true, true, true, true] h) (fun w_ hS => Sx.ov_fieldAddr _ ⟨b2, 0, none⟩ _ rfl fo72_0 rfl) ?_
   refine Sx.wa_tk 8 rfl rfl rfl (Sx.st_selT [true, true, true, true] h) (fun w_ hS => Sx.ov_loadb 0 _ hS rfl rfl sh33 rfl) ?_
   refine Sx.wa_tk 9 rfl rfl rfl (Sx.st_selT [true, true, true, true] h) (fun w_ hS => Sx.ov_len _ _ _ _ _ rfl es33) ?_
   refine Sx.wa_tk 10 rfl rfl rfl (Sx.st_selT [true, true, true, true] h) (fun w_ hS => Sx.ov_bin _ rfl rfl (Sx.binR_neq)) ?_
   refine Sx.wa_done (by kernel_rfl) ?_
   refine Sx.qn_then ?_
   refine Sx.wc_cond (by rfl) (fun c19 => ?_) (fun c19 => ?_)
   ·
    refine Sx.wc_seq ?_
    refine Sx.wc_region ?_
    refine Sx.wl_v rfl rfl (Sx.ov_assign _ rfl) ?_
    refine Sx.wl_nil ?_
    refine Sx.qn_then ?_
    refine Sx.wc_ret ?_
    refine Sx.qn_then_ret ?_
    replace h := Sx.st_selT [false, false, false, false] h
    refine Sx.qn_ret [_] ⟨rfl, trivial⟩ ?_
    have e_ : sameV a b = false := decide_eq_false (fun e => by have := congrArg List.length e; omega)
    rw [e_]
    exact ⟨rfl, h⟩
   ·
    refine Sx.wc_skip ?_
    refine Sx.qn_then ?_
    refine Sx.wc_seq ?_
    refine Sx.wc_seq ?_
    refine Sx.wc_region ?_
    refine Sx.wl_v rfl rfl (Sx.ov_move _ rfl) ?_
    refine Sx.wl_v rfl rfl (Sx.ov_nilCheck _ rfl) ?_
    refine Sx.wl_v rfl rfl (Sx.ov_fieldAddr _ ⟨b1, 0, none⟩ _ rfl fo72_0 rfl) ?_
    refine Sx.wl_v rfl rfl (Sx.ov_loadb 2 _ h rfl rfl sh33 rfl) ?_
    refine Sx.wl_v rfl rfl (Sx.ov_len _ _ _ _ _ rfl es33) ?_
    refine Sx.wl_v rfl rfl (Sx.ov_move _ rfl) ?_
    refine Sx.wl_nil ?_
    refine Sx.qn_then ?_
    refine Sx.wc_block ?_
    have hlen2 : (runsOf (expand a)).length = (runsOf (expand b)).length := by omega
    have hl5 := exp_runs_len a
    replace h := Sx.st_front 1 h
    replace h := Sx.st_front 1 h
    replace h := Sx.st_front 3 h
    replace h := Sx.st_front 3 h
    refine Sx.wc_loop (fun (x_ : Nat) => [(5, .pointer (some ⟨b1, 0, none⟩)), (6, .pointer (some ⟨b2, 0, none⟩)), (57, .slice (A15) ((runsOf (expand a)).length) (c16)), (58, .int .i64 (((runsOf (expand a)).length : Int))), (59, .int .i64 ((x_ : Int)))]) (fun (x_ : Nat) (w : World) => (x_ ≤ (runsOf (expand a)).length ∧ (runsOf (expand a)).take x_ = (runsOf (expand b)).take x_) ∧ Sx.St w0 F0 ([Sx.blk b1 [.slice (A15) ((runsOf (expand a)).length) (c16), .int .i64 ((((expand a)).length : Int)), .int .i64 ((0))] 72, Sx.row k66 66 (A15) (c16) (runsOf (expand a)), Sx.blk b2 [.slice (A17) ((runsOf (expand b)).length) (c18), .int .i64 ((((expand b)).length : Int)), .int .i64 ((0))] 72, Sx.row k66 66 (A17) (c18) (runsOf (expand b))] ++ R) w) (fun (x_ : Nat) => (runsOf (expand a)).length - x_) (0) ?_ ?_ ?_
    · exact ⟨rfl, rfl, rfl, (congrArg (fun z_ => some (Value.int .i64 z_)) (show ((((runsOf (expand a)).length : Nat) : Int) : Int) = ((runsOf (expand a)).length : Int) by omega)), (congrArg (fun z_ => some (Value.int .i64 z_)) (show (0 : Int) = (0 : Int) by omega)), trivial⟩
    · exact ⟨⟨Nat.zero_le _, rfl⟩, h⟩
    intro m w h
    obtain ⟨hJ, h⟩ := h
    replace hJ : m ≤ (runsOf (expand a)).length ∧ (runsOf (expand a)).take m = (runsOf (expand b)).take m := hJ
    replace h : Sx.St w0 F0 ([Sx.blk b1 [.slice (A15) ((runsOf (expand a)).length) (c16), .int .i64 ((((expand a)).length : Int)), .int .i64 ((0))] 72, Sx.row k66 66 (A15) (c16) (runsOf (expand a)), Sx.blk b2 [.slice (A17) ((runsOf (expand b)).length) (c18), .int .i64 ((((expand b)).length : Int)), .int .i64 ((0))] 72, Sx.row k66 66 (A17) (c18) (runsOf (expand b))] ++ R) w := h
    show Sx.WC _ _ _ _ [(5, .pointer (some ⟨b1, 0, none⟩)), (6, .pointer (some ⟨b2, 0, none⟩)), (57, .slice (A15) ((runsOf (expand a)).length) (c16)), (58, .int .i64 (((runsOf (expand a)).length : Int))), (59, .int .i64 ((m : Int)))] _
    refine Sx.wc_seq ?_
    refine Sx.wc_region ?_
    refine Sx.wl_v rfl rfl (Sx.ov_bin _ rfl rfl (Sx.binR_lss)) ?_
    refine Sx.wl_nil ?_
    refine Sx.qn_then ?_
    refine Sx.wc_seq ?_
    refine Sx.wc_cond (by rfl) (fun c20 => ?_) (fun c20 => ?_)
    ·
     have hk : m < (runsOf (expand a)).length := by omega
     refine Sx.wc_skip ?_
     refine Sx.qn_then ?_
     refine Sx.wc_seq ?_
     refine Sx.wc_block ?_
     refine Sx.wc_seq ?_
     refine Sx.wc_region ?_
     refine Sx.wl_v rfl rfl (Sx.ov_move _ rfl) ?_
     obtain ⟨ad21, rfl⟩ := Sx.C_some ((Sx.row_reads h (i := 1) rfl).2) (k := m) (by first | assumption | omega)
     refine Sx.wl_v rfl rfl (Sx.ov_indexAddrN _ _ _ _ _ m rfl rfl es33 rfl (by first | assumption | omega | (simp only [List.length_take, List.length_drop, List.length_set]; omega))) ?_
     obtain ⟨cl24, _, hk23, hc22⟩ := Sx.C_cells ((Sx.row_reads h (i := 1) rfl).2) (z := z66) (k := m) (by first | assumption | omega)
     obtain rfl := k66_open hk23
     refine Sx.wl_v rfl rfl (Sx.ov_loadN _ [.int .i64 (((runsOf (expand a)).getD m z66).f0), .int .i64 (((runsOf (expand a)).getD m z66).f1)] rfl sh66 (by intro j u hu; rw [Deep.add_add]; exact (hc22 _ _ hu))) ?_
     refine Sx.wl_alloc _ h rfl rfl zo66 (fun b25 _ h => ?_)
     replace h : Sx.St _ _ (Sx.blk b25 [.int .i64 (0), .int .i64 (0)] 66 :: _) _ := h
     refine Sx.wl_v rfl rfl (Sx.ov_assign _ rfl) ?_
     refine Sx.wl_storebN 0 [.int .i64 (((runsOf (expand a)).getD m z66).f0), .int .i64 (((runsOf (expand a)).getD m z66).f1)] [.int .i64 (((runsOf (expand a)).getD m z66).f0), .int .i64 (((runsOf (expand a)).getD m z66).f1)] h rfl rfl rfl rfl (by simp [Value.oneCell']) sh66 rfl rfl (fun _ h => ?_)
     refine Sx.wl_nil ?_
     refine Sx.qn_then ?_
     refine Sx.wc_seq ?_
     refine Sx.wc_draw (fun w => Sx.St w0 F0 ([Sx.blk b25 [.int .i64 (((runsOf (expand a)).getD m z66).f0), .int .i64 (((runsOf (expand a)).getD m z66).f1)] 66, Sx.blk b1 [.slice (some ad21) ((runsOf (expand a)).length) (c16), .int .i64 ((((expand a)).length : Int)), .int .i64 ((0))] 72, Sx.row k66 66 (some ad21) (c16) (runsOf (expand a)), Sx.blk b2 [.slice (A17) ((runsOf (expand b)).length) (c18), .int .i64 ((((expand b)).length : Int)), .int .i64 ((0))] 72, Sx.row k66 66 (A17) (c18) (runsOf (expand b))] ++ R) w) (by kernel_rfl) ?_
     replace h := Sx.st_drew h
     refine Sx.wa_tk 0 rfl rfl rfl (Sx.st_selT [true, true, true, true, true] h) (fun w_ hS => Sx.ov_loadbN 0 [.int .i64 (((runsOf (expand a)).getD m z66).f0), .int .i64 (((runsOf (expand a)).getD m z66).f1)] hS rfl rfl sh66 rfl) ?_
     refine Sx.wa_tk 1 rfl rfl rfl (Sx.st_selT [true, true, true, true, true] h) (fun w_ hS => Sx.ov_move _ rfl) ?_
     refine Sx.wa_tk 2 rfl rfl rfl (Sx.st_selT [true, true, true, true, true] h) (fun w_ hS => Sx.ov_nilCheck _ rfl) ?_
     refine Sx.wa_tk 3 rfl rfl rfl (Sx.st_selT [true, true, true, true, true] h) (fun w_ hS => Sx.ov_fieldAddr _ ⟨b2, 0, none⟩ _ rfl fo72_0 rfl) ?_
     refine Sx.wa_tk 4 rfl rfl rfl (Sx.st_selT [true, true, true, true, true] h) (fun w_ hS => Sx.ov_loadb 3 _ hS rfl rfl sh33 rfl) ?_
     refine Sx.wa_tk 5 rfl rfl rfl (Sx.st_selT [true, true, true, true, true] h) (fun w_ hS => Sx.ov_move _ rfl) ?_
     obtain ⟨ad26, rfl⟩ := Sx.C_some ((Sx.row_reads h (i := 4) rfl).2) (k := m) (by first | assumption | omega)
     refine Sx.wa_tk 6 rfl rfl rfl (Sx.st_selT [true, true, true, true, true] h) (fun w_ hS => Sx.ov_indexAddrN _ _ _ _ _ m rfl rfl es33 rfl (by first | assumption | omega | (simp only [List.length_take, List.length_drop, List.length_set]; omega))) ?_
     refine Sx.wa_tk 7 rfl rfl rfl (Sx.st_selT [true, true, true, true, true] h) (fun w_ hS => by
         obtain ⟨cl29, _, hk28, hc27⟩ := Sx.C_cells ((Sx.row_reads hS (i := 4) rfl).2) (z := z66) (k := m) (by first | assumption | omega)
         obtain rfl := k66_open hk28
         exact Sx.ov_loadN _ [.int .i64 (((runsOf (expand b)).getD m z66).f0), .int .i64 (((runsOf (expand b)).getD m z66).f1)] rfl sh66 (by intro j u hu; rw [Deep.add_add]; exact (hc27 _ _ hu))) ?_
     refine Sx.wa_tk 8 rfl rfl rfl (Sx.st_selT [true, true, true, true, true] h) (fun w_ hS => Sx.ov_bin _ rfl rfl (Sx.binR_neS ((((((runsOf (expand a)).getD m z66).f0 : Int) == (((runsOf (expand b)).getD m z66).f0)) && (((((runsOf (expand a)).getD m z66).f1 : Int) == (((runsOf (expand b)).getD m z66).f1)) && true))) (¬ ((((runsOf (expand a)).getD m z66).f0 : Int) = (((runsOf (expand b)).getD m z66).f0) ∧ (((runsOf (expand a)).getD m z66).f1 : Int) = (((runsOf (expand b)).getD m z66).f1))) eqf66 eqs66 (by kernel_rfl) (by rw [Bool.eq_iff_iff]; simp))) ?_
     refine Sx.wa_done (by kernel_rfl) ?_
     refine Sx.qn_then ?_
     refine Sx.wc_cond (by rfl) (fun c30 => ?_) (fun c30 => ?_)
     ·
      refine Sx.wc_seq ?_
      refine Sx.wc_region ?_
      refine Sx.wl_v rfl rfl (Sx.ov_assign _ rfl) ?_
      refine Sx.wl_nil ?_
      refine Sx.qn_then ?_
      refine Sx.wc_ret ?_
      refine Sx.qn_block_ret ?_
      refine Sx.qn_then_ret ?_
      refine Sx.qn_then_ret ?_
      refine Sx.qn_block_ret ?_
      refine Sx.qn_then_ret ?_
      replace h := Sx.st_selT [false, false, false, false, false] h
      refine Sx.qn_ret [_] ⟨rfl, trivial⟩ ?_
      have e_ : sameV a b = false := decide_eq_false (fun e => by
        have h_ : (runsOf (expand a)).getD m z66 = (runsOf (expand b)).getD m z66   := by rw [e]
        have h1_ := congrArg S66.f0 h_; have h2_ := congrArg S66.f1 h_; omega)
      rw [e_]
      exact ⟨rfl, h⟩
     ·
      refine Sx.wc_skip ?_
      refine Sx.qn_block_normal ?_
      refine Sx.qn_then ?_
      refine Sx.wc_region ?_
      refine Sx.wl_v rfl rfl (Sx.ov_bin _ rfl rfl (Sx.binR_add (r := ((m : Int)) + 1) (Sx.w64 (by omega)))) ?_
      refine Sx.wl_v rfl rfl (Sx.ov_move _ rfl) ?_
      refine Sx.wl_nil ?_
      replace h := Sx.st_front 4 h
      replace h := Sx.st_front 4 h
      replace h := Sx.st_front 4 h
      replace h := Sx.st_front 4 h
      replace h := Sx.st_selT [true, true, true, true, false] h
      refine Sx.qn_next ((m + 1)) (by show (runsOf (expand a)).length - (m + 1) < (runsOf (expand a)).length - m; omega) ⟨rfl, rfl, (congrArg (fun z_ => some (Value.slice (some ad21) z_ (c16))) (show ((runsOf (expand a)).length : Nat) = (runsOf (expand a)).length by first | rfl | simp)), rfl, (congrArg (fun z_ => some (Value.int .i64 z_)) (show (((m : Int)) + 1 : Int) = ((m + 1) : Int) by omega)), trivial⟩ ?_
      show ((m + 1) ≤ (runsOf (expand a)).length ∧ (runsOf (expand a)).take (m + 1) = (runsOf (expand b)).take (m + 1)) ∧ _
      have hn2 := take_next_eq hJ.2 hk hlen2 z66 (rn_ext (by omega))
      exact ⟨⟨by omega, hn2⟩, h⟩
    ·
     refine Sx.wc_exit ?_
     refine Sx.qn_then_exit ?_
     refine Sx.qn_then_exit ?_
     refine Sx.qn_block_exit ?_
     refine Sx.qn_then ?_
     refine Sx.wc_seq ?_
     refine Sx.wc_region ?_
     refine Sx.wl_v rfl rfl (Sx.ov_assign _ rfl) ?_
     refine Sx.wl_nil ?_
     refine Sx.qn_then ?_
     refine Sx.wc_ret ?_
     replace h := Sx.st_selT [false, false, false, false] h
     refine Sx.qn_ret [_] ⟨rfl, trivial⟩ ?_
     have e_ : sameV a b = true := decide_eq_true (take_all_eq hJ.2 (by omega) hlen2)
     rw [e_]
     exact ⟨rfl, h⟩
end Go.Proofs.Ytkliboeebookeaa.Runs.C
