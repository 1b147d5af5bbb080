/- Pruned by wip/prune.py. -/
import Derived.Test.YtmlkajmlhmfdgaaProg
import Derived.Test.YtmlkajmlhmfdgaaQSxGlue
import Derived.Test.YtmlkajmlhmfdgaaQSxKinds
import Derived.Test.YtmlkajmlhmfdgaaQRunsTh
namespace Go.Proofs.Ytmlkajmlhmfdgaa.RW
open Go Go.RowKit Go.Proofs.YtmlkajmlhmfdgaaW.PrintWords Go.Proofs.Ytmlkajmlhmfdgaa.Kinds Go.Proofs.Ytmlkajmlhmfdgaa.Runs 
set_option linter.unusedVariables false
set_option linter.unusedSimpArgs false
theorem fo98_1 : Sx.fieldOff Try.prog 98 1 = some 1 := by kernel_rfl
theorem sh3 : Sx.shapeOf Try.prog 3 = some (false, 1) := by kernel_rfl
theorem fo98_0 : Sx.fieldOff Try.prog 98 0 = some 0 := by kernel_rfl
theorem sh29 : Sx.shapeOf Try.prog 29 = some (false, 1) := by kernel_rfl
theorem es29 : Sx.elemSz Try.prog 29 = some (50, 2) := by kernel_rfl
theorem fo50_1 : Sx.fieldOff Try.prog 50 1 = some 1 := by kernel_rfl
theorem fo50_0 : Sx.fieldOff Try.prog 50 0 = some 0 := by kernel_rfl
theorem szf3 : (Try.prog.info? 3).map (·.size) = some 1 := by kernel_rfl
theorem infb50 : (Try.prog.info? 50).map (fun i => (i.zero, i.size)) = some (some (.agg #[.int .i64 (0), .int .i64 (0)]), 2) := by kernel_rfl
theorem inf50 : (Try.prog.info? 50).map (fun i => (i.zero, i.size, i.bytes)) = some (some (.agg #[.int .i64 (0), .int .i64 (0)]), 2, 16) := by kernel_rfl
theorem sh50 : Sx.shapeOf Try.prog 50 = some (true, 2) := by kernel_rfl
theorem zo50 : Sx.zeroOf Try.prog 50 = some (.agg #[.int .i64 (0), .int .i64 (0)]) := by kernel_rfl
theorem ent43 : Sx.Ent Try.prog 43 := ⟨Try.f43, Try.func43, by kernel_rfl, by kernel_rfl⟩
theorem eqs50 : (Try.prog.stoodInHeld 50 || Try.prog.eqGuardType Try.prog.depth 50) = false := by kernel_rfl
theorem eqf50 : Try.prog.underlying 50 = some (.struct (Try.prog.fieldsOf 50)) := by kernel_rfl
/-- What a list is. -/
structure RL where
  runs : List S50
  size : Int
  base : Int
/-- What a list tells: a style a byte, and what an empty one has. -/
structure LS where
  st : List Int
  base : Int
  deriving DecidableEq
def listB (g : Nat) (x : RL) : Sx.HP := Sx.HP.ex fun A => Sx.HP.ex fun c => (Sx.blk g [.slice A x.runs.length c, .int .i64 x.size, .int .i64 x.base] 98).star (Sx.row k50 50 A c x.runs)
def listS (g : Nat) (x : LS) : Sx.HP := listB g ⟨runsOf x.st, x.st.length, x.base⟩
section
variable {w0 w : World} {F0 : Nat → Prop} {cs : List Sx.HP} {g : Nat}
theorem listB_open {x : RL} (h : Sx.St w0 F0 (listB g x :: cs) w) : ∃ A c, Sx.St w0 F0 (Sx.blk g [.slice A x.runs.length c, .int .i64 x.size, .int .i64 x.base] 98 :: Sx.row k50 50 A c x.runs :: cs) w := by
  obtain ⟨A, h⟩ := Sx.st_unex h
  obtain ⟨c, h⟩ := Sx.st_unex h
  exact ⟨A, c, Sx.st_unstar h⟩
theorem listB_close {A : Option Addr} {c n : Nat} {L : List S50} {s b : Int} (hn : n = L.length) (h : Sx.St w0 F0 (Sx.blk g [.slice A n c, .int .i64 s, .int .i64 b] 98 :: Sx.row k50 50 A c L :: cs) w) : Sx.St w0 F0 (listB g ⟨L, s, b⟩ :: cs) w := by
  subst hn
  exact Sx.st_ex A (Sx.st_ex c (Sx.st_star h))
theorem listS_open {x : LS} (h : Sx.St w0 F0 (listS g x :: cs) w) : ∃ A c, Sx.St w0 F0 (Sx.blk g [.slice A (runsOf x.st).length c, .int .i64 (x.st.length : Int), .int .i64 x.base] 98 :: Sx.row k50 50 A c (runsOf x.st) :: cs) w := listB_open h
theorem listS_close {A : Option Addr} {c n : Nat} {σ : List Int} {s b : Int} (hn : n = (runsOf σ).length) (hs : s = σ.length) (h : Sx.St w0 F0 (Sx.blk g [.slice A n c, .int .i64 s, .int .i64 b] 98 :: Sx.row k50 50 A c (runsOf σ) :: cs) w) : Sx.St w0 F0 (listS g ⟨σ, b⟩ :: cs) w := by
  subst hs
  exact listB_close hn h
end
/-- Bytes behind the others. -/
def putV (x : RL) (n s : Int) : RL :=
  if n ≤ 0 then x
  else if 0 < x.runs.length ∧ (x.runs.getD (x.runs.length - 1) z50).f1 = s then ⟨x.runs.set (x.runs.length - 1) ⟨(x.runs.getD (x.runs.length - 1) z50).f0 + n, (x.runs.getD (x.runs.length - 1) z50).f1⟩, x.size + n, x.base⟩
  else ⟨x.runs ++ [⟨n, s⟩], x.size + n, x.base⟩
theorem putV_S (σ : List Int) (b n s : Int) : putV ⟨runsOf σ, σ.length, b⟩ n s = ⟨runsOf (σ ++ List.replicate n.toNat s), (σ ++ List.replicate n.toNat s).length, b⟩ := by
  have e : ((σ ++ List.replicate n.toNat s).length : Int) = σ.length + max n 0 := by simp
  rw [e, runsOf_rep]
  unfold putV putL
  by_cases hn : n ≤ 0
  · rw [if_pos hn, if_pos (show n.toNat = 0 by omega), show max n 0 = 0 by omega, Int.add_zero]
  · rw [if_neg hn, if_neg (show ¬ n.toNat = 0 by omega), show max n 0 = n by omega]
    have e2 : ((n.toNat : Nat) : Int) = n := by omega
    rw [e2]
    show (if 0 < (runsOf σ).length ∧ ((runsOf σ).getD ((runsOf σ).length - 1) z50).f1 = s then _ else _) = _
    by_cases hL : 0 < (runsOf σ).length
    · rw [last_getD hL z50]
      simp only
      by_cases hs : ((runsOf σ).getD ((runsOf σ).length - 1) z50).f1 = s
      · rw [if_pos (And.intro hL hs), if_pos hs, set_last hL]
      · rw [if_neg (fun h => hs h.2), if_neg hs]
    · have : runsOf σ = [] := List.eq_nil_of_length_eq_zero (by omega)
      rw [this, if_neg (fun h => by simp at h)]
      simp
set_option maxRecDepth 100000 in
theorem put_calls {w0 w : World} {F0 : Nat → Prop} {R : List Sx.HP} (g : Nat) (x : RL) (n s : Int) (h0 : 0 ≤ x.size) (h1 : x.size + n ≤ 4611686018427387904) (hl : x.runs.length ≤ 4398046511104) (ha : 0 ≤ (x.runs.getD (x.runs.length - 1) z50).f0 ∧ (x.runs.getD (x.runs.length - 1) z50).f0 ≤ x.size) (h : Sx.St w0 F0 ([listB g (x)] ++ R) w) : Calls Try.prog 43 #[.pointer (some ⟨g, 0, none⟩), .int .i64 (n), .int .i64 (s)] w (fun e w1 => e = .returned (.tuple #[]) ∧ Sx.St w0 F0 (listB g (putV x n s) :: R) w1) := by
 refine Sx.calls_fn (vs := [.pointer (some ⟨g, 0, none⟩), .int .i64 (n), .int .i64 (s)]) Try.func43 rfl Try.ntmps43 rfl ?_
 refine Sx.wc_seq ?_
 refine Sx.wc_seq ?_
 refine Sx.wc_region ?_
 refine Sx.wl_v rfl rfl (Sx.ov_move _ rfl) ?_
 refine Sx.wl_v rfl rfl (Sx.ov_bin _ rfl rfl (Sx.binR_leq)) ?_
 refine Sx.wl_nil ?_
 refine Sx.qn_then ?_
 refine Sx.wc_cond (by rfl) (fun c1 => ?_) (fun c1 => ?_)
 ·
  refine Sx.wc_ret ?_
  refine Sx.qn_then_ret ?_
  refine Sx.qn_ret [] trivial ?_
  exact ⟨rfl, by rw [putV, if_pos c1]; exact h⟩
 ·
  refine Sx.wc_skip ?_
  refine Sx.qn_then ?_
  refine Sx.wc_seq ?_
  refine Sx.wc_region ?_
  refine Sx.wl_v rfl rfl (Sx.ov_move _ rfl) ?_
  refine Sx.wl_v rfl rfl (Sx.ov_nilCheck _ rfl) ?_
  refine Sx.wl_v rfl rfl (Sx.ov_fieldAddr _ ⟨g, 1, none⟩ _ rfl fo98_1 rfl) ?_
  obtain ⟨A2, c3, h⟩ := listB_open h
  refine Sx.wl_v rfl rfl (Sx.ov_loadb 0 _ h rfl rfl sh3 rfl) ?_
  refine Sx.wl_v rfl rfl (Sx.ov_move _ rfl) ?_
  refine Sx.wl_v rfl rfl (Sx.ov_bin _ rfl rfl (Sx.binR_add (r := ((x).size) + n) (Sx.w64 (by omega)))) ?_
  refine Sx.wl_v rfl rfl (Sx.ov_nilCheck _ rfl) ?_
  refine Sx.wl_v rfl rfl (Sx.ov_fieldAddr _ ⟨g, 1, none⟩ _ rfl fo98_1 rfl) ?_
  refine Sx.wl_storeb 0 _ [.slice (A2) (((x).runs).length) (c3), .int .i64 (((x).size) + n), .int .i64 ((x).base)] h rfl rfl rfl rfl rfl rfl sh3 rfl rfl (fun _ h => ?_)
  refine Sx.wl_nil ?_
  refine Sx.qn_then ?_
  refine Sx.wc_seq ?_
  refine Sx.wc_seq ?_
  refine Sx.wc_region ?_
  refine Sx.wl_v rfl rfl (Sx.ov_move _ rfl) ?_
  refine Sx.wl_v rfl rfl (Sx.ov_nilCheck _ rfl) ?_
  refine Sx.wl_v rfl rfl (Sx.ov_fieldAddr _ ⟨g, 0, none⟩ _ rfl fo98_0 rfl) ?_
  refine Sx.wl_v rfl rfl (Sx.ov_loadb 0 _ h rfl rfl sh29 rfl) ?_
  refine Sx.wl_v rfl rfl (Sx.ov_len _ _ _ _ _ rfl es29) ?_
  refine Sx.wl_v rfl rfl (Sx.ov_assign _ rfl) ?_
  refine Sx.wl_nil ?_
  refine Sx.qn_then ?_
  refine Sx.wc_seq ?_
  refine Sx.wc_region ?_
  refine Sx.wl_v rfl rfl (Sx.ov_move _ rfl) ?_
  refine Sx.wl_v rfl rfl (Sx.ov_bin _ rfl rfl (Sx.binR_gtr)) ?_
  refine Sx.wl_v rfl rfl (Sx.ov_move _ rfl) ?_
  refine Sx.wl_split 24 rfl (fun c4 => ?_) (fun c4 => ?_)
  ·
   refine Sx.wl_v rfl rfl (Sx.ov_move _ rfl) ?_
   refine Sx.wl_v rfl rfl (Sx.ov_nilCheck _ rfl) ?_
   refine Sx.wl_v rfl rfl (Sx.ov_fieldAddr _ ⟨g, 0, none⟩ _ rfl fo98_0 rfl) ?_
   refine Sx.wl_v rfl rfl (Sx.ov_loadb 0 _ h rfl rfl sh29 rfl) ?_
   refine Sx.wl_v rfl rfl (Sx.ov_move _ rfl) ?_
   refine Sx.wl_v rfl rfl (Sx.ov_bin _ rfl rfl (Sx.binR_sub (r := (((((x).runs).length : Nat) : Int)) - 1) (Sx.w64 (by omega)))) ?_
   obtain ⟨ad5, rfl⟩ := Sx.C_some ((Sx.row_reads h (i := 1) rfl).2) (k := ((((x).runs).length) - 1)) (by first | assumption | omega | (simp only [List.length_set, List.length_append, List.length_cons, List.length_nil]; omega))
   refine Sx.wl_v rfl rfl (Sx.ov_indexAddrN _ _ _ _ _ ((((x).runs).length) - 1) rfl rfl es29 (by omega) (by first | assumption | omega | (simp only [List.length_take, List.length_drop, List.length_set, List.length_append, List.length_cons, List.length_nil]; omega))) ?_
   refine Sx.wl_v rfl rfl (Sx.ov_fieldAddr _ ((ad5).add (((((x).runs).length) - 1) * 2 + 1)) _ rfl fo50_1 (by first | exact Deep.add_add _ _ _ | (rw [Deep.add_add]) | rfl)) ?_
   obtain ⟨cl8, _, hk7, hc6⟩ := Sx.C_cells ((Sx.row_reads h (i := 1) rfl).2) (z := z50) (k := ((((x).runs).length) - 1)) (by first | assumption | omega | (simp only [List.length_set, List.length_append, List.length_cons, List.length_nil]; omega))
   obtain rfl := k50_open hk7
   refine Sx.wl_v rfl rfl (Sx.ov_load1 _ _ rfl sh3 ((hc6 1 _ rfl))) ?_
   refine Sx.wl_v rfl rfl (Sx.ov_move _ rfl) ?_
   refine Sx.wl_v rfl rfl (Sx.ov_bin _ rfl rfl (Sx.binR_eql)) ?_
   refine Sx.wl_v rfl rfl (Sx.ov_pick_true _ rfl rfl) ?_
   refine Sx.wl_nil ?_
   refine Sx.qn_then ?_
   refine Sx.wc_cond (by rfl) (fun c9 => ?_) (fun c9 => ?_)
   ·
    refine Sx.wc_seq ?_
    refine Sx.wc_region ?_
    refine Sx.wl_v rfl rfl (Sx.ov_move _ rfl) ?_
    refine Sx.wl_v rfl rfl (Sx.ov_nilCheck _ rfl) ?_
    refine Sx.wl_v rfl rfl (Sx.ov_fieldAddr _ ⟨g, 0, none⟩ _ rfl fo98_0 rfl) ?_
    refine Sx.wl_v rfl rfl (Sx.ov_loadb 0 _ h rfl rfl sh29 rfl) ?_
    refine Sx.wl_v rfl rfl (Sx.ov_move _ rfl) ?_
    refine Sx.wl_v rfl rfl (Sx.ov_bin _ rfl rfl (Sx.binR_sub (r := (((((x).runs).length : Nat) : Int)) - 1) (Sx.w64 (by omega)))) ?_
    refine Sx.wl_v rfl rfl (Sx.ov_indexAddrN _ _ _ _ _ ((((x).runs).length) - 1) rfl rfl es29 (by omega) (by first | assumption | omega | (simp only [List.length_take, List.length_drop, List.length_set, List.length_append, List.length_cons, List.length_nil]; omega))) ?_
    refine Sx.wl_v rfl rfl (Sx.ov_fieldAddr _ ((ad5).add (((((x).runs).length) - 1) * 2 + 0)) _ rfl fo50_0 (by first | exact Deep.add_add _ _ _ | (rw [Deep.add_add]) | rfl)) ?_
    obtain ⟨cl12, _, hk11, hc10⟩ := Sx.C_cells ((Sx.row_reads h (i := 1) rfl).2) (z := z50) (k := ((((x).runs).length) - 1)) (by first | assumption | omega | (simp only [List.length_set, List.length_append, List.length_cons, List.length_nil]; omega))
    obtain rfl := k50_open hk11
    refine Sx.wl_v rfl rfl (Sx.ov_load1 _ _ rfl sh3 ((hc10 0 _ rfl))) ?_
    refine Sx.wl_v rfl rfl (Sx.ov_move _ rfl) ?_
    refine Sx.wl_v rfl rfl (Sx.ov_bin _ rfl rfl (Sx.binR_add (r := ((((x).runs).getD ((((x).runs).length) - 1) z50).f0) + n) (Sx.w64 (by omega)))) ?_
    refine Sx.wl_v rfl rfl (Sx.ov_indexAddrN _ _ _ _ _ ((((x).runs).length) - 1) rfl rfl es29 (by omega) (by first | assumption | omega | (simp only [List.length_take, List.length_drop, List.length_set, List.length_append, List.length_cons, List.length_nil]; omega))) ?_
    refine Sx.wl_v rfl rfl (Sx.ov_fieldAddr _ ((ad5).add (((((x).runs).length) - 1) * 2 + 0)) _ rfl fo50_0 (by first | exact Deep.add_add _ _ _ | (rw [Deep.add_add]) | rfl)) ?_
    refine Sx.wl_storeeN 1 ((((x).runs).length) - 1) 0 (.int .i64 (((((x).runs).getD ((((x).runs).length) - 1) z50).f0) + n)) [.int .i64 (((((x).runs).getD ((((x).runs).length) - 1) z50).f0) + n)] z50 ((⟨((((x).runs).getD ((((x).runs).length) - 1) z50).f0) + n, (((x).runs).getD ((((x).runs).length) - 1) z50).f1⟩ : Rn)) h rfl rfl rfl (by first | rfl | simp) rfl rfl (by simp [Value.oneCell']) szf3 (by first | assumption | omega | (simp only [List.length_set, List.length_append, List.length_cons, List.length_nil]; omega)) (Nat.le_of_ble_eq_true rfl) (by intro cl hcl hM; obtain ⟨_, _, _, hM⟩ := hM; obtain rfl := k50_openM hM; intro _ _ _; exact k50_mkM _ _ _ ((⟨((((x).runs).getD ((((x).runs).length) - 1) z50).f0) + n, (((x).runs).getD ((((x).runs).length) - 1) z50).f1⟩ : Rn))) (fun _ h => ?_)
    refine Sx.wl_nil ?_
    refine Sx.qn_then ?_
    refine Sx.wc_ret ?_
    refine Sx.qn_then_ret ?_
    replace h := Sx.st_front 1 h
    replace h := Sx.st_front 1 h
    replace h := listB_close (L := ((x).runs).set ((((x).runs).length) - 1) ((⟨((((x).runs).getD ((((x).runs).length) - 1) z50).f0) + n, (((x).runs).getD ((((x).runs).length) - 1) z50).f1⟩ : Rn))) (by first | rfl | simp) h
    refine Sx.qn_ret [] trivial ?_
    exact ⟨rfl, by rw [putV, if_neg c1, if_pos ⟨by omega, by assumption⟩]; exact h⟩
   ·
    refine Sx.wc_skip ?_
    refine Sx.qn_then ?_
    refine Sx.wc_region ?_
    refine Sx.wl_v rfl rfl (Sx.ov_move _ rfl) ?_
    refine Sx.wl_v rfl rfl (Sx.ov_move _ rfl) ?_
    refine Sx.wl_v rfl rfl (Sx.ov_nilCheck _ rfl) ?_
    refine Sx.wl_v rfl rfl (Sx.ov_fieldAddr _ ⟨g, 0, none⟩ _ rfl fo98_0 rfl) ?_
    refine Sx.wl_v rfl rfl (Sx.ov_loadb 0 _ h rfl rfl sh29 rfl) ?_
    refine Sx.wl_v rfl rfl (Sx.ov_move _ rfl) ?_
    refine Sx.wl_v rfl rfl (Sx.ov_move _ rfl) ?_
    refine Sx.wl_v rfl rfl (Sx.ov_build [(0, .int .i64 (n)), (1, .int .i64 (s))] [.int .i64 (n), .int .i64 (s)] rfl rfl (by kernel_rfl)) ?_
    refine Sx.wl_lit (d := k50) [(0, .agg #[.int .i64 (n), .int .i64 (s)])] _ [.int .i64 (n), .int .i64 (s)] ([(⟨n, s⟩ : Rn)]) h rfl rfl rfl rfl Try.underlying29 infb50 rfl (by decide) (by kernel_rfl) rfl (fun _ _ _ => ((Reps.none _ _).snoc (k50_mkM _ _ _ ((⟨n, s⟩ : Rn))) rfl)) (fun A13 cp14 _ h => ?_)
    refine Sx.wl_append (d := k50) (L := (x).runs) 2 _ 16 _ _ _ ([(⟨n, s⟩ : Rn)]) flat50 h rfl rfl rfl rfl rfl ((Sx.row_reads h (i := 0) rfl).2) Try.underlying29 inf50 rfl (by decide) (by decide) (by first | omega | (simp only [List.length_cons, List.length_nil, List.length_append, List.length_set]; omega)) (by first | rfl | simp) (fun A15 cp16 _ h => ?_)
    replace h := Sx.st_selT [false, true, true] h
    refine Sx.wl_v rfl rfl (Sx.ov_nilCheck _ rfl) ?_
    refine Sx.wl_v rfl rfl (Sx.ov_fieldAddr _ ⟨g, 0, none⟩ _ rfl fo98_0 rfl) ?_
    refine Sx.wl_storeb 0 _ [.slice (A15) ((((x).runs) ++ ([(⟨n, s⟩ : Rn)])).length) (cp16), .int .i64 (((x).size) + n), .int .i64 ((x).base)] h rfl rfl rfl rfl rfl rfl sh29 rfl rfl (fun _ h => ?_)
    refine Sx.wl_nil ?_
    replace h := Sx.st_front 1 h
    replace h := Sx.st_front 1 h
    replace h := listB_close (L := ((x).runs) ++ ([(⟨n, s⟩ : Rn)])) (by first | rfl | simp) h
    refine Sx.qn_end [] trivial ?_
    exact ⟨rfl, by rw [putV, if_neg c1, if_neg (fun e => by have := e.2; contradiction)]; exact h⟩
  ·
   refine Sx.wl_skip rfl rfl ?_
   refine Sx.wl_skip rfl rfl ?_
   refine Sx.wl_skip rfl rfl ?_
   refine Sx.wl_skip rfl rfl ?_
   refine Sx.wl_skip rfl rfl ?_
   refine Sx.wl_skip rfl rfl ?_
   refine Sx.wl_skip rfl rfl ?_
   refine Sx.wl_skip rfl rfl ?_
   refine Sx.wl_skip rfl rfl ?_
   refine Sx.wl_skip rfl rfl ?_
   refine Sx.wl_skip rfl rfl ?_
   refine Sx.wl_v rfl rfl (Sx.ov_pick_false _ rfl rfl) ?_
   refine Sx.wl_nil ?_
   refine Sx.qn_then ?_
   refine Sx.wc_cond_false rfl ?_
   refine Sx.wc_skip ?_
   refine Sx.qn_then ?_
   refine Sx.wc_region ?_
   refine Sx.wl_v rfl rfl (Sx.ov_move _ rfl) ?_
   refine Sx.wl_v rfl rfl (Sx.ov_move _ rfl) ?_
   refine Sx.wl_v rfl rfl (Sx.ov_nilCheck _ rfl) ?_
   refine Sx.wl_v rfl rfl (Sx.ov_fieldAddr _ ⟨g, 0, none⟩ _ rfl fo98_0 rfl) ?_
   refine Sx.wl_v rfl rfl (Sx.ov_loadb 0 _ h rfl rfl sh29 rfl) ?_
   refine Sx.wl_v rfl rfl (Sx.ov_move _ rfl) ?_
   refine Sx.wl_v rfl rfl (Sx.ov_move _ rfl) ?_
   refine Sx.wl_v rfl rfl (Sx.ov_build [(0, .int .i64 (n)), (1, .int .i64 (s))] [.int .i64 (n), .int .i64 (s)] rfl rfl (by kernel_rfl)) ?_
   refine Sx.wl_lit (d := k50) [(0, .agg #[.int .i64 (n), .int .i64 (s)])] _ [.int .i64 (n), .int .i64 (s)] ([(⟨n, s⟩ : Rn)]) h rfl rfl rfl rfl Try.underlying29 infb50 rfl (by decide) (by kernel_rfl) rfl (fun _ _ _ => ((Reps.none _ _).snoc (k50_mkM _ _ _ ((⟨n, s⟩ : Rn))) rfl)) (fun A17 cp18 _ h => ?_)
   refine Sx.wl_append (d := k50) (L := (x).runs) 2 _ 16 _ _ _ ([(⟨n, s⟩ : Rn)]) flat50 h rfl rfl rfl rfl rfl ((Sx.row_reads h (i := 0) rfl).2) Try.underlying29 inf50 rfl (by decide) (by decide) (by first | omega | (simp only [List.length_cons, List.length_nil, List.length_append, List.length_set]; omega)) (by first | rfl | simp) (fun A19 cp20 _ h => ?_)
   replace h := Sx.st_selT [false, true, true] h
   refine Sx.wl_v rfl rfl (Sx.ov_nilCheck _ rfl) ?_
   refine Sx.wl_v rfl rfl (Sx.ov_fieldAddr _ ⟨g, 0, none⟩ _ rfl fo98_0 rfl) ?_
   refine Sx.wl_storeb 0 _ [.slice (A19) ((((x).runs) ++ ([(⟨n, s⟩ : Rn)])).length) (cp20), .int .i64 (((x).size) + n), .int .i64 ((x).base)] h rfl rfl rfl rfl rfl rfl sh29 rfl rfl (fun _ h => ?_)
   refine Sx.wl_nil ?_
   replace h := Sx.st_front 1 h
   replace h := Sx.st_front 1 h
   replace h := listB_close (L := ((x).runs) ++ ([(⟨n, s⟩ : Rn)])) (by first | rfl | simp) h
   refine Sx.qn_end [] trivial ?_
   exact ⟨rfl, by rw [putV, if_neg c1, if_neg (fun e => by omega)]; exact h⟩
theorem put_S {w0 w : World} {F0 : Nat → Prop} {R : List Sx.HP} (g : Nat) (x : LS) (n s : Int) (h1 : (x.st.length : Int) + n ≤ 4611686018427387904) (hl : (runsOf x.st).length ≤ 4398046511104) (h : Sx.St w0 F0 ([listS g x] ++ R) w) :
    Calls Try.prog 43 #[.pointer (some ⟨g, 0, none⟩), .int .i64 n, .int .i64 s] w (fun e w1 => e = .returned (.tuple #[]) ∧ Sx.St w0 F0 (listS g ⟨x.st ++ List.replicate n.toNat s, x.base⟩ :: R) w1) := by
  refine (put_calls g ⟨runsOf x.st, x.st.length, x.base⟩ n s (by simp) h1 hl ?_ h).mono fun e w1 hw => ?_
  · by_cases hL : 0 < (runsOf x.st).length
    · have hm := getD_mem (L := runsOf x.st) (k := (runsOf x.st).length - 1) (by omega) z50
      have h2 := pos_runs x.st _ hm
      have h3 := mem_lenR (pos_runs x.st) hm
      rw [lenR_runs] at h3
      have h5 : (0 : Int) ≤ ((runsOf x.st).getD ((runsOf x.st).length - 1) z50).f0 := by omega
      exact ⟨h5, h3⟩
    · have : runsOf x.st = [] := List.eq_nil_of_length_eq_zero (by omega)
      simp [this, z50]
  · refine ⟨hw.1, ?_⟩
    have h3 := hw.2
    rw [putV_S] at h3
    exact h3
theorem take_next {α : Type} (l : List α) (k : Nat) (hk : k < l.length) (z : α) : l.take (k + 1) = l.take k ++ [l.getD k z] := by
  rw [List.take_succ_eq_append_getElem hk]; simp [List.getD, hk]
theorem expand_next {l : List Rn} {k : Nat} (hk : k < l.length) (z : Rn) : expand (l.take (k + 1)) = expand (l.take k) ++ List.replicate (l.getD k z).f0.toNat (l.getD k z).f1 := expand_take_succ l k hk z
theorem take_next_eq {α : Type} {L M : List α} {k : Nat} (h : L.take k = M.take k) (hk : k < L.length) (hl : L.length = M.length) (z : α) (e : L.getD k z = M.getD k z) : L.take (k + 1) = M.take (k + 1) := by
  rw [take_next L k hk z, take_next M k (by omega) z, h, e]
theorem take_all_eq {α : Type} {L M : List α} {k : Nat} (h : L.take k = M.take k) (hk : ¬ (k < L.length)) (hl : L.length = M.length) : L = M := by
  rw [List.take_of_length_le (by omega), List.take_of_length_le (by omega)] at h; exact h
theorem exp_runs_len : ∀ (l : List Rn), (runsOf (expand l)).length ≤ l.length := by
  intro l
  obtain ⟨m, rfl⟩ : ∃ m : List Rn, l = m.reverse := ⟨l.reverse, by simp⟩
  induction m with
  | nil => simp [expand, runsOf_nil]
  | cons r m ih =>
    rw [List.reverse_cons]
    have e : expand (m.reverse ++ [r]) = expand m.reverse ++ List.replicate r.f0.toNat r.f1 := by simp [expand]
    rw [e, runsOf_rep]
    unfold putL
    split
    · simp at ih ⊢; omega
    · split
      · split
        · simp at ih ⊢; omega
        · simp at ih ⊢; omega
      · simp at ih ⊢
theorem exp_take_le (l : List Rn) (k : Nat) : (expand (l.take k)).length ≤ (expand l).length := posR_le l k
theorem rn_ext {r q : Rn} (h : r.f0 = q.f0 ∧ r.f1 = q.f1) : r = q := by cases r; cases q; simp_all
def sameV (a b : List Rn) : Bool := decide (runsOf (expand a) = runsOf (expand b))
set_option maxRecDepth 100000 in
theorem Same_calls {w0 w : World} {F0 : Nat → Prop} {R : List Sx.HP} (a b : List Rn) (Aa Ab : Option Addr) (ca cb : Nat) (ha1 : (expand a).length ≤ 1152921504606846976) (hb1 : (expand b).length ≤ 1152921504606846976) (ha2 : a.length ≤ 1099511627776) (hb2 : b.length ≤ 1099511627776) (ha : ∀ cs w, Sx.St w0 F0 (cs ++ R) w → k50.C w Aa a.length a) (hb : ∀ cs w, Sx.St w0 F0 (cs ++ R) w → k50.C w Ab b.length b) (h : Sx.St w0 F0 ([] ++ R) w) : Calls Try.prog 33 #[.slice (Aa) (a.length) (ca), .slice (Ab) (b.length) (cb)] w (fun e w1 => e = .returned (.bool (sameV a b)) ∧ Sx.St w0 F0 R w1) := by
 refine Sx.calls_fn (vs := [.slice (Aa) (a.length) (ca), .slice (Ab) (b.length) (cb)]) Try.func33 rfl Try.ntmps33 rfl ?_
 refine Sx.wc_seq ?_
 refine Sx.wc_region ?_
 refine Sx.wl_v rfl rfl (Sx.ov_assign _ rfl) ?_
 refine Sx.wl_nil ?_
 refine Sx.qn_then ?_
 refine Sx.wc_seq ?_
 refine Sx.wc_region ?_
 refine Sx.wl_v rfl rfl (Sx.ov_build [] [.slice (none) (0) (0), .int .i64 (0), .int .i64 (0)] rfl rfl (by kernel_rfl)) ?_
 refine Sx.wl_box _ h rfl rfl rfl (fun b1 _ h => ?_)
 replace h : Sx.St _ _ (Sx.blk b1 [.slice (none) (0) (0), .int .i64 (0), .int .i64 (0)] 98 :: _) _ := h
 refine Sx.wl_v rfl rfl (Sx.ov_build [] [.slice (none) (0) (0), .int .i64 (0), .int .i64 (0)] rfl rfl (by kernel_rfl)) ?_
 refine Sx.wl_box _ h rfl rfl rfl (fun b2 _ h => ?_)
 replace h : Sx.St _ _ (Sx.blk b2 [.slice (none) (0) (0), .int .i64 (0), .int .i64 (0)] 98 :: _) _ := h
 refine Sx.wl_v rfl rfl (Sx.ov_assign _ rfl) ?_
 refine Sx.wl_v rfl rfl (Sx.ov_assign _ rfl) ?_
 refine Sx.wl_nil ?_
 refine Sx.qn_then ?_
 refine Sx.wc_seq ?_
 refine Sx.wc_seq ?_
 refine Sx.wc_region ?_
 refine Sx.wl_v rfl rfl (Sx.ov_move _ rfl) ?_
 refine Sx.wl_v rfl rfl (Sx.ov_len _ _ _ _ _ rfl es29) ?_
 refine Sx.wl_v rfl rfl (Sx.ov_move _ rfl) ?_
 refine Sx.wl_nil ?_
 refine Sx.qn_then ?_
 refine Sx.wc_block ?_
 replace h := Sx.st_nilrow k50 50 h
 replace h := Sx.st_front 2 h
 replace h := listS_close (σ := []) (by first | rfl | simp) (by first | rfl | simp) h
 replace h := Sx.st_nilrow k50 50 h
 replace h := Sx.st_front 2 h
 replace h := listS_close (σ := []) (by first | rfl | simp) (by first | rfl | simp) h
 have e_ : (⟨[], 0⟩ : LS) = (⟨expand (a.take 0), 0⟩ : LS) := by rfl
 replace h := Sx.st_cast (congrArg (fun z_ => ([listS b2 ((⟨[], 0⟩ : LS)), listS b1 (z_)] ++ R)) e_) h
 clear e_
 replace h := Sx.st_front 1 h
 refine Sx.wc_loop (fun (x_ : Nat) => [(0, .slice (Aa) (a.length) (ca)), (1, .slice (Ab) (b.length) (cb)), (5, .pointer (some ⟨b1, 0, none⟩)), (6, .pointer (some ⟨b2, 0, none⟩)), (17, .slice (Aa) (a.length) (ca)), (18, .int .i64 ((a.length : Int))), (19, .int .i64 ((x_ : Int)))]) (fun (x_ : Nat) (w : World) => (x_ ≤ a.length) ∧ Sx.St w0 F0 ([listS b1 ((⟨expand (a.take x_), 0⟩ : LS)), listS b2 ((⟨[], 0⟩ : LS))] ++ R) w) (fun (x_ : Nat) => a.length - x_) (0) ?_ ?_ ?_
 · exact ⟨rfl, rfl, rfl, rfl, rfl, (congrArg (fun z_ => some (Value.int .i64 z_)) (show (((a.length : Nat) : Int) : Int) = (a.length : Int) by omega)), (congrArg (fun z_ => some (Value.int .i64 z_)) (show (0 : Int) = (0 : Int) by omega)), trivial⟩
 · exact ⟨by first | omega | simp, h⟩
 intro k w h
 obtain ⟨hJ, h⟩ := h
 replace hJ : k ≤ a.length := hJ
 replace h : Sx.St w0 F0 ([listS b1 ((⟨expand (a.take k), 0⟩ : LS)), listS b2 ((⟨[], 0⟩ : LS))] ++ R) w := h
 show Sx.WC _ _ _ _ [(0, .slice (Aa) (a.length) (ca)), (1, .slice (Ab) (b.length) (cb)), (5, .pointer (some ⟨b1, 0, none⟩)), (6, .pointer (some ⟨b2, 0, none⟩)), (17, .slice (Aa) (a.length) (ca)), (18, .int .i64 ((a.length : Int))), (19, .int .i64 ((k : Int)))] _
 refine Sx.wc_seq ?_
 refine Sx.wc_region ?_
 refine Sx.wl_v rfl rfl (Sx.ov_bin _ rfl rfl (Sx.binR_lss)) ?_
 refine Sx.wl_nil ?_
 refine Sx.qn_then ?_
 refine Sx.wc_seq ?_
 refine Sx.wc_cond (by rfl) (fun c3 => ?_) (fun c3 => ?_)
 ·
  have hk : k < a.length := by omega
  have hxn := expand_next hk z50
  have hl1 := exp_take_le a k
  have hl2 := exp_take_le a (k + 1)
  have hl3 := exp_runs_len (a.take k)
  have hl4 : (expand (a.take (k + 1))).length = (expand (a.take k)).length + (a.getD k z50).f0.toNat := by rw [hxn]; simp
  refine Sx.wc_skip ?_
  refine Sx.qn_then ?_
  refine Sx.wc_seq ?_
  refine Sx.wc_block ?_
  refine Sx.wc_seq ?_
  refine Sx.wc_region ?_
  obtain ⟨ad4, rfl⟩ := Sx.C_some ((ha [_, _] _ h)) (k := k) (by first | assumption | omega | (simp only [List.length_set, List.length_append, List.length_cons, List.length_nil]; omega))
  refine Sx.wl_v rfl rfl (Sx.ov_indexAddrN _ _ _ _ _ k rfl rfl es29 rfl (by first | assumption | omega | (simp only [List.length_take, List.length_drop, List.length_set, List.length_append, List.length_cons, List.length_nil]; omega))) ?_
  obtain ⟨cl7, _, hk6, hc5⟩ := Sx.C_cells ((ha [_, _] _ h)) (z := z50) (k := k) (by first | assumption | omega | (simp only [List.length_set, List.length_append, List.length_cons, List.length_nil]; omega))
  obtain rfl := k50_open hk6
  refine Sx.wl_v rfl rfl (Sx.ov_loadN _ [.int .i64 (((a).getD k z50).f0), .int .i64 (((a).getD k z50).f1)] rfl sh50 (by intro j u hu; rw [Deep.add_add]; exact (hc5 _ _ hu))) ?_
  refine Sx.wl_alloc _ h rfl rfl zo50 (fun b8 _ h => ?_)
  replace h : Sx.St _ _ (Sx.blk b8 [.int .i64 (0), .int .i64 (0)] 50 :: _) _ := h
  refine Sx.wl_storebN 0 [.int .i64 (((a).getD k z50).f0), .int .i64 (((a).getD k z50).f1)] [.int .i64 (((a).getD k z50).f0), .int .i64 (((a).getD k z50).f1)] h rfl rfl rfl rfl (by simp [Value.oneCell']) sh50 rfl rfl (fun _ h => ?_)
  refine Sx.wl_nil ?_
  refine Sx.qn_then ?_
  refine Sx.wc_region ?_
  refine Sx.wl_v rfl rfl (Sx.ov_move _ rfl) ?_
  refine Sx.wl_v rfl rfl (Sx.ov_fieldAddr _ ⟨b8, 0, none⟩ _ rfl fo50_0 rfl) ?_
  refine Sx.wl_v rfl rfl (Sx.ov_loadb 0 _ h rfl rfl sh3 rfl) ?_
  refine Sx.wl_v rfl rfl (Sx.ov_fieldAddr _ ⟨b8, 1, none⟩ _ rfl fo50_1 rfl) ?_
  refine Sx.wl_v rfl rfl (Sx.ov_loadb 0 _ h rfl rfl sh3 rfl) ?_
  replace h := Sx.st_front 1 h
  refine Sx.wl_call _ rfl rfl rfl ent43 (put_S b1 ((⟨expand (a.take k), 0⟩ : LS)) (((a).getD k z50).f0) (((a).getD k z50).f1) (by dsimp only; omega) (by refine Nat.le_trans hl3 ?_; rw [List.length_take]; omega) h) ?_
  rintro e_ w_ ⟨rfl, h⟩
  refine ⟨_, rfl, ?_⟩
  refine Sx.wl_nil ?_
  refine Sx.qn_block_normal ?_
  refine Sx.qn_then ?_
  refine Sx.wc_region ?_
  refine Sx.wl_v rfl rfl (Sx.ov_bin _ rfl rfl (Sx.binR_add (r := ((k : Int)) + 1) (Sx.w64 (by omega)))) ?_
  refine Sx.wl_v rfl rfl (Sx.ov_move _ rfl) ?_
  refine Sx.wl_nil ?_
  have e_ : (⟨((⟨expand (a.take k), 0⟩ : LS)).st ++ List.replicate ((((a).getD k z50).f0) : Int).toNat (((a).getD k z50).f1), ((⟨expand (a.take k), 0⟩ : LS)).base⟩ : LS) = (⟨expand (a.take (k + 1)), 0⟩ : LS) := by rw [hxn]
  replace h := Sx.st_cast (congrArg (fun z_ => ([listS b1 (z_), Sx.blk b8 [.int .i64 (((a).getD k z50).f0), .int .i64 (((a).getD k z50).f1)] 50, listS b2 ((⟨[], 0⟩ : LS))] ++ R)) e_) h
  clear e_
  replace h := Sx.st_front 2 h
  replace h := Sx.st_front 1 h
  replace h := Sx.st_selT [true, true, false] h
  refine Sx.qn_next ((k + 1)) (by show a.length - (k + 1) < a.length - k; omega) ⟨(congrArg (fun z_ => some (Value.slice (some ad4) z_ (ca))) (show (a.length : Nat) = a.length by first | rfl | simp)), rfl, rfl, rfl, (congrArg (fun z_ => some (Value.slice (some ad4) z_ (ca))) (show (a.length : Nat) = a.length by first | rfl | simp)), rfl, (congrArg (fun z_ => some (Value.int .i64 z_)) (show (((k : Int)) + 1 : Int) = ((k + 1) : Int) by omega)), trivial⟩ ?_
  show ((k + 1) ≤ a.length) ∧ _
  exact ⟨by first | omega | simp, h⟩
 ·
  have e_ : (⟨expand (a.take k), 0⟩ : LS) = (⟨expand a, 0⟩ : LS) := by rw [show k = a.length by omega, List.take_length]
  replace h := Sx.st_cast (congrArg (fun z_ => ([listS b1 (z_), listS b2 ((⟨[], 0⟩ : LS))] ++ R)) e_) h
  clear e_
  refine Sx.wc_exit ?_
  refine Sx.qn_then_exit ?_
  refine Sx.qn_then_exit ?_
  refine Sx.qn_block_exit ?_
  refine Sx.qn_then ?_
  refine Sx.wc_seq ?_
  refine Sx.wc_seq ?_
  refine Sx.wc_region ?_
  refine Sx.wl_v rfl rfl (Sx.ov_move _ rfl) ?_
  refine Sx.wl_v rfl rfl (Sx.ov_len _ _ _ _ _ rfl es29) ?_
  refine Sx.wl_v rfl rfl (Sx.ov_move _ rfl) ?_
  refine Sx.wl_nil ?_
  refine Sx.qn_then ?_
  refine Sx.wc_block ?_
  have e_ : (⟨[], 0⟩ : LS) = (⟨expand (b.take 0), 0⟩ : LS) := by rfl
  replace h := Sx.st_cast (congrArg (fun z_ => ([listS b1 ((⟨expand a, 0⟩ : LS)), listS b2 (z_)] ++ R)) e_) h
  clear e_
  replace h := Sx.st_front 1 h
  refine Sx.wc_loop (fun (x_ : Nat) => [(0, .slice (Aa) (a.length) (ca)), (1, .slice (Ab) (b.length) (cb)), (5, .pointer (some ⟨b1, 0, none⟩)), (6, .pointer (some ⟨b2, 0, none⟩)), (30, .slice (Ab) (b.length) (cb)), (31, .int .i64 ((b.length : Int))), (32, .int .i64 ((x_ : Int)))]) (fun (x_ : Nat) (w : World) => (x_ ≤ b.length) ∧ Sx.St w0 F0 ([listS b2 ((⟨expand (b.take x_), 0⟩ : LS)), listS b1 ((⟨expand a, 0⟩ : LS))] ++ R) w) (fun (x_ : Nat) => b.length - x_) (0) ?_ ?_ ?_
  · exact ⟨rfl, rfl, rfl, rfl, rfl, (congrArg (fun z_ => some (Value.int .i64 z_)) (show (((b.length : Nat) : Int) : Int) = (b.length : Int) by omega)), (congrArg (fun z_ => some (Value.int .i64 z_)) (show (0 : Int) = (0 : Int) by omega)), trivial⟩
  · exact ⟨by first | omega | simp, h⟩
  intro j w h
  obtain ⟨hJ, h⟩ := h
  replace hJ : j ≤ b.length := hJ
  replace h : Sx.St w0 F0 ([listS b2 ((⟨expand (b.take j), 0⟩ : LS)), listS b1 ((⟨expand a, 0⟩ : LS))] ++ R) w := h
  show Sx.WC _ _ _ _ [(0, .slice (Aa) (a.length) (ca)), (1, .slice (Ab) (b.length) (cb)), (5, .pointer (some ⟨b1, 0, none⟩)), (6, .pointer (some ⟨b2, 0, none⟩)), (30, .slice (Ab) (b.length) (cb)), (31, .int .i64 ((b.length : Int))), (32, .int .i64 ((j : Int)))] _
  refine Sx.wc_seq ?_
  refine Sx.wc_region ?_
  refine Sx.wl_v rfl rfl (Sx.ov_bin _ rfl rfl (Sx.binR_lss)) ?_
  refine Sx.wl_nil ?_
  refine Sx.qn_then ?_
  refine Sx.wc_seq ?_
  refine Sx.wc_cond (by rfl) (fun c9 => ?_) (fun c9 => ?_)
  ·
   have hk : j < b.length := by omega
   have hxn := expand_next hk z50
   have hl1 := exp_take_le b j
   have hl2 := exp_take_le b (j + 1)
   have hl3 := exp_runs_len (b.take j)
   have hl4 : (expand (b.take (j + 1))).length = (expand (b.take j)).length + (b.getD j z50).f0.toNat := by rw [hxn]; simp
   refine Sx.wc_skip ?_
   refine Sx.qn_then ?_
   refine Sx.wc_seq ?_
   refine Sx.wc_block ?_
   refine Sx.wc_seq ?_
   refine Sx.wc_region ?_
   obtain ⟨ad10, rfl⟩ := Sx.C_some ((hb [_, _] _ h)) (k := j) (by first | assumption | omega | (simp only [List.length_set, List.length_append, List.length_cons, List.length_nil]; omega))
   refine Sx.wl_v rfl rfl (Sx.ov_indexAddrN _ _ _ _ _ j rfl rfl es29 rfl (by first | assumption | omega | (simp only [List.length_take, List.length_drop, List.length_set, List.length_append, List.length_cons, List.length_nil]; omega))) ?_
   obtain ⟨cl13, _, hk12, hc11⟩ := Sx.C_cells ((hb [_, _] _ h)) (z := z50) (k := j) (by first | assumption | omega | (simp only [List.length_set, List.length_append, List.length_cons, List.length_nil]; omega))
   obtain rfl := k50_open hk12
   refine Sx.wl_v rfl rfl (Sx.ov_loadN _ [.int .i64 (((b).getD j z50).f0), .int .i64 (((b).getD j z50).f1)] rfl sh50 (by intro j u hu; rw [Deep.add_add]; exact (hc11 _ _ hu))) ?_
   refine Sx.wl_alloc _ h rfl rfl zo50 (fun b14 _ h => ?_)
   replace h : Sx.St _ _ (Sx.blk b14 [.int .i64 (0), .int .i64 (0)] 50 :: _) _ := h
   refine Sx.wl_storebN 0 [.int .i64 (((b).getD j z50).f0), .int .i64 (((b).getD j z50).f1)] [.int .i64 (((b).getD j z50).f0), .int .i64 (((b).getD j z50).f1)] h rfl rfl rfl rfl (by simp [Value.oneCell']) sh50 rfl rfl (fun _ h => ?_)
   refine Sx.wl_nil ?_
   refine Sx.qn_then ?_
   refine Sx.wc_region ?_
   refine Sx.wl_v rfl rfl (Sx.ov_move _ rfl) ?_
   refine Sx.wl_v rfl rfl (Sx.ov_fieldAddr _ ⟨b14, 0, none⟩ _ rfl fo50_0 rfl) ?_
   refine Sx.wl_v rfl rfl (Sx.ov_loadb 0 _ h rfl rfl sh3 rfl) ?_
   refine Sx.wl_v rfl rfl (Sx.ov_fieldAddr _ ⟨b14, 1, none⟩ _ rfl fo50_1 rfl) ?_
   refine Sx.wl_v rfl rfl (Sx.ov_loadb 0 _ h rfl rfl sh3 rfl) ?_
   replace h := Sx.st_front 1 h
   refine Sx.wl_call _ rfl rfl rfl ent43 (put_S b2 ((⟨expand (b.take j), 0⟩ : LS)) (((b).getD j z50).f0) (((b).getD j z50).f1) (by dsimp only; omega) (by refine Nat.le_trans hl3 ?_; rw [List.length_take]; omega) h) ?_
   rintro e_ w_ ⟨rfl, h⟩
   refine ⟨_, rfl, ?_⟩
   refine Sx.wl_nil ?_
   refine Sx.qn_block_normal ?_
   refine Sx.qn_then ?_
   refine Sx.wc_region ?_
   refine Sx.wl_v rfl rfl (Sx.ov_bin _ rfl rfl (Sx.binR_add (r := ((j : Int)) + 1) (Sx.w64 (by omega)))) ?_
   refine Sx.wl_v rfl rfl (Sx.ov_move _ rfl) ?_
   refine Sx.wl_nil ?_
   have e_ : (⟨((⟨expand (b.take j), 0⟩ : LS)).st ++ List.replicate ((((b).getD j z50).f0) : Int).toNat (((b).getD j z50).f1), ((⟨expand (b.take j), 0⟩ : LS)).base⟩ : LS) = (⟨expand (b.take (j + 1)), 0⟩ : LS) := by rw [hxn]
   replace h := Sx.st_cast (congrArg (fun z_ => ([listS b2 (z_), Sx.blk b14 [.int .i64 (((b).getD j z50).f0), .int .i64 (((b).getD j z50).f1)] 50, listS b1 ((⟨expand a, 0⟩ : LS))] ++ R)) e_) h
   clear e_
   replace h := Sx.st_front 2 h
   replace h := Sx.st_front 1 h
   replace h := Sx.st_selT [true, true, false] h
   refine Sx.qn_next ((j + 1)) (by show b.length - (j + 1) < b.length - j; omega) ⟨rfl, (congrArg (fun z_ => some (Value.slice (some ad10) z_ (cb))) (show (b.length : Nat) = b.length by first | rfl | simp)), rfl, rfl, (congrArg (fun z_ => some (Value.slice (some ad10) z_ (cb))) (show (b.length : Nat) = b.length by first | rfl | simp)), rfl, (congrArg (fun z_ => some (Value.int .i64 z_)) (show (((j : Int)) + 1 : Int) = ((j + 1) : Int) by omega)), trivial⟩ ?_
   show ((j + 1) ≤ b.length) ∧ _
   exact ⟨by first | omega | simp, h⟩
  ·
   have e_ : (⟨expand (b.take j), 0⟩ : LS) = (⟨expand b, 0⟩ : LS) := by rw [show j = b.length by omega, List.take_length]
   replace h := Sx.st_cast (congrArg (fun z_ => ([listS b2 (z_), listS b1 ((⟨expand a, 0⟩ : LS))] ++ R)) e_) h
   clear e_
   refine Sx.wc_exit ?_
   refine Sx.qn_then_exit ?_
   refine Sx.qn_then_exit ?_
   refine Sx.qn_block_exit ?_
   refine Sx.qn_then ?_
   refine Sx.wc_seq ?_
   refine Sx.wc_seq ?_
   replace h := Sx.st_front 1 h
   obtain ⟨A15, c16, h⟩ := listS_open h
   replace h : Sx.St _ _ (Sx.blk b1 [.slice (A15) ((runsOf (expand a)).length) (c16), .int .i64 ((((expand a)).length : Int)), .int .i64 ((0))] 98 :: Sx.row k50 50 (A15) (c16) (runsOf (expand a)) :: _) _ := h
   replace h := Sx.st_front 2 h
   obtain ⟨A17, c18, h⟩ := listS_open h
   replace h : Sx.St _ _ (Sx.blk b2 [.slice (A17) ((runsOf (expand b)).length) (c18), .int .i64 ((((expand b)).length : Int)), .int .i64 ((0))] 98 :: Sx.row k50 50 (A17) (c18) (runsOf (expand b)) :: _) _ := h
   refine Sx.wc_draw (fun w => Sx.St w0 F0 ([Sx.blk b2 [.slice (A17) ((runsOf (expand b)).length) (c18), .int .i64 ((((expand b)).length : Int)), .int .i64 ((0))] 98, Sx.row k50 50 (A17) (c18) (runsOf (expand b)), Sx.blk b1 [.slice (A15) ((runsOf (expand a)).length) (c16), .int .i64 ((((expand a)).length : Int)), .int .i64 ((0))] 98, Sx.row k50 50 (A15) (c16) (runsOf (expand a))] ++ R) w) (by kernel_rfl) ?_
   replace h := Sx.st_drew h
   refine Sx.wa_tk 0 rfl rfl rfl (Sx.st_selT [true, true, true, true] h) (fun w_ hS => Sx.ov_move _ rfl) ?_
   refine Sx.wa_tk 1 rfl rfl rfl (Sx.st_selT [true, true, true, true] h) (fun w_ hS => Sx.ov_nilCheck _ rfl) ?_
   refine Sx.wa_tk 2 rfl rfl rfl (Sx.st_selT [true, true, true, true] h) (fun w_ hS => Sx.ov_fieldAddr _ ⟨b1, 0, none⟩ _ rfl fo98_0 rfl) ?_
   refine Sx.wa_tk 3 rfl rfl rfl (Sx.st_selT [true, true, true, true] h) (fun w_ hS => Sx.ov_loadb 2 _ hS rfl rfl sh29 rfl) ?_
   refine Sx.wa_tk 4 rfl rfl rfl (Sx.st_selT [true, true, true, true] h) (fun w_ hS => Sx.ov_len _ _ _ _ _ rfl es29) ?_
   refine Sx.wa_tk 5 rfl rfl rfl (Sx.st_selT [true, true, true, true] h) (fun w_ hS => Sx.ov_move _ rfl) ?_
   refine Sx.wa_tk 6 rfl rfl rfl (Sx.st_selT [true, true, true, true] h) (fun w_ hS => Sx.ov_nilCheck _ rfl) ?_
   refine Sx.wa_tk 7 rfl rfl rfl (Sx.st_selT [true, true, true, true] h) (fun w_ hS => Sx.ov_fieldAddr _ ⟨b2, 0, none⟩ _ rfl fo98_0 rfl) ?_
   refine Sx.wa_tk 8 rfl rfl rfl (Sx.st_selT [true, true, true, true] h) (fun w_ hS => Sx.ov_loadb 0 _ hS rfl rfl sh29 rfl) ?_
   refine Sx.wa_tk 9 rfl rfl rfl (Sx.st_selT [true, true, true, true] h) (fun w_ hS => Sx.ov_len _ _ _ _ _ rfl es29) ?_
   refine Sx.wa_tk 10 rfl rfl rfl (Sx.st_selT [true, true, true, true] h) (fun w_ hS => Sx.ov_bin _ rfl rfl (Sx.binR_neq)) ?_
   refine Sx.wa_done (by kernel_rfl) ?_
   refine Sx.qn_then ?_
   refine Sx.wc_cond (by rfl) (fun c19 => ?_) (fun c19 => ?_)
   ·
    refine Sx.wc_seq ?_
    refine Sx.wc_region ?_
    refine Sx.wl_v rfl rfl (Sx.ov_assign _ rfl) ?_
    refine Sx.wl_nil ?_
    refine Sx.qn_then ?_
    refine Sx.wc_ret ?_
    refine Sx.qn_then_ret ?_
    replace h := Sx.st_selT [false, false, false, false] h
    refine Sx.qn_ret [_] ⟨rfl, trivial⟩ ?_
    have e_ : sameV a b = false := decide_eq_false (fun e => by have := congrArg List.length e; omega)
    rw [e_]
    exact ⟨rfl, h⟩
   ·
    refine Sx.wc_skip ?_
    refine Sx.qn_then ?_
    refine Sx.wc_seq ?_
    refine Sx.wc_seq ?_
    refine Sx.wc_region ?_
    refine Sx.wl_v rfl rfl (Sx.ov_move _ rfl) ?_
    refine Sx.wl_v rfl rfl (Sx.ov_nilCheck _ rfl) ?_
    refine Sx.wl_v rfl rfl (Sx.ov_fieldAddr _ ⟨b1, 0, none⟩ _ rfl fo98_0 rfl) ?_
    refine Sx.wl_v rfl rfl (Sx.ov_loadb 2 _ h rfl rfl sh29 rfl) ?_
    refine Sx.wl_v rfl rfl (Sx.ov_len _ _ _ _ _ rfl es29) ?_
    refine Sx.wl_v rfl rfl (Sx.ov_move _ rfl) ?_
    refine Sx.wl_nil ?_
    refine Sx.qn_then ?_
    refine Sx.wc_block ?_
    have hlen2 : (runsOf (expand a)).length = (runsOf (expand b)).length := by omega
    have hl5 := exp_runs_len a
    replace h := Sx.st_front 1 h
    replace h := Sx.st_front 1 h
    replace h := Sx.st_front 3 h
    replace h := Sx.st_front 3 h
    refine Sx.wc_loop (fun (x_ : Nat) => [(5, .pointer (some ⟨b1, 0, none⟩)), (6, .pointer (some ⟨b2, 0, none⟩)), (57, .slice (A15) ((runsOf (expand a)).length) (c16)), (58, .int .i64 (((runsOf (expand a)).length : Int))), (59, .int .i64 ((x_ : Int)))]) (fun (x_ : Nat) (w : World) => (x_ ≤ (runsOf (expand a)).length ∧ (runsOf (expand a)).take x_ = (runsOf (expand b)).take x_) ∧ Sx.St w0 F0 ([Sx.blk b1 [.slice (A15) ((runsOf (expand a)).length) (c16), .int .i64 ((((expand a)).length : Int)), .int .i64 ((0))] 98, Sx.row k50 50 (A15) (c16) (runsOf (expand a)), Sx.blk b2 [.slice (A17) ((runsOf (expand b)).length) (c18), .int .i64 ((((expand b)).length : Int)), .int .i64 ((0))] 98, Sx.row k50 50 (A17) (c18) (runsOf (expand b))] ++ R) w) (fun (x_ : Nat) => (runsOf (expand a)).length - x_) (0) ?_ ?_ ?_
    · exact ⟨rfl, rfl, rfl, (congrArg (fun z_ => some (Value.int .i64 z_)) (show ((((runsOf (expand a)).length : Nat) : Int) : Int) = ((runsOf (expand a)).length : Int) by omega)), (congrArg (fun z_ => some (Value.int .i64 z_)) (show (0 : Int) = (0 : Int) by omega)), trivial⟩
    · exact ⟨⟨Nat.zero_le _, rfl⟩, h⟩
    intro m w h
    obtain ⟨hJ, h⟩ := h
    replace hJ : m ≤ (runsOf (expand a)).length ∧ (runsOf (expand a)).take m = (runsOf (expand b)).take m := hJ
    replace h : Sx.St w0 F0 ([Sx.blk b1 [.slice (A15) ((runsOf (expand a)).length) (c16), .int .i64 ((((expand a)).length : Int)), .int .i64 ((0))] 98, Sx.row k50 50 (A15) (c16) (runsOf (expand a)), Sx.blk b2 [.slice (A17) ((runsOf (expand b)).length) (c18), .int .i64 ((((expand b)).length : Int)), .int .i64 ((0))] 98, Sx.row k50 50 (A17) (c18) (runsOf (expand b))] ++ R) w := h
    show Sx.WC _ _ _ _ [(5, .pointer (some ⟨b1, 0, none⟩)), (6, .pointer (some ⟨b2, 0, none⟩)), (57, .slice (A15) ((runsOf (expand a)).length) (c16)), (58, .int .i64 (((runsOf (expand a)).length : Int))), (59, .int .i64 ((m : Int)))] _
    refine Sx.wc_seq ?_
    refine Sx.wc_region ?_
    refine Sx.wl_v rfl rfl (Sx.ov_bin _ rfl rfl (Sx.binR_lss)) ?_
    refine Sx.wl_nil ?_
    refine Sx.qn_then ?_
    refine Sx.wc_seq ?_
    refine Sx.wc_cond (by rfl) (fun c20 => ?_) (fun c20 => ?_)
    ·
     have hk : m < (runsOf (expand a)).length := by omega
     refine Sx.wc_skip ?_
     refine Sx.qn_then ?_
     refine Sx.wc_seq ?_
     refine Sx.wc_block ?_
     refine Sx.wc_seq ?_
     refine Sx.wc_region ?_
     refine Sx.wl_v rfl rfl (Sx.ov_move _ rfl) ?_
     obtain ⟨ad21, rfl⟩ := Sx.C_some ((Sx.row_reads h (i := 1) rfl).2) (k := m) (by first | assumption | omega | (simp only [List.length_set, List.length_append, List.length_cons, List.length_nil]; omega))
     refine Sx.wl_v rfl rfl (Sx.ov_indexAddrN _ _ _ _ _ m rfl rfl es29 rfl (by first | assumption | omega | (simp only [List.length_take, List.length_drop, List.length_set, List.length_append, List.length_cons, List.length_nil]; omega))) ?_
     obtain ⟨cl24, _, hk23, hc22⟩ := Sx.C_cells ((Sx.row_reads h (i := 1) rfl).2) (z := z50) (k := m) (by first | assumption | omega | (simp only [List.length_set, List.length_append, List.length_cons, List.length_nil]; omega))
     obtain rfl := k50_open hk23
     refine Sx.wl_v rfl rfl (Sx.ov_loadN _ [.int .i64 (((runsOf (expand a)).getD m z50).f0), .int .i64 (((runsOf (expand a)).getD m z50).f1)] rfl sh50 (by intro j u hu; rw [Deep.add_add]; exact (hc22 _ _ hu))) ?_
     refine Sx.wl_alloc _ h rfl rfl zo50 (fun b25 _ h => ?_)
     replace h : Sx.St _ _ (Sx.blk b25 [.int .i64 (0), .int .i64 (0)] 50 :: _) _ := h
     refine Sx.wl_v rfl rfl (Sx.ov_assign _ rfl) ?_
     refine Sx.wl_storebN 0 [.int .i64 (((runsOf (expand a)).getD m z50).f0), .int .i64 (((runsOf (expand a)).getD m z50).f1)] [.int .i64 (((runsOf (expand a)).getD m z50).f0), .int .i64 (((runsOf (expand a)).getD m z50).f1)] h rfl rfl rfl rfl (by simp [Value.oneCell']) sh50 rfl rfl (fun _ h => ?_)
     refine Sx.wl_nil ?_
     refine Sx.qn_then ?_
     refine Sx.wc_seq ?_
     refine Sx.wc_draw (fun w => Sx.St w0 F0 ([Sx.blk b25 [.int .i64 (((runsOf (expand a)).getD m z50).f0), .int .i64 (((runsOf (expand a)).getD m z50).f1)] 50, Sx.blk b1 [.slice (some ad21) ((runsOf (expand a)).length) (c16), .int .i64 ((((expand a)).length : Int)), .int .i64 ((0))] 98, Sx.row k50 50 (some ad21) (c16) (runsOf (expand a)), Sx.blk b2 [.slice (A17) ((runsOf (expand b)).length) (c18), .int .i64 ((((expand b)).length : Int)), .int .i64 ((0))] 98, Sx.row k50 50 (A17) (c18) (runsOf (expand b))] ++ R) w) (by kernel_rfl) ?_
     replace h := Sx.st_drew h
     refine Sx.wa_tk 0 rfl rfl rfl (Sx.st_selT [true, true, true, true, true] h) (fun w_ hS => Sx.ov_loadbN 0 [.int .i64 (((runsOf (expand a)).getD m z50).f0), .int .i64 (((runsOf (expand a)).getD m z50).f1)] hS rfl rfl sh50 rfl) ?_
     refine Sx.wa_tk 1 rfl rfl rfl (Sx.st_selT [true, true, true, true, true] h) (fun w_ hS => Sx.ov_move _ rfl) ?_
     refine Sx.wa_tk 2 rfl rfl rfl (Sx.st_selT [true, true, true, true, true] h) (fun w_ hS => Sx.ov_nilCheck _ rfl) ?_
     refine Sx.wa_tk 3 rfl rfl rfl (Sx.st_selT [true, true, true, true, true] h) (fun w_ hS => Sx.ov_fieldAddr _ ⟨b2, 0, none⟩ _ rfl fo98_0 rfl) ?_
     refine Sx.wa_tk 4 rfl rfl rfl (Sx.st_selT [true, true, true, true, true] h) (fun w_ hS => Sx.ov_loadb 3 _ hS rfl rfl sh29 rfl) ?_
     refine Sx.wa_tk 5 rfl rfl rfl (Sx.st_selT [true, true, true, true, true] h) (fun w_ hS => Sx.ov_move _ rfl) ?_
     obtain ⟨ad26, rfl⟩ := Sx.C_some ((Sx.row_reads h (i := 4) rfl).2) (k := m) (by first | assumption | omega | (simp only [List.length_set, List.length_append, List.length_cons, List.length_nil]; omega))
     refine Sx.wa_tk 6 rfl rfl rfl (Sx.st_selT [true, true, true, true, true] h) (fun w_ hS => Sx.ov_indexAddrN _ _ _ _ _ m rfl rfl es29 rfl (by first | assumption | omega | (simp only [List.length_take, List.length_drop, List.length_set, List.length_append, List.length_cons, List.length_nil]; omega))) ?_
     refine Sx.wa_tk 7 rfl rfl rfl (Sx.st_selT [true, true, true, true, true] h) (fun w_ hS => by
         obtain ⟨cl29, _, hk28, hc27⟩ := Sx.C_cells ((Sx.row_reads hS (i := 4) rfl).2) (z := z50) (k := m) (by first | assumption | omega | (simp only [List.length_set, List.length_append, List.length_cons, List.length_nil]; omega))
         obtain rfl := k50_open hk28
         exact Sx.ov_loadN _ [.int .i64 (((runsOf (expand b)).getD m z50).f0), .int .i64 (((runsOf (expand b)).getD m z50).f1)] rfl sh50 (by intro j u hu; rw [Deep.add_add]; exact (hc27 _ _ hu))) ?_
     refine Sx.wa_tk 8 rfl rfl rfl (Sx.st_selT [true, true, true, true, true] h) (fun w_ hS => Sx.ov_bin _ rfl rfl (Sx.binR_neS ((((((runsOf (expand a)).getD m z50).f0 : Int) == (((runsOf (expand b)).getD m z50).f0)) && (((((runsOf (expand a)).getD m z50).f1 : Int) == (((runsOf (expand b)).getD m z50).f1)) && true))) (¬ ((((runsOf (expand a)).getD m z50).f0 : Int) = (((runsOf (expand b)).getD m z50).f0) ∧ (((runsOf (expand a)).getD m z50).f1 : Int) = (((runsOf (expand b)).getD m z50).f1))) eqf50 eqs50 (by kernel_rfl) (by rw [Bool.eq_iff_iff]; simp))) ?_
     refine Sx.wa_done (by kernel_rfl) ?_
     refine Sx.qn_then ?_
     refine Sx.wc_cond (by rfl) (fun c30 => ?_) (fun c30 => ?_)
     ·
      refine Sx.wc_seq ?_
      refine Sx.wc_region ?_
      refine Sx.wl_v rfl rfl (Sx.ov_assign _ rfl) ?_
      refine Sx.wl_nil ?_
      refine Sx.qn_then ?_
      refine Sx.wc_ret ?_
      refine Sx.qn_block_ret ?_
      refine Sx.qn_then_ret ?_
      refine Sx.qn_then_ret ?_
      refine Sx.qn_block_ret ?_
      refine Sx.qn_then_ret ?_
      replace h := Sx.st_selT [false, false, false, false, false] h
      refine Sx.qn_ret [_] ⟨rfl, trivial⟩ ?_
      have e_ : sameV a b = false := decide_eq_false (fun e => by
        have h_ : (runsOf (expand a)).getD m z50 = (runsOf (expand b)).getD m z50   := by rw [e]
        have h1_ := congrArg S50.f0 h_; have h2_ := congrArg S50.f1 h_; omega)
      rw [e_]
      exact ⟨rfl, h⟩
     ·
      refine Sx.wc_skip ?_
      refine Sx.qn_block_normal ?_
      refine Sx.qn_then ?_
      refine Sx.wc_region ?_
      refine Sx.wl_v rfl rfl (Sx.ov_bin _ rfl rfl (Sx.binR_add (r := ((m : Int)) + 1) (Sx.w64 (by omega)))) ?_
      refine Sx.wl_v rfl rfl (Sx.ov_move _ rfl) ?_
      refine Sx.wl_nil ?_
      replace h := Sx.st_front 4 h
      replace h := Sx.st_front 4 h
      replace h := Sx.st_front 4 h
      replace h := Sx.st_front 4 h
      replace h := Sx.st_selT [true, true, true, true, false] h
      refine Sx.qn_next ((m + 1)) (by show (runsOf (expand a)).length - (m + 1) < (runsOf (expand a)).length - m; omega) ⟨rfl, rfl, (congrArg (fun z_ => some (Value.slice (some ad21) z_ (c16))) (show ((runsOf (expand a)).length : Nat) = (runsOf (expand a)).length by first | rfl | simp)), rfl, (congrArg (fun z_ => some (Value.int .i64 z_)) (show (((m : Int)) + 1 : Int) = ((m + 1) : Int) by omega)), trivial⟩ ?_
      show ((m + 1) ≤ (runsOf (expand a)).length ∧ (runsOf (expand a)).take (m + 1) = (runsOf (expand b)).take (m + 1)) ∧ _
      have hn2 := take_next_eq hJ.2 hk hlen2 z50 (rn_ext (by omega))
      exact ⟨⟨by omega, hn2⟩, h⟩
    ·
     refine Sx.wc_exit ?_
     refine Sx.qn_then_exit ?_
     refine Sx.qn_then_exit ?_
     refine Sx.qn_block_exit ?_
     refine Sx.qn_then ?_
     refine Sx.wc_seq ?_
     refine Sx.wc_region ?_
     refine Sx.wl_v rfl rfl (Sx.ov_assign _ rfl) ?_
     refine Sx.wl_nil ?_
     refine Sx.qn_then ?_
     refine Sx.wc_ret ?_
     replace h := Sx.st_selT [false, false, false, false] h
     refine Sx.qn_ret [_] ⟨rfl, trivial⟩ ?_
     have e_ : sameV a b = true := decide_eq_true (take_all_eq hJ.2 (by omega) hlen2)
     rw [e_]
     exact ⟨rfl, h⟩
theorem put_set {L : List Rn} (hL : 0 < L.length) {n : Nat} {s : Int} {z : Rn} (hn : n ≠ 0) (hs : (L.getD (L.length - 1) z).f1 = s) : putL L n s = L.set (L.length - 1) ⟨(L.getD (L.length - 1) z).f0 + n, (L.getD (L.length - 1) z).f1⟩ := by
  unfold putL
  rw [if_neg hn, last_getD hL z]
  simp only
  rw [if_pos hs, set_last hL]
theorem put_app {L : List Rn} {n : Nat} {s : Int} {z : Rn} (hn : n ≠ 0) (hs : ¬ (0 < L.length ∧ (L.getD (L.length - 1) z).f1 = s)) : putL L n s = L ++ [⟨n, s⟩] := by
  unfold putL
  rw [if_neg hn]
  by_cases hL : 0 < L.length
  · rw [last_getD hL z]
    simp only
    rw [if_neg (fun e => hs ⟨hL, e⟩)]
  · have : L = [] := List.eq_nil_of_length_eq_zero (by omega)
    subst this; rfl
theorem merged_next {l : List Rn} {k : Nat} (hk : k < l.length) (z : Rn) : runsOf (expand (l.take (k + 1))) = putL (runsOf (expand (l.take k))) (l.getD k z).f0.toNat (l.getD k z).f1 := by rw [expand_next hk z, runsOf_rep]
def sameB (a b : List Rn) : Bool := decide (a = b)
theorem last_bnd (σ : List Int) (z : Rn) (hz : z.f0 = 0) : 0 ≤ ((runsOf σ).getD ((runsOf σ).length - 1) z).f0 ∧ ((runsOf σ).getD ((runsOf σ).length - 1) z).f0 ≤ σ.length := by
  by_cases hL : 0 < (runsOf σ).length
  · have hm := getD_mem (L := runsOf σ) (k := (runsOf σ).length - 1) (by omega) z
    have h2 := pos_runs σ _ hm
    have h3 := mem_lenR (pos_runs σ) hm
    rw [lenR_runs] at h3
    exact ⟨by omega, h3⟩
  · have : runsOf σ = [] := List.eq_nil_of_length_eq_zero (by omega)
    simp [this, hz]
set_option maxRecDepth 100000 in
theorem rMerged_calls {w0 w : World} {F0 : Nat → Prop} {R : List Sx.HP} (l : List Rn) (Al : Option Addr) (cl : Nat) (hl : (expand l).length ≤ 1152921504606846976 ∧ l.length ≤ 1099511627776) (hr : ∀ cs w, Sx.St w0 F0 (cs ++ R) w → k50.C w Al l.length l) (h : Sx.St w0 F0 ([] ++ R) w) : Calls Try.prog 35 #[.slice (Al) (l.length) (cl)] w (fun e w1 => ∃ A c, e = .returned (.slice A (runsOf (expand l)).length c) ∧ Sx.St w0 F0 (Sx.row k50 50 A c (runsOf (expand l)) :: R) w1) := by
 refine Sx.calls_fn (vs := [.slice (Al) (l.length) (cl)]) Try.func35 rfl Try.ntmps35 rfl ?_
 refine Sx.wc_seq ?_
 refine Sx.wc_region ?_
 refine Sx.wl_v rfl rfl (Sx.ov_assign _ rfl) ?_
 refine Sx.wl_nil ?_
 refine Sx.qn_then ?_
 refine Sx.wc_seq ?_
 refine Sx.wc_region ?_
 refine Sx.wl_v rfl rfl (Sx.ov_assign _ rfl) ?_
 refine Sx.wl_nil ?_
 refine Sx.qn_then ?_
 refine Sx.wc_seq ?_
 refine Sx.wc_seq ?_
 refine Sx.wc_region ?_
 refine Sx.wl_v rfl rfl (Sx.ov_assign _ rfl) ?_
 refine Sx.wl_nil ?_
 refine Sx.qn_then ?_
 refine Sx.wc_block ?_
 replace h := Sx.st_nilrow k50 50 h
 have e_ : [] = runsOf (expand (l.take 0)) := by rfl
 replace h := Sx.st_cast (congrArg (fun z_ => ([Sx.row k50 50 (none) (0) (z_)] ++ R)) e_) h
 clear e_
 refine Sx.wc_loop (fun (x_ : Nat × (Option Addr) × Nat) => [(0, .slice (Al) (l.length) (cl)), (3, .slice (x_.2.1) ((runsOf (expand (l.take x_.1))).length) (x_.2.2)), (4, .int .i64 ((x_.1 : Int)))]) (fun (x_ : Nat × (Option Addr) × Nat) (w : World) => (x_.1 ≤ l.length) ∧ Sx.St w0 F0 ([Sx.row k50 50 (x_.2.1) (x_.2.2) (runsOf (expand (l.take x_.1)))] ++ R) w) (fun (x_ : Nat × (Option Addr) × Nat) => l.length - x_.1) (0, none, 0) ?_ ?_ ?_
 · exact ⟨rfl, rfl, (congrArg (fun z_ => some (Value.int .i64 z_)) (show (0 : Int) = (0 : Int) by omega)), trivial⟩
 · exact ⟨by first | omega | simp, h⟩
 rintro ⟨k, A, c⟩ w h
 obtain ⟨hJ, h⟩ := h
 replace hJ : k ≤ l.length := hJ
 replace h : Sx.St w0 F0 ([Sx.row k50 50 (A) (c) (runsOf (expand (l.take k)))] ++ R) w := h
 show Sx.WC _ _ _ _ [(0, .slice (Al) (l.length) (cl)), (3, .slice (A) ((runsOf (expand (l.take k))).length) (c)), (4, .int .i64 ((k : Int)))] _
 refine Sx.wc_seq ?_
 refine Sx.wc_seq ?_
 refine Sx.wc_region ?_
 refine Sx.wl_v rfl rfl (Sx.ov_move _ rfl) ?_
 refine Sx.wl_v rfl rfl (Sx.ov_move _ rfl) ?_
 refine Sx.wl_v rfl rfl (Sx.ov_len _ _ _ _ _ rfl es29) ?_
 refine Sx.wl_v rfl rfl (Sx.ov_bin _ rfl rfl (Sx.binR_lss)) ?_
 refine Sx.wl_nil ?_
 refine Sx.qn_then ?_
 refine Sx.wc_cond (by rfl) (fun c1 => ?_) (fun c1 => ?_)
 ·
  have hk : k < l.length := by omega
  have hmn := merged_next hk z50
  have hlb := last_bnd (expand (l.take k)) z50 rfl
  have hlb2 := exp_runs_len (l.take k)
  have hl1 := exp_take_le l k
  have hl2 := exp_take_le l (k + 1)
  have hl4 : (expand (l.take (k + 1))).length = (expand (l.take k)).length + (l.getD k z50).f0.toNat := by rw [expand_next hk z50]; simp
  have hlt : (l.take k).length = k := by rw [List.length_take]; omega
  refine Sx.wc_skip ?_
  refine Sx.qn_then ?_
  refine Sx.wc_seq ?_
  refine Sx.wc_block ?_
  refine Sx.wc_seq ?_
  refine Sx.wc_seq ?_
  refine Sx.wc_region ?_
  refine Sx.wl_v rfl rfl (Sx.ov_move _ rfl) ?_
  refine Sx.wl_v rfl rfl (Sx.ov_move _ rfl) ?_
  obtain ⟨ad2, rfl⟩ := Sx.C_some ((hr [_] _ h)) (k := k) (by first | assumption | omega | (simp only [List.length_set, List.length_append, List.length_cons, List.length_nil]; omega))
  refine Sx.wl_v rfl rfl (Sx.ov_indexAddrN _ _ _ _ _ k rfl rfl es29 rfl (by first | assumption | omega | (simp only [List.length_take, List.length_drop, List.length_set, List.length_append, List.length_cons, List.length_nil]; omega))) ?_
  refine Sx.wl_v rfl rfl (Sx.ov_fieldAddr _ ((ad2).add (k * 2 + 0)) _ rfl fo50_0 (by first | exact Deep.add_add _ _ _ | (rw [Deep.add_add]) | rfl)) ?_
  obtain ⟨cl5, _, hk4, hc3⟩ := Sx.C_cells ((hr [_] _ h)) (z := z50) (k := k) (by first | assumption | omega | (simp only [List.length_set, List.length_append, List.length_cons, List.length_nil]; omega))
  obtain rfl := k50_open hk4
  refine Sx.wl_v rfl rfl (Sx.ov_load1 _ _ rfl sh3 ((hc3 0 _ rfl))) ?_
  refine Sx.wl_v rfl rfl (Sx.ov_bin _ rfl rfl (Sx.binR_leq)) ?_
  refine Sx.wl_nil ?_
  refine Sx.qn_then ?_
  refine Sx.wc_cond (by rfl) (fun c6 => ?_) (fun c6 => ?_)
  ·
   refine Sx.wc_exit ?_
   refine Sx.qn_then_exit ?_
   refine Sx.qn_block_exit ?_
   refine Sx.qn_then ?_
   refine Sx.wc_region ?_
   refine Sx.wl_v rfl rfl (Sx.ov_move _ rfl) ?_
   refine Sx.wl_v rfl rfl (Sx.ov_bin _ rfl rfl (Sx.binR_add (r := ((k : Int)) + 1) (Sx.w64 (by omega)))) ?_
   refine Sx.wl_v rfl rfl (Sx.ov_assign _ rfl) ?_
   refine Sx.wl_nil ?_
   have hnx : runsOf (expand (l.take (k + 1))) = runsOf (expand (l.take k)) := by
     rw [hmn]
     first
     | (rw [show (l.getD k z50).f0.toNat = 0 by omega]; rfl)
     | (rw [put_set (z := z50) (by omega) (by omega) (by omega), show (((l.getD k z50).f0.toNat : Nat) : Int) = (l.getD k z50).f0 by omega])
     | (rw [put_app (z := z50) (by omega) (by omega), show (((l.getD k z50).f0.toNat : Nat) : Int) = (l.getD k z50).f0 by omega])
   have e_ : runsOf (expand (l.take k)) = runsOf (expand (l.take (k + 1))) := by exact hnx.symm
   replace h := Sx.st_cast (congrArg (fun z_ => ([Sx.row k50 50 (A) (c) (z_)] ++ R)) e_) h
   clear e_
   refine Sx.qn_next ((k + 1), A, c) (by show l.length - (k + 1) < l.length - k; omega) ⟨(congrArg (fun z_ => some (Value.slice (some ad2) z_ (cl))) (show (l.length : Nat) = l.length by first | rfl | simp)), (congrArg (fun z_ => some (Value.slice (A) z_ (c))) (by rw [hnx]; try simp)), (congrArg (fun z_ => some (Value.int .i64 z_)) (show (((k : Int)) + 1 : Int) = ((k + 1) : Int) by omega)), trivial⟩ ?_
   show ((k + 1) ≤ l.length) ∧ _
   exact ⟨by first | omega | simp, h⟩
  ·
   refine Sx.wc_skip ?_
   refine Sx.qn_then ?_
   refine Sx.wc_seq ?_
   refine Sx.wc_seq ?_
   refine Sx.wc_draw (fun w => Sx.St w0 F0 ([Sx.row k50 50 (A) (c) (runsOf (expand (l.take k)))] ++ R) w) (by kernel_rfl) ?_
   replace h := Sx.st_drew h
   refine Sx.wa_tk 0 rfl rfl rfl (Sx.st_selT [true] h) (fun w_ hS => Sx.ov_move _ rfl) ?_
   refine Sx.wa_tk 1 rfl rfl rfl (Sx.st_selT [true] h) (fun w_ hS => Sx.ov_len _ _ _ _ _ rfl es29) ?_
   refine Sx.wa_tk 2 rfl rfl rfl (Sx.st_selT [true] h) (fun w_ hS => Sx.ov_bin _ rfl rfl (Sx.binR_gtr)) ?_
   refine Sx.wa_tk 3 rfl rfl rfl (Sx.st_selT [true] h) (fun w_ hS => Sx.ov_move _ rfl) ?_
   refine Sx.wa_split 20 rfl (fun c7 => ?_) (fun c7 => ?_)
   ·
    refine Sx.wa_tk 4 rfl rfl rfl (Sx.st_selT [true] h) (fun w_ hS => Sx.ov_move _ rfl) ?_
    refine Sx.wa_tk 5 rfl rfl rfl (Sx.st_selT [true] h) (fun w_ hS => Sx.ov_move _ rfl) ?_
    refine Sx.wa_tk 6 rfl rfl rfl (Sx.st_selT [true] h) (fun w_ hS => Sx.ov_len _ _ _ _ _ rfl es29) ?_
    refine Sx.wa_tk 7 rfl rfl rfl (Sx.st_selT [true] h) (fun w_ hS => Sx.ov_bin _ rfl rfl (Sx.binR_sub (r := ((((runsOf (expand (l.take k))).length : Nat) : Int)) - 1) (Sx.w64 (by omega)))) ?_
    obtain ⟨ad8, rfl⟩ := Sx.C_some ((Sx.row_reads h (i := 0) rfl).2) (k := (((runsOf (expand (l.take k))).length) - 1)) (by first | assumption | omega | (simp only [List.length_set, List.length_append, List.length_cons, List.length_nil]; omega))
    refine Sx.wa_tk 8 rfl rfl rfl (Sx.st_selT [true] h) (fun w_ hS => Sx.ov_indexAddrN _ _ _ _ _ (((runsOf (expand (l.take k))).length) - 1) rfl rfl es29 (by omega) (by first | assumption | omega | (simp only [List.length_take, List.length_drop, List.length_set, List.length_append, List.length_cons, List.length_nil]; omega))) ?_
    refine Sx.wa_tk 9 rfl rfl rfl (Sx.st_selT [true] h) (fun w_ hS => Sx.ov_fieldAddr _ ((ad8).add ((((runsOf (expand (l.take k))).length) - 1) * 2 + 1)) _ rfl fo50_1 (by first | exact Deep.add_add _ _ _ | (rw [Deep.add_add]) | rfl)) ?_
    refine Sx.wa_tk 10 rfl rfl rfl (Sx.st_selT [true] h) (fun w_ hS => by
        obtain ⟨cl11, _, hk10, hc9⟩ := Sx.C_cells ((Sx.row_reads hS (i := 0) rfl).2) (z := z50) (k := (((runsOf (expand (l.take k))).length) - 1)) (by first | assumption | omega | (simp only [List.length_set, List.length_append, List.length_cons, List.length_nil]; omega))
        obtain rfl := k50_open hk10
        exact Sx.ov_load1 _ _ rfl sh3 ((hc9 1 _ rfl))) ?_
    refine Sx.wa_tk 11 rfl rfl rfl (Sx.st_selT [true] h) (fun w_ hS => Sx.ov_move _ rfl) ?_
    refine Sx.wa_tk 12 rfl rfl rfl (Sx.st_selT [true] h) (fun w_ hS => Sx.ov_move _ rfl) ?_
    refine Sx.wa_tk 13 rfl rfl rfl (Sx.st_selT [true] h) (fun w_ hS => Sx.ov_indexAddrN _ _ _ _ _ k rfl rfl es29 rfl (by first | assumption | omega | (simp only [List.length_take, List.length_drop, List.length_set, List.length_append, List.length_cons, List.length_nil]; omega))) ?_
    refine Sx.wa_tk 14 rfl rfl rfl (Sx.st_selT [true] h) (fun w_ hS => Sx.ov_fieldAddr _ ((ad2).add (k * 2 + 1)) _ rfl fo50_1 (by first | exact Deep.add_add _ _ _ | (rw [Deep.add_add]) | rfl)) ?_
    refine Sx.wa_tk 15 rfl rfl rfl (Sx.st_selT [true] h) (fun w_ hS => by
        obtain ⟨cl14, _, hk13, hc12⟩ := Sx.C_cells ((hr [_] _ hS)) (z := z50) (k := k) (by first | assumption | omega | (simp only [List.length_set, List.length_append, List.length_cons, List.length_nil]; omega))
        obtain rfl := k50_open hk13
        exact Sx.ov_load1 _ _ rfl sh3 ((hc12 1 _ rfl))) ?_
    refine Sx.wa_tk 16 rfl rfl rfl (Sx.st_selT [true] h) (fun w_ hS => Sx.ov_bin _ rfl rfl (Sx.binR_eql)) ?_
    refine Sx.wa_tk 17 rfl rfl rfl (Sx.st_selT [true] h) (fun w_ hS => Sx.ov_pick_true _ rfl rfl) ?_
    refine Sx.wa_done (by kernel_rfl) ?_
    refine Sx.qn_then ?_
    refine Sx.wc_cond (by rfl) (fun c15 => ?_) (fun c15 => ?_)
    ·
     refine Sx.wc_seq ?_
     refine Sx.wc_draw (fun w => Sx.St w0 F0 ([] ++ R) w) (by kernel_rfl) ?_
     replace h := Sx.st_drew h
     refine Sx.wa_tk 0 rfl rfl rfl (Sx.st_selT [false] h) (fun w_ hS => Sx.ov_move _ rfl) ?_
     refine Sx.wa_tk 1 rfl rfl rfl (Sx.st_selT [false] h) (fun w_ hS => Sx.ov_move _ rfl) ?_
     refine Sx.wa_tk 2 rfl rfl rfl (Sx.st_selT [false] h) (fun w_ hS => Sx.ov_len _ _ _ _ _ rfl es29) ?_
     refine Sx.wa_tk 3 rfl rfl rfl (Sx.st_selT [false] h) (fun w_ hS => Sx.ov_bin _ rfl rfl (Sx.binR_sub (r := ((((runsOf (expand (l.take k))).length : Nat) : Int)) - 1) (Sx.w64 (by omega)))) ?_
     refine Sx.wa_tk 4 rfl rfl rfl (Sx.st_selT [false] h) (fun w_ hS => Sx.ov_move _ rfl) ?_
     refine Sx.wa_tk 5 rfl rfl rfl (Sx.st_selT [false] h) (fun w_ hS => Sx.ov_move _ rfl) ?_
     refine Sx.wa_tk 6 rfl rfl rfl (Sx.st_selT [false] h) (fun w_ hS => Sx.ov_len _ _ _ _ _ rfl es29) ?_
     refine Sx.wa_tk 7 rfl rfl rfl (Sx.st_selT [false] h) (fun w_ hS => Sx.ov_bin _ rfl rfl (Sx.binR_sub (r := ((((runsOf (expand (l.take k))).length : Nat) : Int)) - 1) (Sx.w64 (by omega)))) ?_
     refine Sx.wa_tk 8 rfl rfl rfl (Sx.st_selT [false] h) (fun w_ hS => Sx.ov_indexAddrN _ _ _ _ _ (((runsOf (expand (l.take k))).length) - 1) rfl rfl es29 (by omega) (by first | assumption | omega | (simp only [List.length_take, List.length_drop, List.length_set, List.length_append, List.length_cons, List.length_nil]; omega))) ?_
     refine Sx.wa_tk 9 rfl rfl rfl (Sx.st_selT [false] h) (fun w_ hS => Sx.ov_fieldAddr _ ((ad8).add ((((runsOf (expand (l.take k))).length) - 1) * 2 + 0)) _ rfl fo50_0 (by first | exact Deep.add_add _ _ _ | (rw [Deep.add_add]) | rfl)) ?_
     refine Sx.wa_tk 11 rfl rfl rfl (Sx.st_selT [false] h) (fun w_ hS => Sx.ov_move _ rfl) ?_
     refine Sx.wa_tk 12 rfl rfl rfl (Sx.st_selT [false] h) (fun w_ hS => Sx.ov_move _ rfl) ?_
     refine Sx.wa_tk 13 rfl rfl rfl (Sx.st_selT [false] h) (fun w_ hS => Sx.ov_indexAddrN _ _ _ _ _ k rfl rfl es29 rfl (by first | assumption | omega | (simp only [List.length_take, List.length_drop, List.length_set, List.length_append, List.length_cons, List.length_nil]; omega))) ?_
     refine Sx.wa_tk 14 rfl rfl rfl (Sx.st_selT [false] h) (fun w_ hS => Sx.ov_fieldAddr _ ((ad2).add (k * 2 + 0)) _ rfl fo50_0 (by first | exact Deep.add_add _ _ _ | (rw [Deep.add_add]) | rfl)) ?_
     refine Sx.wa_tk 15 rfl rfl rfl (Sx.st_selT [false] h) (fun w_ hS => by
         obtain ⟨cl33, _, hk32, hc31⟩ := Sx.C_cells ((hr [] _ hS)) (z := z50) (k := k) (by first | assumption | omega | (simp only [List.length_set, List.length_append, List.length_cons, List.length_nil]; omega))
         obtain rfl := k50_open hk32
         exact Sx.ov_load1 _ _ rfl sh3 ((hc31 0 _ rfl))) ?_
     refine Sx.wa_one 10 rfl (by kernel_rfl) ?_
     obtain ⟨cl39, _, hk38, hc37⟩ := Sx.C_cells ((Sx.row_reads h (i := 0) rfl).2) (z := z50) (k := (((runsOf (expand (l.take k))).length) - 1)) (by first | assumption | omega | (simp only [List.length_set, List.length_append, List.length_cons, List.length_nil]; omega))
     obtain rfl := k50_open hk38
     refine Sx.wl_v rfl rfl (Sx.ov_load1 _ _ rfl sh3 ((hc37 0 _ rfl))) ?_
     refine Sx.wl_nil ?_
     refine Sx.qn_wa (Sx.st_selT [false] h) ?_
     refine Sx.wa_tk 16 rfl rfl rfl (Sx.st_selT [false] h) (fun w_ hS => Sx.ov_bin _ rfl rfl (Sx.binR_add (r := (((runsOf (expand (l.take k))).getD (((runsOf (expand (l.take k))).length) - 1) z50).f0) + (((l).getD k z50).f0)) (Sx.w64 (by omega)))) ?_
     refine Sx.wa_tk 17 rfl rfl rfl (Sx.st_selT [false] h) (fun w_ hS => Sx.ov_indexAddrN _ _ _ _ _ (((runsOf (expand (l.take k))).length) - 1) rfl rfl es29 (by omega) (by first | assumption | omega | (simp only [List.length_take, List.length_drop, List.length_set, List.length_append, List.length_cons, List.length_nil]; omega))) ?_
     refine Sx.wa_tk 18 rfl rfl rfl (Sx.st_selT [false] h) (fun w_ hS => Sx.ov_fieldAddr _ ((ad8).add ((((runsOf (expand (l.take k))).length) - 1) * 2 + 0)) _ rfl fo50_0 (by first | exact Deep.add_add _ _ _ | (rw [Deep.add_add]) | rfl)) ?_
     refine Sx.wa_one 19 rfl (by kernel_rfl) ?_
     refine Sx.wl_storeeN 0 (((runsOf (expand (l.take k))).length) - 1) 0 (.int .i64 ((((runsOf (expand (l.take k))).getD (((runsOf (expand (l.take k))).length) - 1) z50).f0) + (((l).getD k z50).f0))) [.int .i64 ((((runsOf (expand (l.take k))).getD (((runsOf (expand (l.take k))).length) - 1) z50).f0) + (((l).getD k z50).f0))] z50 ((⟨(((runsOf (expand (l.take k))).getD (((runsOf (expand (l.take k))).length) - 1) z50).f0) + (((l).getD k z50).f0), ((runsOf (expand (l.take k))).getD (((runsOf (expand (l.take k))).length) - 1) z50).f1⟩ : Rn)) h rfl rfl rfl (by first | rfl | simp) rfl rfl (by simp [Value.oneCell']) szf3 (by first | assumption | omega | (simp only [List.length_set, List.length_append, List.length_cons, List.length_nil]; omega)) (Nat.le_of_ble_eq_true rfl) (by intro cl hcl hM; obtain ⟨_, _, _, hM⟩ := hM; obtain rfl := k50_openM hM; intro _ _ _; exact k50_mkM _ _ _ ((⟨(((runsOf (expand (l.take k))).getD (((runsOf (expand (l.take k))).length) - 1) z50).f0) + (((l).getD k z50).f0), ((runsOf (expand (l.take k))).getD (((runsOf (expand (l.take k))).length) - 1) z50).f1⟩ : Rn))) (fun _ h => ?_)
     refine Sx.wl_nil ?_
     refine Sx.qn_wa (Sx.st_selT [false] h) ?_
     refine Sx.wa_done (by kernel_rfl) ?_
     refine Sx.qn_then ?_
     refine Sx.wc_exit ?_
     refine Sx.qn_then_exit ?_
     refine Sx.qn_block_exit ?_
     refine Sx.qn_then ?_
     refine Sx.wc_region ?_
     refine Sx.wl_v rfl rfl (Sx.ov_move _ rfl) ?_
     refine Sx.wl_v rfl rfl (Sx.ov_bin _ rfl rfl (Sx.binR_add (r := ((k : Int)) + 1) (Sx.w64 (by omega)))) ?_
     refine Sx.wl_v rfl rfl (Sx.ov_assign _ rfl) ?_
     refine Sx.wl_nil ?_
     have hnx : runsOf (expand (l.take (k + 1))) = (runsOf (expand (l.take k))).set (((runsOf (expand (l.take k))).length) - 1) ((⟨(((runsOf (expand (l.take k))).getD (((runsOf (expand (l.take k))).length) - 1) z50).f0) + (((l).getD k z50).f0), ((runsOf (expand (l.take k))).getD (((runsOf (expand (l.take k))).length) - 1) z50).f1⟩ : Rn)) := by
       rw [hmn]
       first
       | (rw [show (l.getD k z50).f0.toNat = 0 by omega]; rfl)
       | (rw [put_set (z := z50) (by omega) (by omega) (by omega), show (((l.getD k z50).f0.toNat : Nat) : Int) = (l.getD k z50).f0 by omega])
       | (rw [put_app (z := z50) (by omega) (by omega), show (((l.getD k z50).f0.toNat : Nat) : Int) = (l.getD k z50).f0 by omega])
     have e_ : (runsOf (expand (l.take k))).set (((runsOf (expand (l.take k))).length) - 1) ((⟨(((runsOf (expand (l.take k))).getD (((runsOf (expand (l.take k))).length) - 1) z50).f0) + (((l).getD k z50).f0), ((runsOf (expand (l.take k))).getD (((runsOf (expand (l.take k))).length) - 1) z50).f1⟩ : Rn)) = runsOf (expand (l.take (k + 1))) := by exact hnx.symm
     replace h := Sx.st_cast (congrArg (fun z_ => ([Sx.row k50 50 (some ad8) (c) (z_)] ++ R)) e_) h
     clear e_
     refine Sx.qn_next ((k + 1), some ad8, c) (by show l.length - (k + 1) < l.length - k; omega) ⟨(congrArg (fun z_ => some (Value.slice (some ad2) z_ (cl))) (show (l.length : Nat) = l.length by first | rfl | simp)), (congrArg (fun z_ => some (Value.slice (some ad8) z_ (c))) (by rw [hnx]; try simp)), (congrArg (fun z_ => some (Value.int .i64 z_)) (show (((k : Int)) + 1 : Int) = ((k + 1) : Int) by omega)), trivial⟩ ?_
     show ((k + 1) ≤ l.length) ∧ _
     exact ⟨by first | omega | simp, h⟩
    ·
     refine Sx.wc_skip ?_
     refine Sx.qn_then ?_
     refine Sx.wc_region ?_
     refine Sx.wl_v rfl rfl (Sx.ov_move _ rfl) ?_
     refine Sx.wl_v rfl rfl (Sx.ov_move _ rfl) ?_
     refine Sx.wl_v rfl rfl (Sx.ov_move _ rfl) ?_
     refine Sx.wl_v rfl rfl (Sx.ov_indexAddrN _ _ _ _ _ k rfl rfl es29 rfl (by first | assumption | omega | (simp only [List.length_take, List.length_drop, List.length_set, List.length_append, List.length_cons, List.length_nil]; omega))) ?_
     obtain ⟨cl42, _, hk41, hc40⟩ := Sx.C_cells ((hr [_] _ h)) (z := z50) (k := k) (by first | assumption | omega | (simp only [List.length_set, List.length_append, List.length_cons, List.length_nil]; omega))
     obtain rfl := k50_open hk41
     refine Sx.wl_v rfl rfl (Sx.ov_loadN _ [.int .i64 (((l).getD k z50).f0), .int .i64 (((l).getD k z50).f1)] rfl sh50 (by intro j u hu; rw [Deep.add_add]; exact (hc40 _ _ hu))) ?_
     refine Sx.wl_lit (d := k50) [(0, .agg #[.int .i64 (((l).getD k z50).f0), .int .i64 (((l).getD k z50).f1)])] _ [.int .i64 (((l).getD k z50).f0), .int .i64 (((l).getD k z50).f1)] ([(⟨((l).getD k z50).f0, ((l).getD k z50).f1⟩ : Rn)]) h rfl rfl rfl rfl Try.underlying29 infb50 rfl (by decide) (by kernel_rfl) rfl (fun _ _ _ => ((Reps.none _ _).snoc (k50_mkM _ _ _ ((⟨((l).getD k z50).f0, ((l).getD k z50).f1⟩ : Rn))) rfl)) (fun A43 cp44 _ h => ?_)
     refine Sx.wl_append (d := k50) (L := runsOf (expand (l.take k))) 1 _ 16 _ _ _ ([(⟨((l).getD k z50).f0, ((l).getD k z50).f1⟩ : Rn)]) flat50 h rfl rfl rfl rfl rfl ((Sx.row_reads h (i := 0) rfl).2) Try.underlying29 inf50 rfl (by decide) (by decide) (by simp only [List.length_cons, List.length_nil]; omega) (by first | rfl | simp) (fun A45 cp46 _ h => ?_)
     replace h := Sx.st_selT [false, true] h
     refine Sx.wl_v rfl rfl (Sx.ov_assign _ rfl) ?_
     refine Sx.wl_nil ?_
     refine Sx.qn_block_normal ?_
     refine Sx.qn_then ?_
     refine Sx.wc_region ?_
     refine Sx.wl_v rfl rfl (Sx.ov_move _ rfl) ?_
     refine Sx.wl_v rfl rfl (Sx.ov_bin _ rfl rfl (Sx.binR_add (r := ((k : Int)) + 1) (Sx.w64 (by omega)))) ?_
     refine Sx.wl_v rfl rfl (Sx.ov_assign _ rfl) ?_
     refine Sx.wl_nil ?_
     have hnx : runsOf (expand (l.take (k + 1))) = (runsOf (expand (l.take k))) ++ ([(⟨((l).getD k z50).f0, ((l).getD k z50).f1⟩ : Rn)]) := by
       rw [hmn]
       first
       | (rw [show (l.getD k z50).f0.toNat = 0 by omega]; rfl)
       | (rw [put_set (z := z50) (by omega) (by omega) (by omega), show (((l.getD k z50).f0.toNat : Nat) : Int) = (l.getD k z50).f0 by omega])
       | (rw [put_app (z := z50) (by omega) (by omega), show (((l.getD k z50).f0.toNat : Nat) : Int) = (l.getD k z50).f0 by omega])
     have e_ : (runsOf (expand (l.take k))) ++ ([(⟨((l).getD k z50).f0, ((l).getD k z50).f1⟩ : Rn)]) = runsOf (expand (l.take (k + 1))) := by exact hnx.symm
     replace h := Sx.st_cast (congrArg (fun z_ => ([Sx.row k50 50 (A45) (cp46) (z_)] ++ R)) e_) h
     clear e_
     refine Sx.qn_next ((k + 1), A45, cp46) (by show l.length - (k + 1) < l.length - k; omega) ⟨(congrArg (fun z_ => some (Value.slice (some ad2) z_ (cl))) (show (l.length : Nat) = l.length by first | rfl | simp)), (congrArg (fun z_ => some (Value.slice (A45) z_ (cp46))) (by rw [hnx]; try simp)), (congrArg (fun z_ => some (Value.int .i64 z_)) (show (((k : Int)) + 1 : Int) = ((k + 1) : Int) by omega)), trivial⟩ ?_
     show ((k + 1) ≤ l.length) ∧ _
     exact ⟨by first | omega | simp, h⟩
   ·
    refine Sx.wa_sk 4 rfl rfl rfl (Sx.st_selT [true] h) ?_
    refine Sx.wa_sk 5 rfl rfl rfl (Sx.st_selT [true] h) ?_
    refine Sx.wa_sk 6 rfl rfl rfl (Sx.st_selT [true] h) ?_
    refine Sx.wa_sk 7 rfl rfl rfl (Sx.st_selT [true] h) ?_
    refine Sx.wa_sk 8 rfl rfl rfl (Sx.st_selT [true] h) ?_
    refine Sx.wa_sk 9 rfl rfl rfl (Sx.st_selT [true] h) ?_
    refine Sx.wa_sk 10 rfl rfl rfl (Sx.st_selT [true] h) ?_
    refine Sx.wa_sk 11 rfl rfl rfl (Sx.st_selT [true] h) ?_
    refine Sx.wa_sk 12 rfl rfl rfl (Sx.st_selT [true] h) ?_
    refine Sx.wa_sk 13 rfl rfl rfl (Sx.st_selT [true] h) ?_
    refine Sx.wa_sk 14 rfl rfl rfl (Sx.st_selT [true] h) ?_
    refine Sx.wa_sk 15 rfl rfl rfl (Sx.st_selT [true] h) ?_
    refine Sx.wa_sk 16 rfl rfl rfl (Sx.st_selT [true] h) ?_
    refine Sx.wa_tk 17 rfl rfl rfl (Sx.st_selT [true] h) (fun w_ hS => Sx.ov_pick_false _ rfl rfl) ?_
    refine Sx.wa_done (by kernel_rfl) ?_
    refine Sx.qn_then ?_
    refine Sx.wc_cond_false rfl ?_
    refine Sx.wc_skip ?_
    refine Sx.qn_then ?_
    refine Sx.wc_region ?_
    refine Sx.wl_v rfl rfl (Sx.ov_move _ rfl) ?_
    refine Sx.wl_v rfl rfl (Sx.ov_move _ rfl) ?_
    refine Sx.wl_v rfl rfl (Sx.ov_move _ rfl) ?_
    refine Sx.wl_v rfl rfl (Sx.ov_indexAddrN _ _ _ _ _ k rfl rfl es29 rfl (by first | assumption | omega | (simp only [List.length_take, List.length_drop, List.length_set, List.length_append, List.length_cons, List.length_nil]; omega))) ?_
    obtain ⟨cl49, _, hk48, hc47⟩ := Sx.C_cells ((hr [_] _ h)) (z := z50) (k := k) (by first | assumption | omega | (simp only [List.length_set, List.length_append, List.length_cons, List.length_nil]; omega))
    obtain rfl := k50_open hk48
    refine Sx.wl_v rfl rfl (Sx.ov_loadN _ [.int .i64 (((l).getD k z50).f0), .int .i64 (((l).getD k z50).f1)] rfl sh50 (by intro j u hu; rw [Deep.add_add]; exact (hc47 _ _ hu))) ?_
    refine Sx.wl_lit (d := k50) [(0, .agg #[.int .i64 (((l).getD k z50).f0), .int .i64 (((l).getD k z50).f1)])] _ [.int .i64 (((l).getD k z50).f0), .int .i64 (((l).getD k z50).f1)] ([(⟨((l).getD k z50).f0, ((l).getD k z50).f1⟩ : Rn)]) h rfl rfl rfl rfl Try.underlying29 infb50 rfl (by decide) (by kernel_rfl) rfl (fun _ _ _ => ((Reps.none _ _).snoc (k50_mkM _ _ _ ((⟨((l).getD k z50).f0, ((l).getD k z50).f1⟩ : Rn))) rfl)) (fun A50 cp51 _ h => ?_)
    refine Sx.wl_append (d := k50) (L := runsOf (expand (l.take k))) 1 _ 16 _ _ _ ([(⟨((l).getD k z50).f0, ((l).getD k z50).f1⟩ : Rn)]) flat50 h rfl rfl rfl rfl rfl ((Sx.row_reads h (i := 0) rfl).2) Try.underlying29 inf50 rfl (by decide) (by decide) (by simp only [List.length_cons, List.length_nil]; omega) (by first | rfl | simp) (fun A52 cp53 _ h => ?_)
    replace h := Sx.st_selT [false, true] h
    refine Sx.wl_v rfl rfl (Sx.ov_assign _ rfl) ?_
    refine Sx.wl_nil ?_
    refine Sx.qn_block_normal ?_
    refine Sx.qn_then ?_
    refine Sx.wc_region ?_
    refine Sx.wl_v rfl rfl (Sx.ov_move _ rfl) ?_
    refine Sx.wl_v rfl rfl (Sx.ov_bin _ rfl rfl (Sx.binR_add (r := ((k : Int)) + 1) (Sx.w64 (by omega)))) ?_
    refine Sx.wl_v rfl rfl (Sx.ov_assign _ rfl) ?_
    refine Sx.wl_nil ?_
    have hnx : runsOf (expand (l.take (k + 1))) = (runsOf (expand (l.take k))) ++ ([(⟨((l).getD k z50).f0, ((l).getD k z50).f1⟩ : Rn)]) := by
      rw [hmn]
      first
      | (rw [show (l.getD k z50).f0.toNat = 0 by omega]; rfl)
      | (rw [put_set (z := z50) (by omega) (by omega) (by omega), show (((l.getD k z50).f0.toNat : Nat) : Int) = (l.getD k z50).f0 by omega])
      | (rw [put_app (z := z50) (by omega) (by omega), show (((l.getD k z50).f0.toNat : Nat) : Int) = (l.getD k z50).f0 by omega])
    have e_ : (runsOf (expand (l.take k))) ++ ([(⟨((l).getD k z50).f0, ((l).getD k z50).f1⟩ : Rn)]) = runsOf (expand (l.take (k + 1))) := by exact hnx.symm
    replace h := Sx.st_cast (congrArg (fun z_ => ([Sx.row k50 50 (A52) (cp53) (z_)] ++ R)) e_) h
    clear e_
    refine Sx.qn_next ((k + 1), A52, cp53) (by show l.length - (k + 1) < l.length - k; omega) ⟨(congrArg (fun z_ => some (Value.slice (some ad2) z_ (cl))) (show (l.length : Nat) = l.length by first | rfl | simp)), (congrArg (fun z_ => some (Value.slice (A52) z_ (cp53))) (by rw [hnx]; try simp)), (congrArg (fun z_ => some (Value.int .i64 z_)) (show (((k : Int)) + 1 : Int) = ((k + 1) : Int) by omega)), trivial⟩ ?_
    show ((k + 1) ≤ l.length) ∧ _
    exact ⟨by first | omega | simp, h⟩
 ·
  refine Sx.wc_exit ?_
  refine Sx.qn_then_exit ?_
  refine Sx.qn_then_exit ?_
  refine Sx.qn_block_exit ?_
  refine Sx.qn_then ?_
  refine Sx.wc_seq ?_
  refine Sx.wc_region ?_
  refine Sx.wl_v rfl rfl (Sx.ov_move _ rfl) ?_
  refine Sx.wl_v rfl rfl (Sx.ov_assign _ rfl) ?_
  refine Sx.wl_nil ?_
  refine Sx.qn_then ?_
  refine Sx.wc_ret ?_
  have e_ : runsOf (expand (l.take k)) = runsOf (expand l) := by rw [show k = l.length by omega, List.take_length]
  replace h := Sx.st_cast (congrArg (fun z_ => ([Sx.row k50 50 (A) (c) (z_)] ++ R)) e_) h
  clear e_
  refine Sx.qn_ret [_] ⟨rfl, trivial⟩ ?_
  exact ⟨_, _, congrArg (fun z => Ending.returned (Value.slice (A) z (c))) (by rw [show k = l.length by omega, List.take_length]), h⟩
set_option maxRecDepth 100000 in
theorem rSame_calls {w0 w : World} {F0 : Nat → Prop} {R : List Sx.HP} (a b : List Rn) (Aa Ab : Option Addr) (ca cb : Nat) (ha2 : a.length ≤ 1099511627776) (hb2 : b.length ≤ 1099511627776) (ha : ∀ cs w, Sx.St w0 F0 (cs ++ R) w → k50.C w Aa a.length a) (hb : ∀ cs w, Sx.St w0 F0 (cs ++ R) w → k50.C w Ab b.length b) (h : Sx.St w0 F0 ([] ++ R) w) : Calls Try.prog 34 #[.slice (Aa) (a.length) (ca), .slice (Ab) (b.length) (cb)] w (fun e w1 => e = .returned (.bool (sameB a b)) ∧ Sx.St w0 F0 R w1) := by
 refine Sx.calls_fn (vs := [.slice (Aa) (a.length) (ca), .slice (Ab) (b.length) (cb)]) Try.func34 rfl Try.ntmps34 rfl ?_
 refine Sx.wc_seq ?_
 refine Sx.wc_region ?_
 refine Sx.wl_v rfl rfl (Sx.ov_assign _ rfl) ?_
 refine Sx.wl_nil ?_
 refine Sx.qn_then ?_
 refine Sx.wc_seq ?_
 refine Sx.wc_seq ?_
 refine Sx.wc_region ?_
 refine Sx.wl_v rfl rfl (Sx.ov_move _ rfl) ?_
 refine Sx.wl_v rfl rfl (Sx.ov_len _ _ _ _ _ rfl es29) ?_
 refine Sx.wl_v rfl rfl (Sx.ov_move _ rfl) ?_
 refine Sx.wl_v rfl rfl (Sx.ov_len _ _ _ _ _ rfl es29) ?_
 refine Sx.wl_v rfl rfl (Sx.ov_bin _ rfl rfl (Sx.binR_neq)) ?_
 refine Sx.wl_nil ?_
 refine Sx.qn_then ?_
 refine Sx.wc_cond (by rfl) (fun c1 => ?_) (fun c1 => ?_)
 ·
  refine Sx.wc_seq ?_
  refine Sx.wc_region ?_
  refine Sx.wl_v rfl rfl (Sx.ov_assign _ rfl) ?_
  refine Sx.wl_nil ?_
  refine Sx.qn_then ?_
  refine Sx.wc_ret ?_
  refine Sx.qn_then_ret ?_
  refine Sx.qn_ret [_] ⟨rfl, trivial⟩ ?_
  have e_ : sameB a b = false := decide_eq_false (fun e => by have := congrArg List.length e; omega)
  rw [e_]
  exact ⟨rfl, h⟩
 ·
  refine Sx.wc_skip ?_
  refine Sx.qn_then ?_
  refine Sx.wc_seq ?_
  refine Sx.wc_seq ?_
  refine Sx.wc_region ?_
  refine Sx.wl_v rfl rfl (Sx.ov_assign _ rfl) ?_
  refine Sx.wl_nil ?_
  refine Sx.qn_then ?_
  refine Sx.wc_block ?_
  have hlen2 : a.length = b.length := by omega
  refine Sx.wc_loop (fun (x_ : Nat) => [(0, .slice (Aa) (a.length) (ca)), (1, .slice (Ab) (b.length) (cb)), (5, .int .i64 ((x_ : Int)))]) (fun (x_ : Nat) (w : World) => (x_ ≤ a.length ∧ a.take x_ = b.take x_) ∧ Sx.St w0 F0 ([] ++ R) w) (fun (x_ : Nat) => a.length - x_) (0) ?_ ?_ ?_
  · exact ⟨rfl, rfl, (congrArg (fun z_ => some (Value.int .i64 z_)) (show (0 : Int) = (0 : Int) by omega)), trivial⟩
  · exact ⟨⟨Nat.zero_le _, rfl⟩, h⟩
  intro m w h
  obtain ⟨hJ, h⟩ := h
  replace hJ : m ≤ a.length ∧ a.take m = b.take m := hJ
  replace h : Sx.St w0 F0 ([] ++ R) w := h
  show Sx.WC _ _ _ _ [(0, .slice (Aa) (a.length) (ca)), (1, .slice (Ab) (b.length) (cb)), (5, .int .i64 ((m : Int)))] _
  refine Sx.wc_seq ?_
  refine Sx.wc_seq ?_
  refine Sx.wc_region ?_
  refine Sx.wl_v rfl rfl (Sx.ov_move _ rfl) ?_
  refine Sx.wl_v rfl rfl (Sx.ov_move _ rfl) ?_
  refine Sx.wl_v rfl rfl (Sx.ov_len _ _ _ _ _ rfl es29) ?_
  refine Sx.wl_v rfl rfl (Sx.ov_bin _ rfl rfl (Sx.binR_lss)) ?_
  refine Sx.wl_nil ?_
  refine Sx.qn_then ?_
  refine Sx.wc_cond (by rfl) (fun c2 => ?_) (fun c2 => ?_)
  ·
   have hk : m < a.length := by omega
   refine Sx.wc_skip ?_
   refine Sx.qn_then ?_
   refine Sx.wc_seq ?_
   refine Sx.wc_block ?_
   refine Sx.wc_seq ?_
   refine Sx.wc_draw (fun w => Sx.St w0 F0 ([] ++ R) w) (by kernel_rfl) ?_
   replace h := Sx.st_drew h
   refine Sx.wa_tk 0 rfl rfl rfl (Sx.st_selT [] h) (fun w_ hS => Sx.ov_move _ rfl) ?_
   refine Sx.wa_tk 1 rfl rfl rfl (Sx.st_selT [] h) (fun w_ hS => Sx.ov_move _ rfl) ?_
   obtain ⟨ad3, rfl⟩ := Sx.C_some ((ha [] _ h)) (k := m) (by first | assumption | omega | (simp only [List.length_set, List.length_append, List.length_cons, List.length_nil]; omega))
   refine Sx.wa_tk 2 rfl rfl rfl (Sx.st_selT [] h) (fun w_ hS => Sx.ov_indexAddrN _ _ _ _ _ m rfl rfl es29 rfl (by first | assumption | omega | (simp only [List.length_take, List.length_drop, List.length_set, List.length_append, List.length_cons, List.length_nil]; omega))) ?_
   refine Sx.wa_tk 3 rfl rfl rfl (Sx.st_selT [] h) (fun w_ hS => by
       obtain ⟨cl6, _, hk5, hc4⟩ := Sx.C_cells ((ha [] _ hS)) (z := z50) (k := m) (by first | assumption | omega | (simp only [List.length_set, List.length_append, List.length_cons, List.length_nil]; omega))
       obtain rfl := k50_open hk5
       exact Sx.ov_loadN _ [.int .i64 (((a).getD m z50).f0), .int .i64 (((a).getD m z50).f1)] rfl sh50 (by intro j u hu; rw [Deep.add_add]; exact (hc4 _ _ hu))) ?_
   refine Sx.wa_tk 4 rfl rfl rfl (Sx.st_selT [] h) (fun w_ hS => Sx.ov_move _ rfl) ?_
   refine Sx.wa_tk 5 rfl rfl rfl (Sx.st_selT [] h) (fun w_ hS => Sx.ov_move _ rfl) ?_
   obtain ⟨ad7, rfl⟩ := Sx.C_some ((hb [] _ h)) (k := m) (by first | assumption | omega | (simp only [List.length_set, List.length_append, List.length_cons, List.length_nil]; omega))
   refine Sx.wa_tk 6 rfl rfl rfl (Sx.st_selT [] h) (fun w_ hS => Sx.ov_indexAddrN _ _ _ _ _ m rfl rfl es29 rfl (by first | assumption | omega | (simp only [List.length_take, List.length_drop, List.length_set, List.length_append, List.length_cons, List.length_nil]; omega))) ?_
   refine Sx.wa_tk 7 rfl rfl rfl (Sx.st_selT [] h) (fun w_ hS => by
       obtain ⟨cl10, _, hk9, hc8⟩ := Sx.C_cells ((hb [] _ hS)) (z := z50) (k := m) (by first | assumption | omega | (simp only [List.length_set, List.length_append, List.length_cons, List.length_nil]; omega))
       obtain rfl := k50_open hk9
       exact Sx.ov_loadN _ [.int .i64 (((b).getD m z50).f0), .int .i64 (((b).getD m z50).f1)] rfl sh50 (by intro j u hu; rw [Deep.add_add]; exact (hc8 _ _ hu))) ?_
   refine Sx.wa_tk 8 rfl rfl rfl (Sx.st_selT [] h) (fun w_ hS => Sx.ov_bin _ rfl rfl (Sx.binR_neS ((((((a).getD m z50).f0 : Int) == (((b).getD m z50).f0)) && (((((a).getD m z50).f1 : Int) == (((b).getD m z50).f1)) && true))) (¬ ((((a).getD m z50).f0 : Int) = (((b).getD m z50).f0) ∧ (((a).getD m z50).f1 : Int) = (((b).getD m z50).f1))) eqf50 eqs50 (by kernel_rfl) (by rw [Bool.eq_iff_iff]; simp))) ?_
   refine Sx.wa_done (by kernel_rfl) ?_
   refine Sx.qn_then ?_
   refine Sx.wc_cond (by rfl) (fun c11 => ?_) (fun c11 => ?_)
   ·
    refine Sx.wc_seq ?_
    refine Sx.wc_region ?_
    refine Sx.wl_v rfl rfl (Sx.ov_assign _ rfl) ?_
    refine Sx.wl_nil ?_
    refine Sx.qn_then ?_
    refine Sx.wc_ret ?_
    refine Sx.qn_block_ret ?_
    refine Sx.qn_then_ret ?_
    refine Sx.qn_then_ret ?_
    refine Sx.qn_block_ret ?_
    refine Sx.qn_then_ret ?_
    refine Sx.qn_ret [_] ⟨rfl, trivial⟩ ?_
    have e_ : sameB a b = false := decide_eq_false (fun e => by
      have h_ : a.getD m z50 = b.getD m z50 := by rw [e]
      have h1_ := congrArg S50.f0 h_; have h2_ := congrArg S50.f1 h_; omega)
    rw [e_]
    exact ⟨rfl, h⟩
   ·
    refine Sx.wc_skip ?_
    refine Sx.qn_block_normal ?_
    refine Sx.qn_then ?_
    refine Sx.wc_region ?_
    refine Sx.wl_v rfl rfl (Sx.ov_move _ rfl) ?_
    refine Sx.wl_v rfl rfl (Sx.ov_bin _ rfl rfl (Sx.binR_add (r := ((m : Int)) + 1) (Sx.w64 (by omega)))) ?_
    refine Sx.wl_v rfl rfl (Sx.ov_assign _ rfl) ?_
    refine Sx.wl_nil ?_
    refine Sx.qn_next ((m + 1)) (by show a.length - (m + 1) < a.length - m; omega) ⟨(congrArg (fun z_ => some (Value.slice (some ad3) z_ (ca))) (show (a.length : Nat) = a.length by first | rfl | simp)), (congrArg (fun z_ => some (Value.slice (some ad7) z_ (cb))) (show (b.length : Nat) = b.length by first | rfl | simp)), (congrArg (fun z_ => some (Value.int .i64 z_)) (show (((m : Int)) + 1 : Int) = ((m + 1) : Int) by omega)), trivial⟩ ?_
    show ((m + 1) ≤ a.length ∧ a.take (m + 1) = b.take (m + 1)) ∧ _
    have hn2 := take_next_eq hJ.2 hk hlen2 z50 (rn_ext (by omega))
    exact ⟨⟨by omega, hn2⟩, h⟩
  ·
   refine Sx.wc_exit ?_
   refine Sx.qn_then_exit ?_
   refine Sx.qn_then_exit ?_
   refine Sx.qn_block_exit ?_
   refine Sx.qn_then ?_
   refine Sx.wc_seq ?_
   refine Sx.wc_region ?_
   refine Sx.wl_v rfl rfl (Sx.ov_assign _ rfl) ?_
   refine Sx.wl_nil ?_
   refine Sx.qn_then ?_
   refine Sx.wc_ret ?_
   refine Sx.qn_ret [_] ⟨rfl, trivial⟩ ?_
   have e_ : sameB a b = true := decide_eq_true (take_all_eq hJ.2 (by omega) hlen2)
   rw [e_]
   exact ⟨rfl, h⟩
end Go.Proofs.Ytmlkajmlhmfdgaa.RW
