/- The walks of the package runs. -/
import Derived.Test.YtkliboeebookeaaProg
import Derived.Test.YtkliboeebookeaaSxView
import Derived.Test.YtkliboeebookeaaSxKinds
import Derived.Test.YtkliboeebookeaaRunsTh
namespace Go.Proofs.Ytkliboeebookeaa.Runs
open Go Go.RowKit Go.Proofs.YtkliboeebookeaaW.PrintWords Go.Proofs.Ytkliboeebookeaa.Kinds
set_option linter.unusedVariables false
set_option linter.unusedSimpArgs false
theorem fo72_1 : Sx.fieldOff Try.prog 72 1 = some 1 := by kernel_rfl
theorem sh3 : Sx.shapeOf Try.prog 3 = some (false, 1) := by kernel_rfl
theorem fo72_0 : Sx.fieldOff Try.prog 72 0 = some 0 := by kernel_rfl
theorem sh33 : Sx.shapeOf Try.prog 33 = some (false, 1) := by kernel_rfl
theorem es33 : Sx.elemSz Try.prog 33 = some (66, 2) := by kernel_rfl
theorem fo66_1 : Sx.fieldOff Try.prog 66 1 = some 1 := by kernel_rfl
theorem fo66_0 : Sx.fieldOff Try.prog 66 0 = some 0 := by kernel_rfl
theorem szf3 : (Try.prog.info? 3).map (·.size) = some 1 := by kernel_rfl
theorem infb66 : (Try.prog.info? 66).map (fun i => (i.zero, i.size)) = some (some (.agg #[.int .i64 (0), .int .i64 (0)]), 2) := by kernel_rfl
theorem inf66 : (Try.prog.info? 66).map (fun i => (i.zero, i.size, i.bytes)) = some (some (.agg #[.int .i64 (0), .int .i64 (0)]), 2, 16) := by kernel_rfl
theorem sh66 : Sx.shapeOf Try.prog 66 = some (true, 2) := by kernel_rfl
theorem zo66 : Sx.zeroOf Try.prog 66 = some (.agg #[.int .i64 (0), .int .i64 (0)]) := by kernel_rfl
theorem ent40 : Sx.Ent Try.prog 40 := ⟨Try.f40, Try.func40, by kernel_rfl, by kernel_rfl⟩
theorem ent25 : Sx.Ent Try.prog 25 := ⟨Try.f25, Try.func25, by kernel_rfl, by kernel_rfl⟩
theorem fo72_2 : Sx.fieldOff Try.prog 72 2 = some 2 := by kernel_rfl
theorem ent23 : Sx.Ent Try.prog 23 := ⟨Try.f23, Try.func23, by kernel_rfl, by kernel_rfl⟩
theorem ent42 : Sx.Ent Try.prog 42 := ⟨Try.f42, Try.func42, by kernel_rfl, by kernel_rfl⟩
theorem ent43 : Sx.Ent Try.prog 43 := ⟨Try.f43, Try.func43, by kernel_rfl, by kernel_rfl⟩
theorem ent37 : Sx.Ent Try.prog 37 := ⟨Try.f37, Try.func37, by kernel_rfl, by kernel_rfl⟩
theorem ent16 : Sx.Ent Try.prog 16 := ⟨Try.f16, Try.func16, by kernel_rfl, by kernel_rfl⟩

/-- What a list is. -/
structure RL where
  runs : List S66
  size : Int
  base : Int
/-- What a list tells: a style a byte, and what an empty one has. -/
structure LS where
  st : List Int
  base : Int
  deriving DecidableEq
def listB (g : Nat) (x : RL) : Sx.HP := Sx.HP.ex fun A => Sx.HP.ex fun c => (Sx.blk g [.slice A x.runs.length c, .int .i64 x.size, .int .i64 x.base] 72).star (Sx.row k66 66 A c x.runs)
def listS (g : Nat) (x : LS) : Sx.HP := listB g ⟨runsOf x.st, x.st.length, x.base⟩
section
variable {w0 w : World} {F0 : Nat → Prop} {cs : List Sx.HP} {g : Nat}
theorem listB_open {x : RL} (h : Sx.St w0 F0 (listB g x :: cs) w) : ∃ A c, Sx.St w0 F0 (Sx.blk g [.slice A x.runs.length c, .int .i64 x.size, .int .i64 x.base] 72 :: Sx.row k66 66 A c x.runs :: cs) w := by
  obtain ⟨A, h⟩ := Sx.st_unex h
  obtain ⟨c, h⟩ := Sx.st_unex h
  exact ⟨A, c, Sx.st_unstar h⟩
theorem listB_close {A : Option Addr} {c n : Nat} {L : List S66} {s b : Int} (hn : n = L.length) (h : Sx.St w0 F0 (Sx.blk g [.slice A n c, .int .i64 s, .int .i64 b] 72 :: Sx.row k66 66 A c L :: cs) w) : Sx.St w0 F0 (listB g ⟨L, s, b⟩ :: cs) w := by
  subst hn
  exact Sx.st_ex A (Sx.st_ex c (Sx.st_star h))
theorem listS_open {x : LS} (h : Sx.St w0 F0 (listS g x :: cs) w) : ∃ A c, Sx.St w0 F0 (Sx.blk g [.slice A (runsOf x.st).length c, .int .i64 (x.st.length : Int), .int .i64 x.base] 72 :: Sx.row k66 66 A c (runsOf x.st) :: cs) w := listB_open h
theorem listS_close {A : Option Addr} {c n : Nat} {σ : List Int} {s b : Int} (hn : n = (runsOf σ).length) (hs : s = σ.length) (h : Sx.St w0 F0 (Sx.blk g [.slice A n c, .int .i64 s, .int .i64 b] 72 :: Sx.row k66 66 A c (runsOf σ) :: cs) w) : Sx.St w0 F0 (listS g ⟨σ, b⟩ :: cs) w := by
  subst hs
  exact listB_close hn h
end
/-- Bytes behind the others. -/
def putV (x : RL) (n s : Int) : RL :=
  if n ≤ 0 then x
  else if 0 < x.runs.length ∧ (x.runs.getD (x.runs.length - 1) z66).f1 = s then ⟨x.runs.set (x.runs.length - 1) ⟨(x.runs.getD (x.runs.length - 1) z66).f0 + n, (x.runs.getD (x.runs.length - 1) z66).f1⟩, x.size + n, x.base⟩
  else ⟨x.runs ++ [⟨n, s⟩], x.size + n, x.base⟩
theorem putV_S (σ : List Int) (b n s : Int) : putV ⟨runsOf σ, σ.length, b⟩ n s = ⟨runsOf (σ ++ List.replicate n.toNat s), (σ ++ List.replicate n.toNat s).length, b⟩ := by
  have e : ((σ ++ List.replicate n.toNat s).length : Int) = σ.length + max n 0 := by simp
  rw [e, runsOf_rep]
  unfold putV putL
  by_cases hn : n ≤ 0
  · rw [if_pos hn, if_pos (show n.toNat = 0 by omega), show max n 0 = 0 by omega, Int.add_zero]
  · rw [if_neg hn, if_neg (show ¬ n.toNat = 0 by omega), show max n 0 = n by omega]
    have e2 : ((n.toNat : Nat) : Int) = n := by omega
    rw [e2]
    show (if 0 < (runsOf σ).length ∧ ((runsOf σ).getD ((runsOf σ).length - 1) z66).f1 = s then _ else _) = _
    by_cases hL : 0 < (runsOf σ).length
    · rw [last_getD hL z66]
      simp only
      by_cases hs : ((runsOf σ).getD ((runsOf σ).length - 1) z66).f1 = s
      · rw [if_pos (And.intro hL hs), if_pos hs, set_last hL]
      · rw [if_neg (fun h => hs h.2), if_neg hs]
    · have : runsOf σ = [] := List.eq_nil_of_length_eq_zero (by omega)
      rw [this, if_neg (fun h => by simp at h)]
      simp
/-! ### what the calls do -/
abbrev styleP (n : Int) : Prop := 0 ≤ n ∧ n < 32
def atV (x : LS) (i : Int) : Int × Bool := if 0 ≤ i ∧ i < x.st.length then (x.st.getD i.toNat 0, true) else (0, false)
def nearV (x : LS) (i : Int) : Int × Int := if i < 0 ∨ (x.st.length : Int) < i then (0, 30) else if x.st.length = 0 then (x.base, 0) else (x.st.getD (i - 1).toNat 0, 0)
def spanV (x : LS) (a b : Int) : Int := if a < 0 ∨ (x.st.length : Int) < b ∨ b < a then 30 else 0
def insV (x : LS) (i n : Int) : LS × Int :=
  if (nearV x i).2 ≠ 0 then (x, (nearV x i).2) else if n < 0 then (x, 1) else if 65536 - (x.st.length : Int) < n then (x, 31)
  else (⟨x.st.take i.toNat ++ List.replicate n.toNat (nearV x i).1 ++ x.st.drop i.toNat, x.base⟩, 0)
def delV (x : LS) (a b : Int) : LS × Int :=
  if spanV x a b ≠ 0 then (x, spanV x a b) else (⟨x.st.take a.toNat ++ x.st.drop b.toNat, if x.st.length = 0 then x.base else x.st.getD 0 0⟩, 0)
def setV (x : LS) (a b s : Int) : LS × Bool × Int :=
  if spanV x a b ≠ 0 then (x, false, spanV x a b) else if ¬ styleP s then (x, false, 43)
  else (⟨x.st.take a.toNat ++ List.replicate (b - a).toNat s ++ x.st.drop b.toNat, x.base⟩, (part x.st a.toNat b.toNat).any (fun y => decide (y ≠ s)), 0)
/-- The first fault of runs that are laid into so much room. -/
def layE : Int → List Rn → Int
  | _, [] => 0
  | room, r :: l => if r.f0 < 0 then 1 else if ¬ styleP r.f1 then 43 else if room < r.f0 then 30 else layE (room - r.f0) l
def layV (x : LS) (i : Int) (l : List Rn) : LS × Int :=
  if i < 0 ∨ (x.st.length : Int) < i then (x, 30) else if layE (x.st.length - i) l ≠ 0 then (x, layE (x.st.length - i) l)
  else (⟨x.st.take i.toNat ++ expand l ++ x.st.drop (i.toNat + (expand l).length), x.base⟩, 0)

set_option maxRecDepth 100000 in
theorem put_calls {w0 w : World} {F0 : Nat → Prop} {R : List Sx.HP} (g : Nat) (x : RL) (n s : Int) (h0 : 0 ≤ x.size) (h1 : x.size + n ≤ 4611686018427387904) (hl : x.runs.length ≤ 4398046511104) (ha : 0 ≤ (x.runs.getD (x.runs.length - 1) z66).f0 ∧ (x.runs.getD (x.runs.length - 1) z66).f0 ≤ x.size) (h : Sx.St w0 F0 ([listB g (x)] ++ R) w) : Calls Try.prog 40 #[.pointer (some ⟨g, 0, none⟩), .int .i64 (n), .int .i64 (s)] w (fun e w1 => e = .returned (.tuple #[]) ∧ Sx.St w0 F0 (listB g (putV x n s) :: R) w1) := by
 refine Sx.calls_fn (vs := [.pointer (some ⟨g, 0, none⟩), .int .i64 (n), .int .i64 (s)]) Try.func40 rfl Try.ntmps40 rfl ?_
 refine Sx.wc_seq ?_
 refine Sx.wc_seq ?_
 refine Sx.wc_region ?_
 refine Sx.wl_v rfl rfl (Sx.ov_move _ rfl) ?_
 refine Sx.wl_v rfl rfl (Sx.ov_bin _ rfl rfl (Sx.binR_leq)) ?_
 refine Sx.wl_nil ?_
 refine Sx.qn_then ?_
 refine Sx.wc_cond (by rfl) (fun c1 => ?_) (fun c1 => ?_)
 ·
  refine Sx.wc_ret ?_
  refine Sx.qn_then_ret ?_
  refine Sx.qn_ret [] trivial ?_
  exact ⟨rfl, by rw [putV, if_pos c1]; exact h⟩
 ·
  refine Sx.wc_skip ?_
  refine Sx.qn_then ?_
  refine Sx.wc_seq ?_
  refine Sx.wc_region ?_
  refine Sx.wl_v rfl rfl (Sx.ov_move _ rfl) ?_
  refine Sx.wl_v rfl rfl (Sx.ov_nilCheck _ rfl) ?_
  refine Sx.wl_v rfl rfl (Sx.ov_fieldAddr _ ⟨g, 1, none⟩ _ rfl fo72_1 rfl) ?_
  obtain ⟨A2, c3, h⟩ := listB_open h
  refine Sx.wl_v rfl rfl (Sx.ov_loadb 0 _ h rfl rfl sh3 rfl) ?_
  refine Sx.wl_v rfl rfl (Sx.ov_move _ rfl) ?_
  refine Sx.wl_v rfl rfl (Sx.ov_bin _ rfl rfl (Sx.binR_add (r := ((x).size) + n) (Sx.w64 (by omega)))) ?_
  refine Sx.wl_v rfl rfl (Sx.ov_nilCheck _ rfl) ?_
  refine Sx.wl_v rfl rfl (Sx.ov_fieldAddr _ ⟨g, 1, none⟩ _ rfl fo72_1 rfl) ?_
  refine Sx.wl_storeb 0 _ [.slice (A2) (((x).runs).length) (c3), .int .i64 (((x).size) + n), .int .i64 ((x).base)] h rfl rfl rfl rfl rfl rfl sh3 rfl rfl (fun _ h => ?_)
  refine Sx.wl_nil ?_
  refine Sx.qn_then ?_
  refine Sx.wc_seq ?_
  refine Sx.wc_seq ?_
  refine Sx.wc_region ?_
  refine Sx.wl_v rfl rfl (Sx.ov_move _ rfl) ?_
  refine Sx.wl_v rfl rfl (Sx.ov_nilCheck _ rfl) ?_
  refine Sx.wl_v rfl rfl (Sx.ov_fieldAddr _ ⟨g, 0, none⟩ _ rfl fo72_0 rfl) ?_
  refine Sx.wl_v rfl rfl (Sx.ov_loadb 0 _ h rfl rfl sh33 rfl) ?_
  refine Sx.wl_v rfl rfl (Sx.ov_len _ _ _ _ _ rfl es33) ?_
  refine Sx.wl_v rfl rfl (Sx.ov_assign _ rfl) ?_
  refine Sx.wl_nil ?_
  refine Sx.qn_then ?_
  refine Sx.wc_seq ?_
  refine Sx.wc_region ?_
  refine Sx.wl_v rfl rfl (Sx.ov_move _ rfl) ?_
  refine Sx.wl_v rfl rfl (Sx.ov_bin _ rfl rfl (Sx.binR_gtr)) ?_
  refine Sx.wl_v rfl rfl (Sx.ov_move _ rfl) ?_
  refine Sx.wl_split 24 rfl (fun c4 => ?_) (fun c4 => ?_)
  ·
   refine Sx.wl_v rfl rfl (Sx.ov_move _ rfl) ?_
   refine Sx.wl_v rfl rfl (Sx.ov_nilCheck _ rfl) ?_
   refine Sx.wl_v rfl rfl (Sx.ov_fieldAddr _ ⟨g, 0, none⟩ _ rfl fo72_0 rfl) ?_
   refine Sx.wl_v rfl rfl (Sx.ov_loadb 0 _ h rfl rfl sh33 rfl) ?_
   refine Sx.wl_v rfl rfl (Sx.ov_move _ rfl) ?_
   refine Sx.wl_v rfl rfl (Sx.ov_bin _ rfl rfl (Sx.binR_sub (r := (((((x).runs).length : Nat) : Int)) - 1) (Sx.w64 (by omega)))) ?_
   obtain ⟨ad5, rfl⟩ := Sx.C_some ((Sx.row_reads h (i := 1) rfl).2) (k := ((((x).runs).length) - 1)) (by first | assumption | omega)
   refine Sx.wl_v rfl rfl (Sx.ov_indexAddrN _ _ _ _ _ ((((x).runs).length) - 1) rfl rfl es33 (by omega) (by first | assumption | omega | (simp only [List.length_take, List.length_drop, List.length_set]; omega))) ?_
   refine Sx.wl_v rfl rfl (Sx.ov_fieldAddr _ ((ad5).add (((((x).runs).length) - 1) * 2 + 1)) _ rfl fo66_1 (by first | exact Deep.add_add _ _ _ | (rw [Deep.add_add]) | rfl)) ?_
   obtain ⟨cl8, _, hk7, hc6⟩ := Sx.C_cells ((Sx.row_reads h (i := 1) rfl).2) (z := z66) (k := ((((x).runs).length) - 1)) (by first | assumption | omega)
   obtain rfl := k66_open hk7
   refine Sx.wl_v rfl rfl (Sx.ov_load1 _ _ rfl sh3 ((hc6 1 _ rfl))) ?_
   refine Sx.wl_v rfl rfl (Sx.ov_move _ rfl) ?_
   refine Sx.wl_v rfl rfl (Sx.ov_bin _ rfl rfl (Sx.binR_eql)) ?_
   refine Sx.wl_v rfl rfl (Sx.ov_pick_true _ rfl rfl) ?_
   refine Sx.wl_nil ?_
   refine Sx.qn_then ?_
   refine Sx.wc_cond (by rfl) (fun c9 => ?_) (fun c9 => ?_)
   ·
    refine Sx.wc_seq ?_
    refine Sx.wc_region ?_
    refine Sx.wl_v rfl rfl (Sx.ov_move _ rfl) ?_
    refine Sx.wl_v rfl rfl (Sx.ov_nilCheck _ rfl) ?_
    refine Sx.wl_v rfl rfl (Sx.ov_fieldAddr _ ⟨g, 0, none⟩ _ rfl fo72_0 rfl) ?_
    refine Sx.wl_v rfl rfl (Sx.ov_loadb 0 _ h rfl rfl sh33 rfl) ?_
    refine Sx.wl_v rfl rfl (Sx.ov_move _ rfl) ?_
    refine Sx.wl_v rfl rfl (Sx.ov_bin _ rfl rfl (Sx.binR_sub (r := (((((x).runs).length : Nat) : Int)) - 1) (Sx.w64 (by omega)))) ?_
    refine Sx.wl_v rfl rfl (Sx.ov_indexAddrN _ _ _ _ _ ((((x).runs).length) - 1) rfl rfl es33 (by omega) (by first | assumption | omega | (simp only [List.length_take, List.length_drop, List.length_set]; omega))) ?_
    refine Sx.wl_v rfl rfl (Sx.ov_fieldAddr _ ((ad5).add (((((x).runs).length) - 1) * 2 + 0)) _ rfl fo66_0 (by first | exact Deep.add_add _ _ _ | (rw [Deep.add_add]) | rfl)) ?_
    obtain ⟨cl12, _, hk11, hc10⟩ := Sx.C_cells ((Sx.row_reads h (i := 1) rfl).2) (z := z66) (k := ((((x).runs).length) - 1)) (by first | assumption | omega)
    obtain rfl := k66_open hk11
    refine Sx.wl_v rfl rfl (Sx.ov_load1 _ _ rfl sh3 ((hc10 0 _ rfl))) ?_
    refine Sx.wl_v rfl rfl (Sx.ov_move _ rfl) ?_
    refine Sx.wl_v rfl rfl (Sx.ov_bin _ rfl rfl (Sx.binR_add (r := ((((x).runs).getD ((((x).runs).length) - 1) z66).f0) + n) (Sx.w64 (by omega)))) ?_
    refine Sx.wl_v rfl rfl (Sx.ov_indexAddrN _ _ _ _ _ ((((x).runs).length) - 1) rfl rfl es33 (by omega) (by first | assumption | omega | (simp only [List.length_take, List.length_drop, List.length_set]; omega))) ?_
    refine Sx.wl_v rfl rfl (Sx.ov_fieldAddr _ ((ad5).add (((((x).runs).length) - 1) * 2 + 0)) _ rfl fo66_0 (by first | exact Deep.add_add _ _ _ | (rw [Deep.add_add]) | rfl)) ?_
    refine Sx.wl_storeeN 1 ((((x).runs).length) - 1) 0 (.int .i64 (((((x).runs).getD ((((x).runs).length) - 1) z66).f0) + n)) [.int .i64 (((((x).runs).getD ((((x).runs).length) - 1) z66).f0) + n)] z66 ((⟨((((x).runs).getD ((((x).runs).length) - 1) z66).f0) + n, (((x).runs).getD ((((x).runs).length) - 1) z66).f1⟩ : Rn)) h rfl rfl rfl (by first | rfl | simp) rfl rfl (by simp [Value.oneCell']) szf3 (by first | assumption | omega) (Nat.le_of_ble_eq_true rfl) (by intro cl hcl hM; obtain ⟨_, _, _, hM⟩ := hM; obtain rfl := k66_openM hM; intro _ _ _; exact k66_mkM _ _ _ ((⟨((((x).runs).getD ((((x).runs).length) - 1) z66).f0) + n, (((x).runs).getD ((((x).runs).length) - 1) z66).f1⟩ : Rn))) (fun _ h => ?_)
    refine Sx.wl_nil ?_
    refine Sx.qn_then ?_
    refine Sx.wc_ret ?_
    refine Sx.qn_then_ret ?_
    replace h := Sx.st_front 1 h
    replace h := Sx.st_front 1 h
    replace h := listB_close (L := ((x).runs).set ((((x).runs).length) - 1) ((⟨((((x).runs).getD ((((x).runs).length) - 1) z66).f0) + n, (((x).runs).getD ((((x).runs).length) - 1) z66).f1⟩ : Rn))) (by first | rfl | simp) h
    refine Sx.qn_ret [] trivial ?_
    exact ⟨rfl, by rw [putV, if_neg c1, if_pos ⟨by omega, by assumption⟩]; exact h⟩
   ·
    refine Sx.wc_skip ?_
    refine Sx.qn_then ?_
    refine Sx.wc_region ?_
    refine Sx.wl_v rfl rfl (Sx.ov_move _ rfl) ?_
    refine Sx.wl_v rfl rfl (Sx.ov_move _ rfl) ?_
    refine Sx.wl_v rfl rfl (Sx.ov_nilCheck _ rfl) ?_
    refine Sx.wl_v rfl rfl (Sx.ov_fieldAddr _ ⟨g, 0, none⟩ _ rfl fo72_0 rfl) ?_
    refine Sx.wl_v rfl rfl (Sx.ov_loadb 0 _ h rfl rfl sh33 rfl) ?_
    refine Sx.wl_v rfl rfl (Sx.ov_move _ rfl) ?_
    refine Sx.wl_v rfl rfl (Sx.ov_move _ rfl) ?_
    refine Sx.wl_v rfl rfl (Sx.ov_build [(0, .int .i64 (n)), (1, .int .i64 (s))] [.int .i64 (n), .int .i64 (s)] rfl rfl (by kernel_rfl)) ?_
    refine Sx.wl_lit (d := k66) [(0, .agg #[.int .i64 (n), .int .i64 (s)])] _ [.int .i64 (n), .int .i64 (s)] ([(⟨n, s⟩ : Rn)]) h rfl rfl rfl rfl Try.underlying33 infb66 rfl (by decide) (by kernel_rfl) rfl (fun _ _ _ => ((Reps.none _ _).snoc (k66_mkM _ _ _ ((⟨n, s⟩ : Rn))) rfl)) (fun A13 cp14 _ h => ?_)
    refine Sx.wl_append (d := k66) (L := (x).runs) 2 _ 16 _ _ _ ([(⟨n, s⟩ : Rn)]) flat66 h rfl rfl rfl rfl rfl ((Sx.row_reads h (i := 0) rfl).2) Try.underlying33 inf66 rfl (by decide) (by decide) (by first | omega | (simp only [List.length_cons, List.length_nil, List.length_append, List.length_set]; omega)) (by first | rfl | simp) (fun A15 cp16 _ h => ?_)
    replace h := Sx.st_selT [false, true, true] h
    refine Sx.wl_v rfl rfl (Sx.ov_nilCheck _ rfl) ?_
    refine Sx.wl_v rfl rfl (Sx.ov_fieldAddr _ ⟨g, 0, none⟩ _ rfl fo72_0 rfl) ?_
    refine Sx.wl_storeb 0 _ [.slice (A15) ((((x).runs) ++ ([(⟨n, s⟩ : Rn)])).length) (cp16), .int .i64 (((x).size) + n), .int .i64 ((x).base)] h rfl rfl rfl rfl rfl rfl sh33 rfl rfl (fun _ h => ?_)
    refine Sx.wl_nil ?_
    replace h := Sx.st_front 1 h
    replace h := Sx.st_front 1 h
    replace h := listB_close (L := ((x).runs) ++ ([(⟨n, s⟩ : Rn)])) (by first | rfl | simp) h
    refine Sx.qn_end [] trivial ?_
    exact ⟨rfl, by rw [putV, if_neg c1, if_neg (fun e => by have := e.2; contradiction)]; exact h⟩
  ·
   refine Sx.wl_skip rfl rfl ?_
   refine Sx.wl_skip rfl rfl ?_
   refine Sx.wl_skip rfl rfl ?_
   refine Sx.wl_skip rfl rfl ?_
   refine Sx.wl_skip rfl rfl ?_
   refine Sx.wl_skip rfl rfl ?_
   refine Sx.wl_skip rfl rfl ?_
   refine Sx.wl_skip rfl rfl ?_
   refine Sx.wl_skip rfl rfl ?_
   refine Sx.wl_skip rfl rfl ?_
   refine Sx.wl_skip rfl rfl ?_
   refine Sx.wl_v rfl rfl (Sx.ov_pick_false _ rfl rfl) ?_
   refine Sx.wl_nil ?_
   refine Sx.qn_then ?_
   refine Sx.wc_cond_false rfl ?_
   refine Sx.wc_skip ?_
   refine Sx.qn_then ?_
   refine Sx.wc_region ?_
   refine Sx.wl_v rfl rfl (Sx.ov_move _ rfl) ?_
   refine Sx.wl_v rfl rfl (Sx.ov_move _ rfl) ?_
   refine Sx.wl_v rfl rfl (Sx.ov_nilCheck _ rfl) ?_
   refine Sx.wl_v rfl rfl (Sx.ov_fieldAddr _ ⟨g, 0, none⟩ _ rfl fo72_0 rfl) ?_
   refine Sx.wl_v rfl rfl (Sx.ov_loadb 0 _ h rfl rfl sh33 rfl) ?_
   refine Sx.wl_v rfl rfl (Sx.ov_move _ rfl) ?_
   refine Sx.wl_v rfl rfl (Sx.ov_move _ rfl) ?_
   refine Sx.wl_v rfl rfl (Sx.ov_build [(0, .int .i64 (n)), (1, .int .i64 (s))] [.int .i64 (n), .int .i64 (s)] rfl rfl (by kernel_rfl)) ?_
   refine Sx.wl_lit (d := k66) [(0, .agg #[.int .i64 (n), .int .i64 (s)])] _ [.int .i64 (n), .int .i64 (s)] ([(⟨n, s⟩ : Rn)]) h rfl rfl rfl rfl Try.underlying33 infb66 rfl (by decide) (by kernel_rfl) rfl (fun _ _ _ => ((Reps.none _ _).snoc (k66_mkM _ _ _ ((⟨n, s⟩ : Rn))) rfl)) (fun A17 cp18 _ h => ?_)
   refine Sx.wl_append (d := k66) (L := (x).runs) 2 _ 16 _ _ _ ([(⟨n, s⟩ : Rn)]) flat66 h rfl rfl rfl rfl rfl ((Sx.row_reads h (i := 0) rfl).2) Try.underlying33 inf66 rfl (by decide) (by decide) (by first | omega | (simp only [List.length_cons, List.length_nil, List.length_append, List.length_set]; omega)) (by first | rfl | simp) (fun A19 cp20 _ h => ?_)
   replace h := Sx.st_selT [false, true, true] h
   refine Sx.wl_v rfl rfl (Sx.ov_nilCheck _ rfl) ?_
   refine Sx.wl_v rfl rfl (Sx.ov_fieldAddr _ ⟨g, 0, none⟩ _ rfl fo72_0 rfl) ?_
   refine Sx.wl_storeb 0 _ [.slice (A19) ((((x).runs) ++ ([(⟨n, s⟩ : Rn)])).length) (cp20), .int .i64 (((x).size) + n), .int .i64 ((x).base)] h rfl rfl rfl rfl rfl rfl sh33 rfl rfl (fun _ h => ?_)
   refine Sx.wl_nil ?_
   replace h := Sx.st_front 1 h
   replace h := Sx.st_front 1 h
   replace h := listB_close (L := ((x).runs) ++ ([(⟨n, s⟩ : Rn)])) (by first | rfl | simp) h
   refine Sx.qn_end [] trivial ?_
   exact ⟨rfl, by rw [putV, if_neg c1, if_neg (fun e => by omega)]; exact h⟩

theorem put_S {w0 w : World} {F0 : Nat → Prop} {R : List Sx.HP} (g : Nat) (x : LS) (n s : Int) (h1 : (x.st.length : Int) + n ≤ 4611686018427387904) (hl : (runsOf x.st).length ≤ 4398046511104) (h : Sx.St w0 F0 ([listS g x] ++ R) w) :
    Calls Try.prog 40 #[.pointer (some ⟨g, 0, none⟩), .int .i64 n, .int .i64 s] w (fun e w1 => e = .returned (.tuple #[]) ∧ Sx.St w0 F0 (listS g ⟨x.st ++ List.replicate n.toNat s, x.base⟩ :: R) w1) := by
  refine (put_calls g ⟨runsOf x.st, x.st.length, x.base⟩ n s (by simp) h1 hl ?_ h).mono fun e w1 hw => ?_
  · by_cases hL : 0 < (runsOf x.st).length
    · have hm := getD_mem (L := runsOf x.st) (k := (runsOf x.st).length - 1) (by omega) z66
      have h2 := pos_runs x.st _ hm
      have h3 := mem_lenR (pos_runs x.st) hm
      rw [lenR_runs] at h3
      have h5 : (0 : Int) ≤ ((runsOf x.st).getD ((runsOf x.st).length - 1) z66).f0 := by omega
      exact ⟨h5, h3⟩
    · have : runsOf x.st = [] := List.eq_nil_of_length_eq_zero (by omega)
      simp [this, z66]
  · refine ⟨hw.1, ?_⟩
    have h3 := hw.2
    rw [putV_S] at h3
    exact h3

set_option maxRecDepth 100000 in
theorem take_calls {w0 w : World} {F0 : Nat → Prop} {R : List Sx.HP} (g o : Nat) (x y : LS)  (h : Sx.St w0 F0 ([listS g (x), listS o (y)] ++ R) w) : Calls Try.prog 43 #[.pointer (some ⟨g, 0, none⟩), .pointer (some ⟨o, 0, none⟩)] w (fun e w1 => e = .returned (.tuple #[]) ∧ Sx.St w0 F0 (listS g ⟨y.st, x.base⟩ :: R) w1) := by
 refine Sx.calls_fn (vs := [.pointer (some ⟨g, 0, none⟩), .pointer (some ⟨o, 0, none⟩)]) Try.func43 rfl Try.ntmps43 rfl ?_
 replace h := Sx.st_front 1 h
 obtain ⟨A1, c2, h⟩ := listS_open h
 replace h := Sx.st_front 2 h
 obtain ⟨A3, c4, h⟩ := listS_open h
 refine Sx.wc_draw (fun w => Sx.St w0 F0 ([Sx.row k66 66 (A3) (c4) (runsOf (x).st), Sx.blk o [.slice (A1) ((runsOf (y).st).length) (c2), .int .i64 ((((y).st).length : Int)), .int .i64 ((y).base)] 72, Sx.row k66 66 (A1) (c2) (runsOf (y).st)] ++ R) w) (by kernel_rfl) ?_
 replace h := Sx.st_drew h
 refine Sx.wa_tk 0 rfl rfl rfl (Sx.st_selT [false, true, true, true] h) (fun w_ hS => Sx.ov_move _ rfl) ?_
 refine Sx.wa_tk 1 rfl rfl rfl (Sx.st_selT [false, true, true, true] h) (fun w_ hS => Sx.ov_move _ rfl) ?_
 refine Sx.wa_tk 2 rfl rfl rfl (Sx.st_selT [false, true, true, true] h) (fun w_ hS => Sx.ov_move _ rfl) ?_
 refine Sx.wa_tk 3 rfl rfl rfl (Sx.st_selT [false, true, true, true] h) (fun w_ hS => Sx.ov_nilCheck _ rfl) ?_
 refine Sx.wa_tk 4 rfl rfl rfl (Sx.st_selT [false, true, true, true] h) (fun w_ hS => Sx.ov_fieldAddr _ ⟨o, 0, none⟩ _ rfl fo72_0 rfl) ?_
 refine Sx.wa_tk 5 rfl rfl rfl (Sx.st_selT [false, true, true, true] h) (fun w_ hS => Sx.ov_loadb 1 _ hS rfl rfl sh33 rfl) ?_
 refine Sx.wa_tk 6 rfl rfl rfl (Sx.st_selT [false, true, true, true] h) (fun w_ hS => Sx.ov_move _ rfl) ?_
 refine Sx.wa_tk 7 rfl rfl rfl (Sx.st_selT [false, true, true, true] h) (fun w_ hS => Sx.ov_nilCheck _ rfl) ?_
 refine Sx.wa_tk 8 rfl rfl rfl (Sx.st_selT [false, true, true, true] h) (fun w_ hS => Sx.ov_fieldAddr _ ⟨o, 1, none⟩ _ rfl fo72_1 rfl) ?_
 refine Sx.wa_tk 9 rfl rfl rfl (Sx.st_selT [false, true, true, true] h) (fun w_ hS => Sx.ov_loadb 1 _ hS rfl rfl sh3 rfl) ?_
 refine Sx.wa_tk 10 rfl rfl rfl (Sx.st_selT [false, true, true, true] h) (fun w_ hS => Sx.ov_nilCheck _ rfl) ?_
 refine Sx.wa_tk 11 rfl rfl rfl (Sx.st_selT [false, true, true, true] h) (fun w_ hS => Sx.ov_fieldAddr _ ⟨g, 0, none⟩ _ rfl fo72_0 rfl) ?_
 refine Sx.wa_one 12 rfl (by kernel_rfl) ?_
 refine Sx.wl_storeb 0 _ [.slice (A1) ((runsOf (y).st).length) (c2), .int .i64 ((((x).st).length : Int)), .int .i64 ((x).base)] h rfl rfl rfl rfl rfl rfl sh33 rfl rfl (fun _ h => ?_)
 refine Sx.wl_nil ?_
 refine Sx.qn_wa (Sx.st_selT [false, true, true, true] h) ?_
 refine Sx.wa_tk 13 rfl rfl rfl (Sx.st_selT [false, true, true, true] h) (fun w_ hS => Sx.ov_nilCheck _ rfl) ?_
 refine Sx.wa_tk 14 rfl rfl rfl (Sx.st_selT [false, true, true, true] h) (fun w_ hS => Sx.ov_fieldAddr _ ⟨g, 1, none⟩ _ rfl fo72_1 rfl) ?_
 refine Sx.wa_one 15 rfl (by kernel_rfl) ?_
 refine Sx.wl_storeb 0 _ [.slice (A1) ((runsOf (y).st).length) (c2), .int .i64 ((((y).st).length : Int)), .int .i64 ((x).base)] h rfl rfl rfl rfl rfl rfl sh3 rfl rfl (fun _ h => ?_)
 refine Sx.wl_nil ?_
 refine Sx.qn_wa (Sx.st_selT [false, true, true, true] h) ?_
 refine Sx.wa_done (by kernel_rfl) ?_
 replace h := Sx.st_front 3 h
 replace h := Sx.st_front 1 h
 replace h := listS_close (σ := (y).st) (by first | rfl | simp) (by first | rfl | simp) h
 replace h := Sx.st_selT [true, false, false] h
 refine Sx.qn_end [] trivial ?_
 exact ⟨rfl, h⟩

theorem copy_step (σ τ : List Int) (bs a b : Int) (k : Nat) (z : Rn) (hk : k < (runsOf σ).length) (ha : 0 ≤ a) :
    (⟨(⟨τ ++ part σ a.toNat (min b.toNat (posR (runsOf σ) k)), bs⟩ : LS).st ++ List.replicate (min b ((posR (runsOf σ) k : Int) + ((runsOf σ).getD k z).f0) - max a (posR (runsOf σ) k : Int)).toNat ((runsOf σ).getD k z).f1, (⟨τ ++ part σ a.toNat (min b.toNat (posR (runsOf σ) k)), bs⟩ : LS).base⟩ : LS) =
      ⟨τ ++ part σ a.toNat (min b.toNat (posR (runsOf σ) (k + 1))), bs⟩ := by
  obtain ⟨hf1, hf2⟩ := run_fits σ k hk z
  rw [posR_succ _ k hk z, part_next σ τ a.toNat b.toNat (posR (runsOf σ) k) ((runsOf σ).getD k z).f0.toNat ((runsOf σ).getD k z).f1 (run_at σ k hk z) (by omega)]
  simp only [LS.mk.injEq, and_true, List.append_assoc]
  congr 3
  omega

set_option maxRecDepth 100000 in
theorem copyTo_calls {w0 w : World} {F0 : Nat → Prop} {R : List Sx.HP} (g o : Nat) (x y : LS) (a b : Int) (hx : x.st.length ≤ 1099511627776) (hy : y.st.length ≤ 1099511627776) (ha : 0 ≤ a) (ha2 : a ≤ 1099511627776) (hb : 0 ≤ b) (hb2 : b ≤ 1099511627776) (h : Sx.St w0 F0 ([listS g (x), listS o (y)] ++ R) w) : Calls Try.prog 42 #[.pointer (some ⟨g, 0, none⟩), .pointer (some ⟨o, 0, none⟩), .int .i64 (a), .int .i64 (b)] w (fun e w1 => e = .returned (.tuple #[]) ∧ Sx.St w0 F0 (listS g x :: listS o ⟨y.st ++ part x.st a.toNat b.toNat, y.base⟩ :: R) w1) := by
 have hlen := runs_len x.st
 refine Sx.calls_fn (vs := [.pointer (some ⟨g, 0, none⟩), .pointer (some ⟨o, 0, none⟩), .int .i64 (a), .int .i64 (b)]) Try.func42 rfl Try.ntmps42 rfl ?_
 refine Sx.wc_seq ?_
 refine Sx.wc_region ?_
 refine Sx.wl_v rfl rfl (Sx.ov_assign _ rfl) ?_
 refine Sx.wl_nil ?_
 refine Sx.qn_then ?_
 refine Sx.wc_seq ?_
 refine Sx.wc_region ?_
 refine Sx.wl_v rfl rfl (Sx.ov_move _ rfl) ?_
 refine Sx.wl_v rfl rfl (Sx.ov_nilCheck _ rfl) ?_
 refine Sx.wl_v rfl rfl (Sx.ov_fieldAddr _ ⟨g, 0, none⟩ _ rfl fo72_0 rfl) ?_
 obtain ⟨A1, c2, h⟩ := listS_open h
 refine Sx.wl_v rfl rfl (Sx.ov_loadb 0 _ h rfl rfl sh33 rfl) ?_
 refine Sx.wl_v rfl rfl (Sx.ov_len _ _ _ _ _ rfl es33) ?_
 refine Sx.wl_v rfl rfl (Sx.ov_move _ rfl) ?_
 refine Sx.wl_nil ?_
 refine Sx.qn_then ?_
 refine Sx.wc_block ?_
 have e_ : y = (⟨y.st ++ part x.st a.toNat (min b.toNat (posR (runsOf x.st) 0)), y.base⟩ : LS) := by simp [posR_zero, part]
 replace h := Sx.st_cast (congrArg (fun z_ => ([Sx.blk g [.slice (A1) ((runsOf (x).st).length) (c2), .int .i64 ((((x).st).length : Int)), .int .i64 ((x).base)] 72, Sx.row k66 66 (A1) (c2) (runsOf (x).st), listS o (z_)] ++ R)) e_) h
 clear e_
 replace h := Sx.st_front 2 h
 replace h := Sx.st_front 2 h
 replace h := Sx.st_front 2 h
 refine Sx.wc_loop (fun (x_ : Nat) => [(0, .pointer (some ⟨g, 0, none⟩)), (1, .pointer (some ⟨o, 0, none⟩)), (2, .int .i64 (a)), (3, .int .i64 (b)), (8, .int .i64 (((posR (runsOf x.st) x_) : Int))), (14, .slice (A1) ((runsOf (x).st).length) (c2)), (15, .int .i64 (((runsOf x.st).length : Int))), (16, .int .i64 ((x_ : Int)))]) (fun (x_ : Nat) (w : World) => x_ ≤ (runsOf x.st).length ∧ Sx.St w0 F0 ([Sx.blk g [.slice (A1) ((runsOf (x).st).length) (c2), .int .i64 ((((x).st).length : Int)), .int .i64 ((x).base)] 72, Sx.row k66 66 (A1) (c2) (runsOf (x).st), listS o ((⟨y.st ++ part x.st a.toNat (min b.toNat (posR (runsOf x.st) x_)), y.base⟩ : LS))] ++ R) w) (fun (x_ : Nat) => (runsOf x.st).length - x_) (0) ?_ ?_ ?_
 · exact ⟨rfl, rfl, rfl, rfl, (congrArg (fun z_ => some (Value.int .i64 z_)) (show (0 : Int) = ((posR (runsOf x.st) 0) : Int) by simp [posR_zero])), rfl, (congrArg (fun z_ => some (Value.int .i64 z_)) (show ((((runsOf (x).st).length : Nat) : Int) : Int) = ((runsOf x.st).length : Int) by omega)), (congrArg (fun z_ => some (Value.int .i64 z_)) (show (0 : Int) = (0 : Int) by omega)), trivial⟩
 · exact ⟨by first | omega | simp, h⟩
 intro k w h
 obtain ⟨hJ, h⟩ := h
 replace h : Sx.St w0 F0 ([Sx.blk g [.slice (A1) ((runsOf (x).st).length) (c2), .int .i64 ((((x).st).length : Int)), .int .i64 ((x).base)] 72, Sx.row k66 66 (A1) (c2) (runsOf (x).st), listS o ((⟨y.st ++ part x.st a.toNat (min b.toNat (posR (runsOf x.st) k)), y.base⟩ : LS))] ++ R) w := h
 refine Sx.wc_seq ?_
 refine Sx.wc_region ?_
 refine Sx.wl_v rfl rfl (Sx.ov_bin _ rfl rfl (Sx.binR_lss)) ?_
 refine Sx.wl_nil ?_
 refine Sx.qn_then ?_
 refine Sx.wc_seq ?_
 refine Sx.wc_cond (by rfl) (fun c3 => ?_) (fun c3 => ?_)
 ·
  have hk : k < (runsOf x.st).length := by omega
  obtain ⟨hf1, hf2⟩ := run_fits x.st k hk z66
  have hps := posR_succ (runsOf x.st) k hk z66
  refine Sx.wc_skip ?_
  refine Sx.qn_then ?_
  refine Sx.wc_seq ?_
  refine Sx.wc_block ?_
  refine Sx.wc_seq ?_
  refine Sx.wc_region ?_
  obtain ⟨ad4, rfl⟩ := Sx.C_some ((Sx.row_reads h (i := 1) rfl).2) (k := k) (by first | assumption | omega)
  refine Sx.wl_v rfl rfl (Sx.ov_indexAddrN _ _ _ _ _ k rfl rfl es33 rfl (by first | assumption | omega | (simp only [List.length_take, List.length_drop, List.length_set]; omega))) ?_
  obtain ⟨cl7, _, hk6, hc5⟩ := Sx.C_cells ((Sx.row_reads h (i := 1) rfl).2) (z := z66) (k := k) (by first | assumption | omega)
  obtain rfl := k66_open hk6
  refine Sx.wl_v rfl rfl (Sx.ov_loadN _ [.int .i64 (((runsOf (x).st).getD k z66).f0), .int .i64 (((runsOf (x).st).getD k z66).f1)] rfl sh66 (by intro j u hu; rw [Deep.add_add]; exact (hc5 _ _ hu))) ?_
  refine Sx.wl_alloc _ h rfl rfl zo66 (fun b8 _ h => ?_)
  replace h : Sx.St _ _ (Sx.blk b8 [.int .i64 (0), .int .i64 (0)] 66 :: _) _ := h
  refine Sx.wl_storebN 0 [.int .i64 (((runsOf (x).st).getD k z66).f0), .int .i64 (((runsOf (x).st).getD k z66).f1)] [.int .i64 (((runsOf (x).st).getD k z66).f0), .int .i64 (((runsOf (x).st).getD k z66).f1)] h rfl rfl rfl rfl (by simp [Value.oneCell']) sh66 rfl rfl (fun _ h => ?_)
  refine Sx.wl_nil ?_
  refine Sx.qn_then ?_
  refine Sx.wc_seq ?_
  refine Sx.wc_region ?_
  refine Sx.wl_v rfl rfl (Sx.ov_move _ rfl) ?_
  refine Sx.wl_v rfl rfl (Sx.ov_move _ rfl) ?_
  refine Sx.wl_v rfl rfl (Sx.ov_move _ rfl) ?_
  refine Sx.wl_v rfl rfl (Sx.ov_fieldAddr _ ⟨b8, 0, none⟩ _ rfl fo66_0 rfl) ?_
  refine Sx.wl_v rfl rfl (Sx.ov_loadb 0 _ h rfl rfl sh3 rfl) ?_
  refine Sx.wl_v rfl rfl (Sx.ov_bin _ rfl rfl (Sx.binR_add (r := (((posR (runsOf x.st) k) : Int)) + (((runsOf (x).st).getD k z66).f0)) (Sx.w64 (by omega)))) ?_
  refine Sx.wl_v rfl rfl (Sx.ov_min _ _ _ (min b ((((posR (runsOf x.st) k) : Int)) + (((runsOf (x).st).getD k z66).f0))) rfl rfl rfl) ?_
  refine Sx.wl_v rfl rfl (Sx.ov_move _ rfl) ?_
  refine Sx.wl_v rfl rfl (Sx.ov_move _ rfl) ?_
  refine Sx.wl_v rfl rfl (Sx.ov_max _ _ _ (max a (((posR (runsOf x.st) k) : Int))) rfl rfl rfl) ?_
  refine Sx.wl_v rfl rfl (Sx.ov_bin _ rfl rfl (Sx.binR_sub (r := (min b ((((posR (runsOf x.st) k) : Int)) + (((runsOf (x).st).getD k z66).f0))) - (max a (((posR (runsOf x.st) k) : Int)))) (Sx.w64 (by omega)))) ?_
  refine Sx.wl_v rfl rfl (Sx.ov_fieldAddr _ ⟨b8, 1, none⟩ _ rfl fo66_1 rfl) ?_
  refine Sx.wl_v rfl rfl (Sx.ov_loadb 0 _ h rfl rfl sh3 rfl) ?_
  replace h := Sx.st_front 3 h
  refine Sx.wl_call _ rfl rfl rfl ent40 (put_S o ((⟨y.st ++ part x.st a.toNat (min b.toNat (posR (runsOf x.st) k)), y.base⟩ : LS)) ((min b ((((posR (runsOf x.st) k) : Int)) + (((runsOf (x).st).getD k z66).f0))) - (max a (((posR (runsOf x.st) k) : Int)))) (((runsOf (x).st).getD k z66).f1) (by simp only [List.length_append, part, List.length_take, List.length_drop]; omega) (by refine Nat.le_trans (runs_len _) ?_; simp only [List.length_append, part, List.length_take, List.length_drop]; omega) h) ?_
  rintro e_ w_ ⟨rfl, h⟩
  refine ⟨_, rfl, ?_⟩
  refine Sx.wl_nil ?_
  refine Sx.qn_then ?_
  refine Sx.wc_seq ?_
  refine Sx.wc_region ?_
  refine Sx.wl_v rfl rfl (Sx.ov_move _ rfl) ?_
  refine Sx.wl_v rfl rfl (Sx.ov_fieldAddr _ ⟨b8, 0, none⟩ _ rfl fo66_0 rfl) ?_
  refine Sx.wl_v rfl rfl (Sx.ov_loadb 1 _ h rfl rfl sh3 rfl) ?_
  refine Sx.wl_v rfl rfl (Sx.ov_bin _ rfl rfl (Sx.binR_add (r := (((posR (runsOf x.st) k) : Int)) + (((runsOf (x).st).getD k z66).f0)) (Sx.w64 (by omega)))) ?_
  refine Sx.wl_v rfl rfl (Sx.ov_assign _ rfl) ?_
  refine Sx.wl_nil ?_
  refine Sx.qn_then ?_
  refine Sx.wc_seq ?_
  refine Sx.wc_region ?_
  refine Sx.wl_v rfl rfl (Sx.ov_move _ rfl) ?_
  refine Sx.wl_v rfl rfl (Sx.ov_move _ rfl) ?_
  refine Sx.wl_v rfl rfl (Sx.ov_bin _ rfl rfl (Sx.binR_geq)) ?_
  refine Sx.wl_nil ?_
  refine Sx.qn_then ?_
  refine Sx.wc_cond (by rfl) (fun c9 => ?_) (fun c9 => ?_)
  ·
   refine Sx.wc_ret ?_
   refine Sx.qn_block_ret ?_
   refine Sx.qn_then_ret ?_
   refine Sx.qn_then_ret ?_
   refine Sx.qn_block_ret ?_
   have e_ : (⟨((⟨y.st ++ part x.st a.toNat (min b.toNat (posR (runsOf x.st) k)), y.base⟩ : LS)).st ++ List.replicate (((min b ((((posR (runsOf x.st) k) : Int)) + (((runsOf (x).st).getD k z66).f0))) - (max a (((posR (runsOf x.st) k) : Int)))) : Int).toNat (((runsOf (x).st).getD k z66).f1), ((⟨y.st ++ part x.st a.toNat (min b.toNat (posR (runsOf x.st) k)), y.base⟩ : LS)).base⟩ : LS) = (⟨y.st ++ part x.st a.toNat (min b.toNat (posR (runsOf x.st) (k + 1))), y.base⟩ : LS) := by exact copy_step x.st y.st y.base a b k z66 hk ha
   replace h := Sx.st_cast (congrArg (fun z_ => ([listS o (z_), Sx.blk b8 [.int .i64 (((runsOf (x).st).getD k z66).f0), .int .i64 (((runsOf (x).st).getD k z66).f1)] 66, Sx.blk g [.slice (some ad4) ((runsOf (x).st).length) (c2), .int .i64 ((((x).st).length : Int)), .int .i64 ((x).base)] 72, Sx.row k66 66 (some ad4) (c2) (runsOf (x).st)] ++ R)) e_) h
   clear e_
   have e_ : (⟨y.st ++ part x.st a.toNat (min b.toNat (posR (runsOf x.st) (k + 1))), y.base⟩ : LS) = (⟨y.st ++ part x.st a.toNat b.toNat, y.base⟩ : LS) := by rw [show min b.toNat (posR (runsOf x.st) (k + 1)) = b.toNat by rw [hps]; omega]
   replace h := Sx.st_cast (congrArg (fun z_ => ([listS o (z_), Sx.blk b8 [.int .i64 (((runsOf (x).st).getD k z66).f0), .int .i64 (((runsOf (x).st).getD k z66).f1)] 66, Sx.blk g [.slice (some ad4) ((runsOf (x).st).length) (c2), .int .i64 ((((x).st).length : Int)), .int .i64 ((x).base)] 72, Sx.row k66 66 (some ad4) (c2) (runsOf (x).st)] ++ R)) e_) h
   clear e_
   replace h := Sx.st_front 3 h
   replace h := Sx.st_front 3 h
   replace h := listS_close (σ := (x).st) (by first | rfl | simp) (by first | rfl | simp) h
   replace h := Sx.st_front 1 h
   replace h := Sx.st_front 1 h
   replace h := Sx.st_selT [true, true, false] h
   refine Sx.qn_ret [] trivial ?_
   exact ⟨rfl, h⟩
  ·
   refine Sx.wc_skip ?_
   refine Sx.qn_block_normal ?_
   refine Sx.qn_then ?_
   refine Sx.wc_region ?_
   refine Sx.wl_v rfl rfl (Sx.ov_bin _ rfl rfl (Sx.binR_add (r := ((k : Int)) + 1) (Sx.w64 (by omega)))) ?_
   refine Sx.wl_v rfl rfl (Sx.ov_move _ rfl) ?_
   refine Sx.wl_nil ?_
   have e_ : (⟨((⟨y.st ++ part x.st a.toNat (min b.toNat (posR (runsOf x.st) k)), y.base⟩ : LS)).st ++ List.replicate (((min b ((((posR (runsOf x.st) k) : Int)) + (((runsOf (x).st).getD k z66).f0))) - (max a (((posR (runsOf x.st) k) : Int)))) : Int).toNat (((runsOf (x).st).getD k z66).f1), ((⟨y.st ++ part x.st a.toNat (min b.toNat (posR (runsOf x.st) k)), y.base⟩ : LS)).base⟩ : LS) = (⟨y.st ++ part x.st a.toNat (min b.toNat (posR (runsOf x.st) (k + 1))), y.base⟩ : LS) := by exact copy_step x.st y.st y.base a b k z66 hk ha
   replace h := Sx.st_cast (congrArg (fun z_ => ([listS o (z_), Sx.blk b8 [.int .i64 (((runsOf (x).st).getD k z66).f0), .int .i64 (((runsOf (x).st).getD k z66).f1)] 66, Sx.blk g [.slice (some ad4) ((runsOf (x).st).length) (c2), .int .i64 ((((x).st).length : Int)), .int .i64 ((x).base)] 72, Sx.row k66 66 (some ad4) (c2) (runsOf (x).st)] ++ R)) e_) h
   clear e_
   replace h := Sx.st_front 3 h
   replace h := Sx.st_front 3 h
   replace h := Sx.st_selT [true, true, true, false] h
   refine Sx.qn_next ((k + 1)) (by show (runsOf x.st).length - (k + 1) < (runsOf x.st).length - k; omega) ⟨rfl, rfl, rfl, rfl, (congrArg (fun z_ => some (Value.int .i64 z_)) (show ((((posR (runsOf x.st) k) : Int)) + (((runsOf (x).st).getD k z66).f0) : Int) = ((posR (runsOf x.st) (k + 1)) : Int) by rw [hps]; omega)), rfl, rfl, (congrArg (fun z_ => some (Value.int .i64 z_)) (show (((k : Int)) + 1 : Int) = ((k + 1) : Int) by omega)), trivial⟩ ?_
   exact ⟨by omega, h⟩
 ·
  refine Sx.wc_exit ?_
  refine Sx.qn_then_exit ?_
  refine Sx.qn_then_exit ?_
  refine Sx.qn_block_exit ?_
  have e_ : (⟨y.st ++ part x.st a.toNat (min b.toNat (posR (runsOf x.st) k)), y.base⟩ : LS) = (⟨y.st ++ part x.st a.toNat b.toNat, y.base⟩ : LS) := by (obtain rfl : k = (runsOf x.st).length := (by omega)); rw [posR_all, part_all]
  replace h := Sx.st_cast (congrArg (fun z_ => ([Sx.blk g [.slice (A1) ((runsOf (x).st).length) (c2), .int .i64 ((((x).st).length : Int)), .int .i64 ((x).base)] 72, Sx.row k66 66 (A1) (c2) (runsOf (x).st), listS o (z_)] ++ R)) e_) h
  clear e_
  replace h := Sx.st_front 1 h
  replace h := Sx.st_front 1 h
  replace h := listS_close (σ := (x).st) (by first | rfl | simp) (by first | rfl | simp) h
  replace h := Sx.st_front 1 h
  replace h := Sx.st_front 1 h
  refine Sx.qn_end [] trivial ?_
  exact ⟨rfl, h⟩
set_option maxRecDepth 100000 in
theorem style_calls {w0 w : World} {F0 : Nat → Prop} {R : List Sx.HP} (n : Int)  (h : Sx.St w0 F0 ([] ++ R) w) : Calls Try.prog 39 #[.int .i64 (n)] w (fun e w1 => e = .returned (.bool (decide (styleP n))) ∧ Sx.St w0 F0 R w1) := by
 refine Sx.calls_fn (vs := [.int .i64 (n)]) Try.func39 rfl Try.ntmps39 rfl ?_
 refine Sx.wc_seq ?_
 refine Sx.wc_region ?_
 refine Sx.wl_v rfl rfl (Sx.ov_assign _ rfl) ?_
 refine Sx.wl_nil ?_
 refine Sx.qn_then ?_
 refine Sx.wc_seq ?_
 refine Sx.wc_region ?_
 refine Sx.wl_v rfl rfl (Sx.ov_move _ rfl) ?_
 refine Sx.wl_v rfl rfl (Sx.ov_bin _ rfl rfl (Sx.binR_geq)) ?_
 refine Sx.wl_v rfl rfl (Sx.ov_move _ rfl) ?_
 refine Sx.wl_split 5 rfl (fun c1 => ?_) (fun c1 => ?_)
 ·
  refine Sx.wl_v rfl rfl (Sx.ov_move _ rfl) ?_
  refine Sx.wl_v rfl rfl (Sx.ov_bin _ rfl rfl (Sx.binR_lss)) ?_
  refine Sx.wl_v rfl rfl (Sx.ov_pick_true _ rfl rfl) ?_
  refine Sx.wl_v rfl rfl (Sx.ov_assign _ rfl) ?_
  refine Sx.wl_nil ?_
  refine Sx.qn_then ?_
  refine Sx.wc_ret ?_
  refine Sx.qn_ret [_] ⟨rfl, trivial⟩ ?_
  exact ⟨congrArg (fun b => Ending.returned (Value.bool b)) (decide_eq_decide.2 (by omega)), h⟩
 ·
  refine Sx.wl_skip rfl rfl ?_
  refine Sx.wl_skip rfl rfl ?_
  refine Sx.wl_v rfl rfl (Sx.ov_pick_false _ rfl rfl) ?_
  refine Sx.wl_v rfl rfl (Sx.ov_assign _ rfl) ?_
  refine Sx.wl_nil ?_
  refine Sx.qn_then ?_
  refine Sx.wc_ret ?_
  refine Sx.qn_ret [_] ⟨rfl, trivial⟩ ?_
  exact ⟨congrArg (fun b => Ending.returned (Value.bool b)) ((decide_eq_false (show ¬ (styleP n) by omega)).symm), h⟩
set_option maxRecDepth 100000 in
theorem Len_calls {w0 w : World} {F0 : Nat → Prop} {R : List Sx.HP} (g : Nat) (x : LS)  (h : Sx.St w0 F0 ([listS g (x)] ++ R) w) : Calls Try.prog 14 #[.pointer (some ⟨g, 0, none⟩)] w (fun e w1 => e = .returned (.int .i64 (x.st.length : Int)) ∧ Sx.St w0 F0 (listS g x :: R) w1) := by
 refine Sx.calls_fn (vs := [.pointer (some ⟨g, 0, none⟩)]) Try.func14 rfl Try.ntmps14 rfl ?_
 refine Sx.wc_seq ?_
 refine Sx.wc_region ?_
 refine Sx.wl_v rfl rfl (Sx.ov_assign _ rfl) ?_
 refine Sx.wl_nil ?_
 refine Sx.qn_then ?_
 refine Sx.wc_seq ?_
 refine Sx.wc_region ?_
 refine Sx.wl_v rfl rfl (Sx.ov_move _ rfl) ?_
 refine Sx.wl_v rfl rfl (Sx.ov_nilCheck _ rfl) ?_
 refine Sx.wl_v rfl rfl (Sx.ov_fieldAddr _ ⟨g, 1, none⟩ _ rfl fo72_1 rfl) ?_
 obtain ⟨A1, c2, h⟩ := listS_open h
 refine Sx.wl_v rfl rfl (Sx.ov_loadb 0 _ h rfl rfl sh3 rfl) ?_
 refine Sx.wl_v rfl rfl (Sx.ov_assign _ rfl) ?_
 refine Sx.wl_nil ?_
 refine Sx.qn_then ?_
 refine Sx.wc_ret ?_
 replace h := Sx.st_front 1 h
 replace h := Sx.st_front 1 h
 replace h := listS_close (σ := (x).st) (by first | rfl | simp) (by first | rfl | simp) h
 refine Sx.qn_ret [_] ⟨rfl, trivial⟩ ?_
 exact ⟨rfl, h⟩
set_option maxRecDepth 100000 in
theorem Count_calls {w0 w : World} {F0 : Nat → Prop} {R : List Sx.HP} (g : Nat) (x : LS)  (h : Sx.St w0 F0 ([listS g (x)] ++ R) w) : Calls Try.prog 18 #[.pointer (some ⟨g, 0, none⟩)] w (fun e w1 => e = .returned (.int .i64 ((runsOf x.st).length : Int)) ∧ Sx.St w0 F0 (listS g x :: R) w1) := by
 refine Sx.calls_fn (vs := [.pointer (some ⟨g, 0, none⟩)]) Try.func18 rfl Try.ntmps18 rfl ?_
 refine Sx.wc_seq ?_
 refine Sx.wc_region ?_
 refine Sx.wl_v rfl rfl (Sx.ov_assign _ rfl) ?_
 refine Sx.wl_nil ?_
 refine Sx.qn_then ?_
 refine Sx.wc_seq ?_
 refine Sx.wc_region ?_
 refine Sx.wl_v rfl rfl (Sx.ov_move _ rfl) ?_
 refine Sx.wl_v rfl rfl (Sx.ov_nilCheck _ rfl) ?_
 refine Sx.wl_v rfl rfl (Sx.ov_fieldAddr _ ⟨g, 0, none⟩ _ rfl fo72_0 rfl) ?_
 obtain ⟨A1, c2, h⟩ := listS_open h
 refine Sx.wl_v rfl rfl (Sx.ov_loadb 0 _ h rfl rfl sh33 rfl) ?_
 refine Sx.wl_v rfl rfl (Sx.ov_len _ _ _ _ _ rfl es33) ?_
 refine Sx.wl_v rfl rfl (Sx.ov_assign _ rfl) ?_
 refine Sx.wl_nil ?_
 refine Sx.qn_then ?_
 refine Sx.wc_ret ?_
 replace h := Sx.st_front 1 h
 replace h := Sx.st_front 1 h
 replace h := listS_close (σ := (x).st) (by first | rfl | simp) (by first | rfl | simp) h
 refine Sx.qn_ret [_] ⟨rfl, trivial⟩ ?_
 exact ⟨rfl, h⟩
set_option maxRecDepth 100000 in
theorem span_calls {w0 w : World} {F0 : Nat → Prop} {R : List Sx.HP} (g : Nat) (x : LS) (a b : Int)  (h : Sx.St w0 F0 ([listS g (x)] ++ R) w) : Calls Try.prog 37 #[.pointer (some ⟨g, 0, none⟩), .int .i64 (a), .int .i64 (b)] w (fun e w1 => e = .returned (.int .i64 (spanV x a b)) ∧ Sx.St w0 F0 (listS g x :: R) w1) := by
 refine Sx.calls_fn (vs := [.pointer (some ⟨g, 0, none⟩), .int .i64 (a), .int .i64 (b)]) Try.func37 rfl Try.ntmps37 rfl ?_
 refine Sx.wc_seq ?_
 refine Sx.wc_region ?_
 refine Sx.wl_v rfl rfl (Sx.ov_assign _ rfl) ?_
 refine Sx.wl_nil ?_
 refine Sx.qn_then ?_
 refine Sx.wc_seq ?_
 refine Sx.wc_seq ?_
 refine Sx.wc_region ?_
 refine Sx.wl_v rfl rfl (Sx.ov_move _ rfl) ?_
 refine Sx.wl_v rfl rfl (Sx.ov_bin _ rfl rfl (Sx.binR_lss)) ?_
 refine Sx.wl_v rfl rfl (Sx.ov_move _ rfl) ?_
 refine Sx.wl_split 9 rfl (fun c1 => ?_) (fun c1 => ?_)
 ·
  refine Sx.wl_skip rfl rfl ?_
  refine Sx.wl_skip rfl rfl ?_
  refine Sx.wl_skip rfl rfl ?_
  refine Sx.wl_skip rfl rfl ?_
  refine Sx.wl_skip rfl rfl ?_
  refine Sx.wl_skip rfl rfl ?_
  refine Sx.wl_v rfl rfl (Sx.ov_pick_true _ rfl rfl) ?_
  refine Sx.wl_v rfl rfl (Sx.ov_move _ rfl) ?_
  refine Sx.wl_skip rfl rfl ?_
  refine Sx.wl_skip rfl rfl ?_
  refine Sx.wl_skip rfl rfl ?_
  refine Sx.wl_v rfl rfl (Sx.ov_pick_true _ rfl rfl) ?_
  refine Sx.wl_nil ?_
  refine Sx.qn_then ?_
  refine Sx.wc_cond_true rfl ?_
  refine Sx.wc_seq ?_
  refine Sx.wc_region ?_
  refine Sx.wl_v rfl rfl (Sx.ov_assign _ rfl) ?_
  refine Sx.wl_nil ?_
  refine Sx.qn_then ?_
  refine Sx.wc_ret ?_
  refine Sx.qn_then_ret ?_
  refine Sx.qn_ret [_] ⟨rfl, trivial⟩ ?_
  exact ⟨congrArg (fun z => Ending.returned (Value.int .i64 z)) (by unfold spanV; first | rw [if_pos (by omega)] | rw [if_neg (by omega)]), h⟩
 ·
  refine Sx.wl_v rfl rfl (Sx.ov_move _ rfl) ?_
  refine Sx.wl_v rfl rfl (Sx.ov_move _ rfl) ?_
  refine Sx.wl_v rfl rfl (Sx.ov_nilCheck _ rfl) ?_
  refine Sx.wl_v rfl rfl (Sx.ov_fieldAddr _ ⟨g, 1, none⟩ _ rfl fo72_1 rfl) ?_
  obtain ⟨A2, c3, h⟩ := listS_open h
  refine Sx.wl_v rfl rfl (Sx.ov_loadb 0 _ h rfl rfl sh3 rfl) ?_
  refine Sx.wl_v rfl rfl (Sx.ov_bin _ rfl rfl (Sx.binR_gtr)) ?_
  refine Sx.wl_v rfl rfl (Sx.ov_pick_false _ rfl rfl) ?_
  refine Sx.wl_v rfl rfl (Sx.ov_move _ rfl) ?_
  refine Sx.wl_split 17 rfl (fun c4 => ?_) (fun c4 => ?_)
  ·
   refine Sx.wl_skip rfl rfl ?_
   refine Sx.wl_skip rfl rfl ?_
   refine Sx.wl_skip rfl rfl ?_
   refine Sx.wl_v rfl rfl (Sx.ov_pick_true _ rfl rfl) ?_
   refine Sx.wl_nil ?_
   refine Sx.qn_then ?_
   refine Sx.wc_cond_true rfl ?_
   refine Sx.wc_seq ?_
   refine Sx.wc_region ?_
   refine Sx.wl_v rfl rfl (Sx.ov_assign _ rfl) ?_
   refine Sx.wl_nil ?_
   refine Sx.qn_then ?_
   refine Sx.wc_ret ?_
   refine Sx.qn_then_ret ?_
   replace h := Sx.st_front 1 h
   replace h := Sx.st_front 1 h
   replace h := listS_close (σ := (x).st) (by first | rfl | simp) (by first | rfl | simp) h
   refine Sx.qn_ret [_] ⟨rfl, trivial⟩ ?_
   exact ⟨congrArg (fun z => Ending.returned (Value.int .i64 z)) (by unfold spanV; first | rw [if_pos (by omega)] | rw [if_neg (by omega)]), h⟩
  ·
   refine Sx.wl_v rfl rfl (Sx.ov_move _ rfl) ?_
   refine Sx.wl_v rfl rfl (Sx.ov_move _ rfl) ?_
   refine Sx.wl_v rfl rfl (Sx.ov_bin _ rfl rfl (Sx.binR_gtr)) ?_
   refine Sx.wl_v rfl rfl (Sx.ov_pick_false _ rfl rfl) ?_
   refine Sx.wl_nil ?_
   refine Sx.qn_then ?_
   refine Sx.wc_cond (by rfl) (fun c5 => ?_) (fun c5 => ?_)
   ·
    refine Sx.wc_seq ?_
    refine Sx.wc_region ?_
    refine Sx.wl_v rfl rfl (Sx.ov_assign _ rfl) ?_
    refine Sx.wl_nil ?_
    refine Sx.qn_then ?_
    refine Sx.wc_ret ?_
    refine Sx.qn_then_ret ?_
    replace h := Sx.st_front 1 h
    replace h := Sx.st_front 1 h
    replace h := listS_close (σ := (x).st) (by first | rfl | simp) (by first | rfl | simp) h
    refine Sx.qn_ret [_] ⟨rfl, trivial⟩ ?_
    exact ⟨congrArg (fun z => Ending.returned (Value.int .i64 z)) (by unfold spanV; first | rw [if_pos (by omega)] | rw [if_neg (by omega)]), h⟩
   ·
    refine Sx.wc_skip ?_
    refine Sx.qn_then ?_
    refine Sx.wc_seq ?_
    refine Sx.wc_region ?_
    refine Sx.wl_v rfl rfl (Sx.ov_assign _ rfl) ?_
    refine Sx.wl_nil ?_
    refine Sx.qn_then ?_
    refine Sx.wc_ret ?_
    replace h := Sx.st_front 1 h
    replace h := Sx.st_front 1 h
    replace h := listS_close (σ := (x).st) (by first | rfl | simp) (by first | rfl | simp) h
    refine Sx.qn_ret [_] ⟨rfl, trivial⟩ ?_
    exact ⟨congrArg (fun z => Ending.returned (Value.int .i64 z)) (by unfold spanV; first | rw [if_pos (by omega)] | rw [if_neg (by omega)]), h⟩
set_option maxRecDepth 100000 in
theorem At_calls {w0 w : World} {F0 : Nat → Prop} {R : List Sx.HP} (g : Nat) (x : LS) (i : Int) (hx : x.st.length ≤ 1099511627776) (h : Sx.St w0 F0 ([listS g (x)] ++ R) w) : Calls Try.prog 25 #[.pointer (some ⟨g, 0, none⟩), .int .i64 (i)] w (fun e w1 => e = .returned (.tuple #[.int .i64 (atV x i).1, .bool (atV x i).2]) ∧ Sx.St w0 F0 (listS g x :: R) w1) := by
 have hlen := runs_len x.st
 refine Sx.calls_fn (vs := [.pointer (some ⟨g, 0, none⟩), .int .i64 (i)]) Try.func25 rfl Try.ntmps25 rfl ?_
 refine Sx.wc_seq ?_
 refine Sx.wc_region ?_
 refine Sx.wl_v rfl rfl (Sx.ov_assign _ rfl) ?_
 refine Sx.wl_v rfl rfl (Sx.ov_assign _ rfl) ?_
 refine Sx.wl_nil ?_
 refine Sx.qn_then ?_
 refine Sx.wc_seq ?_
 refine Sx.wc_seq ?_
 refine Sx.wc_region ?_
 refine Sx.wl_v rfl rfl (Sx.ov_move _ rfl) ?_
 refine Sx.wl_v rfl rfl (Sx.ov_bin _ rfl rfl (Sx.binR_lss)) ?_
 refine Sx.wl_v rfl rfl (Sx.ov_move _ rfl) ?_
 refine Sx.wl_split 10 rfl (fun c1 => ?_) (fun c1 => ?_)
 ·
  refine Sx.wl_skip rfl rfl ?_
  refine Sx.wl_skip rfl rfl ?_
  refine Sx.wl_skip rfl rfl ?_
  refine Sx.wl_skip rfl rfl ?_
  refine Sx.wl_skip rfl rfl ?_
  refine Sx.wl_skip rfl rfl ?_
  refine Sx.wl_v rfl rfl (Sx.ov_pick_true _ rfl rfl) ?_
  refine Sx.wl_nil ?_
  refine Sx.qn_then ?_
  refine Sx.wc_cond_true rfl ?_
  refine Sx.wc_seq ?_
  refine Sx.wc_region ?_
  refine Sx.wl_v rfl rfl (Sx.ov_assign _ rfl) ?_
  refine Sx.wl_v rfl rfl (Sx.ov_assign _ rfl) ?_
  refine Sx.wl_nil ?_
  refine Sx.qn_then ?_
  refine Sx.wc_ret ?_
  refine Sx.qn_then_ret ?_
  refine Sx.qn_ret [_, _] ⟨rfl, rfl, trivial⟩ ?_
  exact ⟨by unfold atV; rw [if_neg (by omega)]; rfl, h⟩
 ·
  refine Sx.wl_v rfl rfl (Sx.ov_move _ rfl) ?_
  refine Sx.wl_v rfl rfl (Sx.ov_move _ rfl) ?_
  refine Sx.wl_v rfl rfl (Sx.ov_nilCheck _ rfl) ?_
  refine Sx.wl_v rfl rfl (Sx.ov_fieldAddr _ ⟨g, 1, none⟩ _ rfl fo72_1 rfl) ?_
  obtain ⟨A2, c3, h⟩ := listS_open h
  refine Sx.wl_v rfl rfl (Sx.ov_loadb 0 _ h rfl rfl sh3 rfl) ?_
  refine Sx.wl_v rfl rfl (Sx.ov_bin _ rfl rfl (Sx.binR_geq)) ?_
  refine Sx.wl_v rfl rfl (Sx.ov_pick_false _ rfl rfl) ?_
  refine Sx.wl_nil ?_
  refine Sx.qn_then ?_
  refine Sx.wc_cond (by rfl) (fun c4 => ?_) (fun c4 => ?_)
  ·
   refine Sx.wc_seq ?_
   refine Sx.wc_region ?_
   refine Sx.wl_v rfl rfl (Sx.ov_assign _ rfl) ?_
   refine Sx.wl_v rfl rfl (Sx.ov_assign _ rfl) ?_
   refine Sx.wl_nil ?_
   refine Sx.qn_then ?_
   refine Sx.wc_ret ?_
   refine Sx.qn_then_ret ?_
   replace h := Sx.st_front 1 h
   replace h := Sx.st_front 1 h
   replace h := listS_close (σ := (x).st) (by first | rfl | simp) (by first | rfl | simp) h
   refine Sx.qn_ret [_, _] ⟨rfl, rfl, trivial⟩ ?_
   exact ⟨by unfold atV; rw [if_neg (by omega)]; rfl, h⟩
  ·
   refine Sx.wc_skip ?_
   refine Sx.qn_then ?_
   refine Sx.wc_seq ?_
   refine Sx.wc_seq ?_
   refine Sx.wc_region ?_
   refine Sx.wl_v rfl rfl (Sx.ov_move _ rfl) ?_
   refine Sx.wl_v rfl rfl (Sx.ov_nilCheck _ rfl) ?_
   refine Sx.wl_v rfl rfl (Sx.ov_fieldAddr _ ⟨g, 0, none⟩ _ rfl fo72_0 rfl) ?_
   refine Sx.wl_v rfl rfl (Sx.ov_loadb 0 _ h rfl rfl sh33 rfl) ?_
   refine Sx.wl_v rfl rfl (Sx.ov_len _ _ _ _ _ rfl es33) ?_
   refine Sx.wl_v rfl rfl (Sx.ov_move _ rfl) ?_
   refine Sx.wl_nil ?_
   refine Sx.qn_then ?_
   refine Sx.wc_block ?_
   replace h := Sx.st_front 1 h
   replace h := Sx.st_front 1 h
   refine Sx.wc_loop (fun (x_ : Nat) => [(0, .pointer (some ⟨g, 0, none⟩)), (1, .int .i64 (i - (posR (runsOf x.st) x_ : Int))), (21, .slice (A2) ((runsOf (x).st).length) (c3)), (22, .int .i64 (((runsOf x.st).length : Int))), (23, .int .i64 ((x_ : Int)))]) (fun (x_ : Nat) (w : World) => (x_ ≤ (runsOf x.st).length ∧ (posR (runsOf x.st) x_ : Int) ≤ i) ∧ Sx.St w0 F0 ([Sx.blk g [.slice (A2) ((runsOf (x).st).length) (c3), .int .i64 ((((x).st).length : Int)), .int .i64 ((x).base)] 72, Sx.row k66 66 (A2) (c3) (runsOf (x).st)] ++ R) w) (fun (x_ : Nat) => (runsOf x.st).length - x_) (0) ?_ ?_ ?_
   · exact ⟨rfl, (congrArg (fun z_ => some (Value.int .i64 z_)) (show (i : Int) = i - (posR (runsOf x.st) 0 : Int) by rw [posR_zero]; omega)), rfl, (congrArg (fun z_ => some (Value.int .i64 z_)) (show ((((runsOf (x).st).length : Nat) : Int) : Int) = ((runsOf x.st).length : Int) by omega)), (congrArg (fun z_ => some (Value.int .i64 z_)) (show (0 : Int) = (0 : Int) by omega)), trivial⟩
   · exact ⟨⟨Nat.zero_le _, by rw [posR_zero]; omega⟩, h⟩
   intro k w h
   obtain ⟨hJ, h⟩ := h
   replace h : Sx.St w0 F0 ([Sx.blk g [.slice (A2) ((runsOf (x).st).length) (c3), .int .i64 ((((x).st).length : Int)), .int .i64 ((x).base)] 72, Sx.row k66 66 (A2) (c3) (runsOf (x).st)] ++ R) w := h
   refine Sx.wc_seq ?_
   refine Sx.wc_region ?_
   refine Sx.wl_v rfl rfl (Sx.ov_bin _ rfl rfl (Sx.binR_lss)) ?_
   refine Sx.wl_nil ?_
   refine Sx.qn_then ?_
   refine Sx.wc_seq ?_
   refine Sx.wc_cond (by rfl) (fun c5 => ?_) (fun c5 => ?_)
   ·
    have hk : k < (runsOf x.st).length := by omega
    obtain ⟨hf1, hf2⟩ := run_fits x.st k hk z66
    have hps := posR_succ (runsOf x.st) k hk z66
    refine Sx.wc_skip ?_
    refine Sx.qn_then ?_
    refine Sx.wc_seq ?_
    refine Sx.wc_block ?_
    refine Sx.wc_seq ?_
    refine Sx.wc_region ?_
    obtain ⟨ad6, rfl⟩ := Sx.C_some ((Sx.row_reads h (i := 1) rfl).2) (k := k) (by first | assumption | omega)
    refine Sx.wl_v rfl rfl (Sx.ov_indexAddrN _ _ _ _ _ k rfl rfl es33 rfl (by first | assumption | omega | (simp only [List.length_take, List.length_drop, List.length_set]; omega))) ?_
    obtain ⟨cl9, _, hk8, hc7⟩ := Sx.C_cells ((Sx.row_reads h (i := 1) rfl).2) (z := z66) (k := k) (by first | assumption | omega)
    obtain rfl := k66_open hk8
    refine Sx.wl_v rfl rfl (Sx.ov_loadN _ [.int .i64 (((runsOf (x).st).getD k z66).f0), .int .i64 (((runsOf (x).st).getD k z66).f1)] rfl sh66 (by intro j u hu; rw [Deep.add_add]; exact (hc7 _ _ hu))) ?_
    refine Sx.wl_alloc _ h rfl rfl zo66 (fun b10 _ h => ?_)
    replace h : Sx.St _ _ (Sx.blk b10 [.int .i64 (0), .int .i64 (0)] 66 :: _) _ := h
    refine Sx.wl_storebN 0 [.int .i64 (((runsOf (x).st).getD k z66).f0), .int .i64 (((runsOf (x).st).getD k z66).f1)] [.int .i64 (((runsOf (x).st).getD k z66).f0), .int .i64 (((runsOf (x).st).getD k z66).f1)] h rfl rfl rfl rfl (by simp [Value.oneCell']) sh66 rfl rfl (fun _ h => ?_)
    refine Sx.wl_nil ?_
    refine Sx.qn_then ?_
    refine Sx.wc_seq ?_
    refine Sx.wc_seq ?_
    refine Sx.wc_region ?_
    refine Sx.wl_v rfl rfl (Sx.ov_move _ rfl) ?_
    refine Sx.wl_v rfl rfl (Sx.ov_fieldAddr _ ⟨b10, 0, none⟩ _ rfl fo66_0 rfl) ?_
    refine Sx.wl_v rfl rfl (Sx.ov_loadb 0 _ h rfl rfl sh3 rfl) ?_
    refine Sx.wl_v rfl rfl (Sx.ov_bin _ rfl rfl (Sx.binR_lss)) ?_
    refine Sx.wl_nil ?_
    refine Sx.qn_then ?_
    refine Sx.wc_cond (by rfl) (fun c11 => ?_) (fun c11 => ?_)
    ·
     refine Sx.wc_seq ?_
     refine Sx.wc_region ?_
     refine Sx.wl_v rfl rfl (Sx.ov_fieldAddr _ ⟨b10, 1, none⟩ _ rfl fo66_1 rfl) ?_
     refine Sx.wl_v rfl rfl (Sx.ov_loadb 0 _ h rfl rfl sh3 rfl) ?_
     refine Sx.wl_v rfl rfl (Sx.ov_assign _ rfl) ?_
     refine Sx.wl_v rfl rfl (Sx.ov_assign _ rfl) ?_
     refine Sx.wl_nil ?_
     refine Sx.qn_then ?_
     refine Sx.wc_ret ?_
     refine Sx.qn_then_ret ?_
     refine Sx.qn_block_ret ?_
     refine Sx.qn_then_ret ?_
     refine Sx.qn_then_ret ?_
     refine Sx.qn_block_ret ?_
     refine Sx.qn_then_ret ?_
     replace h := Sx.st_front 2 h
     replace h := Sx.st_front 2 h
     replace h := listS_close (σ := (x).st) (by first | rfl | simp) (by first | rfl | simp) h
     replace h := Sx.st_selT [true, false] h
     refine Sx.qn_ret [_, _] ⟨rfl, rfl, trivial⟩ ?_
     exact ⟨by unfold atV; rw [if_pos (by omega), run_style x.st k hk z66 i.toNat (by omega) (by omega)]; rfl, h⟩
    ·
     refine Sx.wc_skip ?_
     refine Sx.qn_then ?_
     refine Sx.wc_region ?_
     refine Sx.wl_v rfl rfl (Sx.ov_move _ rfl) ?_
     refine Sx.wl_v rfl rfl (Sx.ov_fieldAddr _ ⟨b10, 0, none⟩ _ rfl fo66_0 rfl) ?_
     refine Sx.wl_v rfl rfl (Sx.ov_loadb 0 _ h rfl rfl sh3 rfl) ?_
     refine Sx.wl_v rfl rfl (Sx.ov_bin _ rfl rfl (Sx.binR_sub (r := (i - (posR (runsOf x.st) k : Int)) - (((runsOf (x).st).getD k z66).f0)) (Sx.w64 (by omega)))) ?_
     refine Sx.wl_v rfl rfl (Sx.ov_assign _ rfl) ?_
     refine Sx.wl_nil ?_
     refine Sx.qn_block_normal ?_
     refine Sx.qn_then ?_
     refine Sx.wc_region ?_
     refine Sx.wl_v rfl rfl (Sx.ov_bin _ rfl rfl (Sx.binR_add (r := ((k : Int)) + 1) (Sx.w64 (by omega)))) ?_
     refine Sx.wl_v rfl rfl (Sx.ov_move _ rfl) ?_
     refine Sx.wl_nil ?_
     replace h := Sx.st_front 2 h
     replace h := Sx.st_front 2 h
     replace h := Sx.st_selT [true, true, false] h
     refine Sx.qn_next ((k + 1)) (by show (runsOf x.st).length - (k + 1) < (runsOf x.st).length - k; omega) ⟨rfl, (congrArg (fun z_ => some (Value.int .i64 z_)) (show ((i - (posR (runsOf x.st) k : Int)) - (((runsOf (x).st).getD k z66).f0) : Int) = i - (posR (runsOf x.st) (k + 1) : Int) by rw [hps]; omega)), rfl, rfl, (congrArg (fun z_ => some (Value.int .i64 z_)) (show (((k : Int)) + 1 : Int) = ((k + 1) : Int) by omega)), trivial⟩ ?_
     exact ⟨⟨by omega, by omega⟩, h⟩
   ·
    exfalso
    obtain rfl : k = (runsOf x.st).length := by omega
    rw [posR_all] at hJ
    omega

theorem near_eq (x : LS) (i : Int) (hi : (i < 0 ∨ (x.st.length : Int) < i) ∨ (0 ≤ i ∧ i ≤ x.st.length)) (p q : Int) (h : ((i < 0 ∨ (x.st.length : Int) < i) ∧ p = 0 ∧ q = 30) ∨ ((atV x (max (i - 1) 0)).2 = true ∧ p = (atV x (max (i - 1) 0)).1 ∧ q = 0) ∨ ((atV x (max (i - 1) 0)).2 = false ∧ p = x.base ∧ q = 0)) (hr : q = 0 → 0 ≤ i ∧ i ≤ x.st.length) :
    Ending.returned (.tuple #[.int .i64 p, .int .i64 q]) = .returned (.tuple #[.int .i64 (nearV x i).1, .int .i64 (nearV x i).2]) := by
  have e : nearV x i = (p, q) := by
    unfold nearV
    rcases h with ⟨h1, rfl, rfl⟩ | ⟨h1, h2, rfl⟩ | ⟨h1, h2, rfl⟩
    · rw [if_pos h1]
    · have := hr rfl
      rw [if_neg (by omega)]
      unfold atV at h1 h2
      by_cases h3 : 0 ≤ max (i - 1) 0 ∧ max (i - 1) 0 < (x.st.length : Int)
      · rw [if_pos h3] at h2
        rw [if_neg (by omega), h2, show (max (i - 1) 0).toNat = (i - 1).toNat by omega]
      · rw [if_neg h3] at h1; cases h1
    · have := hr rfl
      rw [if_neg (by omega)]
      unfold atV at h1
      by_cases h3 : 0 ≤ max (i - 1) 0 ∧ max (i - 1) 0 < (x.st.length : Int)
      · rw [if_pos h3] at h1; cases h1
      · rw [if_pos (by omega), h2]
  rw [e]

set_option maxRecDepth 100000 in
theorem Near_calls {w0 w : World} {F0 : Nat → Prop} {R : List Sx.HP} (g : Nat) (x : LS) (i : Int) (hx : x.st.length ≤ 1099511627776) (h : Sx.St w0 F0 ([listS g (x)] ++ R) w) : Calls Try.prog 23 #[.pointer (some ⟨g, 0, none⟩), .int .i64 (i)] w (fun e w1 => e = .returned (.tuple #[.int .i64 (nearV x i).1, .int .i64 (nearV x i).2]) ∧ Sx.St w0 F0 (listS g x :: R) w1) := by
 refine Sx.calls_fn (vs := [.pointer (some ⟨g, 0, none⟩), .int .i64 (i)]) Try.func23 rfl Try.ntmps23 rfl ?_
 refine Sx.wc_seq ?_
 refine Sx.wc_region ?_
 refine Sx.wl_v rfl rfl (Sx.ov_assign _ rfl) ?_
 refine Sx.wl_v rfl rfl (Sx.ov_assign _ rfl) ?_
 refine Sx.wl_nil ?_
 refine Sx.qn_then ?_
 refine Sx.wc_seq ?_
 refine Sx.wc_seq ?_
 refine Sx.wc_region ?_
 refine Sx.wl_v rfl rfl (Sx.ov_move _ rfl) ?_
 refine Sx.wl_v rfl rfl (Sx.ov_bin _ rfl rfl (Sx.binR_lss)) ?_
 refine Sx.wl_v rfl rfl (Sx.ov_move _ rfl) ?_
 refine Sx.wl_split 10 rfl (fun c1 => ?_) (fun c1 => ?_)
 ·
  refine Sx.wl_skip rfl rfl ?_
  refine Sx.wl_skip rfl rfl ?_
  refine Sx.wl_skip rfl rfl ?_
  refine Sx.wl_skip rfl rfl ?_
  refine Sx.wl_skip rfl rfl ?_
  refine Sx.wl_skip rfl rfl ?_
  refine Sx.wl_v rfl rfl (Sx.ov_pick_true _ rfl rfl) ?_
  refine Sx.wl_nil ?_
  refine Sx.qn_then ?_
  refine Sx.wc_cond_true rfl ?_
  refine Sx.wc_seq ?_
  refine Sx.wc_region ?_
  refine Sx.wl_v rfl rfl (Sx.ov_assign _ rfl) ?_
  refine Sx.wl_v rfl rfl (Sx.ov_assign _ rfl) ?_
  refine Sx.wl_nil ?_
  refine Sx.qn_then ?_
  refine Sx.wc_ret ?_
  refine Sx.qn_then_ret ?_
  refine Sx.qn_ret [_, _] ⟨rfl, rfl, trivial⟩ ?_
  exact ⟨near_eq x i (by omega) _ _ (.inl ⟨by omega, rfl, rfl⟩) (by intro e; omega), h⟩
 ·
  refine Sx.wl_v rfl rfl (Sx.ov_move _ rfl) ?_
  refine Sx.wl_v rfl rfl (Sx.ov_move _ rfl) ?_
  refine Sx.wl_v rfl rfl (Sx.ov_nilCheck _ rfl) ?_
  refine Sx.wl_v rfl rfl (Sx.ov_fieldAddr _ ⟨g, 1, none⟩ _ rfl fo72_1 rfl) ?_
  obtain ⟨A2, c3, h⟩ := listS_open h
  refine Sx.wl_v rfl rfl (Sx.ov_loadb 0 _ h rfl rfl sh3 rfl) ?_
  refine Sx.wl_v rfl rfl (Sx.ov_bin _ rfl rfl (Sx.binR_gtr)) ?_
  refine Sx.wl_v rfl rfl (Sx.ov_pick_false _ rfl rfl) ?_
  refine Sx.wl_nil ?_
  refine Sx.qn_then ?_
  refine Sx.wc_cond (by rfl) (fun c4 => ?_) (fun c4 => ?_)
  ·
   refine Sx.wc_seq ?_
   refine Sx.wc_region ?_
   refine Sx.wl_v rfl rfl (Sx.ov_assign _ rfl) ?_
   refine Sx.wl_v rfl rfl (Sx.ov_assign _ rfl) ?_
   refine Sx.wl_nil ?_
   refine Sx.qn_then ?_
   refine Sx.wc_ret ?_
   refine Sx.qn_then_ret ?_
   replace h := Sx.st_front 1 h
   replace h := Sx.st_front 1 h
   replace h := listS_close (σ := (x).st) (by first | rfl | simp) (by first | rfl | simp) h
   refine Sx.qn_ret [_, _] ⟨rfl, rfl, trivial⟩ ?_
   exact ⟨near_eq x i (by omega) _ _ (.inl ⟨by omega, rfl, rfl⟩) (by intro e; omega), h⟩
  ·
   refine Sx.wc_skip ?_
   refine Sx.qn_then ?_
   refine Sx.wc_seq ?_
   refine Sx.wc_seq ?_
   refine Sx.wc_region ?_
   refine Sx.wl_v rfl rfl (Sx.ov_move _ rfl) ?_
   refine Sx.wl_v rfl rfl (Sx.ov_move _ rfl) ?_
   refine Sx.wl_v rfl rfl (Sx.ov_bin _ rfl rfl (Sx.binR_sub (r := i - 1) (Sx.w64 (by omega)))) ?_
   refine Sx.wl_v rfl rfl (Sx.ov_max _ _ _ (max (i - 1) 0) rfl rfl rfl) ?_
   replace h := Sx.st_front 1 h
   replace h := Sx.st_front 1 h
   replace h := listS_close (σ := (x).st) (by first | rfl | simp) (by first | rfl | simp) h
   refine Sx.wl_call _ rfl rfl rfl ent25 (At_calls g ((⟨(x).st, (x).base⟩ : LS)) (max (i - 1) 0) (by omega) h) ?_
   rintro e_ w_ ⟨rfl, h⟩
   refine ⟨_, rfl, ?_⟩
   refine Sx.wl_v rfl rfl (Sx.ov_move _ rfl) ?_
   refine Sx.wl_v rfl rfl (Sx.ov_extract [.int .i64 ((atV ((⟨(x).st, (x).base⟩ : LS)) (max (i - 1) 0)).1), .bool ((atV ((⟨(x).st, (x).base⟩ : LS)) (max (i - 1) 0)).2)] _ rfl rfl) ?_
   refine Sx.wl_v rfl rfl (Sx.ov_extract [.int .i64 ((atV ((⟨(x).st, (x).base⟩ : LS)) (max (i - 1) 0)).1), .bool ((atV ((⟨(x).st, (x).base⟩ : LS)) (max (i - 1) 0)).2)] _ rfl rfl) ?_
   refine Sx.wl_v rfl rfl (Sx.ov_assign _ rfl) ?_
   refine Sx.wl_v rfl rfl (Sx.ov_assign _ rfl) ?_
   refine Sx.wl_nil ?_
   refine Sx.qn_then ?_
   refine Sx.wc_seq ?_
   refine Sx.wc_region ?_
   refine Sx.wl_v rfl rfl (Sx.ov_move _ rfl) ?_
   refine Sx.wl_nil ?_
   refine Sx.qn_then ?_
   refine Sx.wc_condb (by rfl) (fun c5 => ?_) (fun c5 => ?_)
   ·
    refine Sx.wc_seq ?_
    refine Sx.wc_region ?_
    refine Sx.wl_v rfl rfl (Sx.ov_move _ rfl) ?_
    refine Sx.wl_v rfl rfl (Sx.ov_assign _ rfl) ?_
    refine Sx.wl_v rfl rfl (Sx.ov_assign _ rfl) ?_
    refine Sx.wl_nil ?_
    refine Sx.qn_then ?_
    refine Sx.wc_ret ?_
    refine Sx.qn_then_ret ?_
    refine Sx.qn_ret [_, _] ⟨rfl, rfl, trivial⟩ ?_
    exact ⟨near_eq x i (by omega) _ _ (.inr (.inl ⟨by assumption, rfl, rfl⟩)) (by intro _; omega), h⟩
   ·
    refine Sx.wc_skip ?_
    refine Sx.qn_then ?_
    refine Sx.wc_seq ?_
    refine Sx.wc_region ?_
    refine Sx.wl_v rfl rfl (Sx.ov_move _ rfl) ?_
    refine Sx.wl_v rfl rfl (Sx.ov_nilCheck _ rfl) ?_
    refine Sx.wl_v rfl rfl (Sx.ov_fieldAddr _ ⟨g, 2, none⟩ _ rfl fo72_2 rfl) ?_
    obtain ⟨A6, c7, h⟩ := listS_open h
    replace h : Sx.St _ _ (Sx.blk g [.slice (A6) ((runsOf ((x).st)).length) (c7), .int .i64 (((((x).st)).length : Int)), .int .i64 (((x).base))] 72 :: Sx.row k66 66 (A6) (c7) (runsOf ((x).st)) :: _) _ := h
    refine Sx.wl_v rfl rfl (Sx.ov_loadb 0 _ h rfl rfl sh3 rfl) ?_
    refine Sx.wl_v rfl rfl (Sx.ov_assign _ rfl) ?_
    refine Sx.wl_v rfl rfl (Sx.ov_assign _ rfl) ?_
    refine Sx.wl_nil ?_
    refine Sx.qn_then ?_
    refine Sx.wc_ret ?_
    replace h := Sx.st_front 1 h
    replace h := Sx.st_front 1 h
    replace h := listS_close (σ := ((x).st)) (by first | rfl | simp) (by first | rfl | simp) h
    refine Sx.qn_ret [_, _] ⟨rfl, rfl, trivial⟩ ?_
    exact ⟨near_eq x i (by omega) _ _ (.inr (.inr ⟨by assumption, rfl, rfl⟩)) (by intro _; omega), h⟩

theorem part_zero (σ : List Int) (b : Nat) : part σ 0 b = σ.take b := rfl
theorem part_end (σ : List Int) (a : Nat) : part σ a σ.length = σ.drop a := by unfold part; rw [List.take_length]


theorem near_ok {x : LS} {i : Int} (h : ¬ (nearV x i).2 ≠ 0) : 0 ≤ i ∧ i ≤ x.st.length := by
  unfold nearV at h
  by_cases hc : i < 0 ∨ (x.st.length : Int) < i
  · rw [if_pos hc] at h; exact absurd h (by decide)
  · omega
theorem span_ok {x : LS} {a b : Int} (h : ¬ spanV x a b ≠ 0) : 0 ≤ a ∧ a ≤ b ∧ b ≤ x.st.length := by
  unfold spanV at h
  by_cases hc : a < 0 ∨ (x.st.length : Int) < b ∨ b < a
  · rw [if_pos hc] at h; exact absurd h (by decide)
  · omega

set_option maxRecDepth 100000 in
theorem Insert_calls {w0 w : World} {F0 : Nat → Prop} {R : List Sx.HP} (g : Nat) (x : LS) (i n : Int) (hx : x.st.length ≤ 65536) (h : Sx.St w0 F0 ([listS g (x)] ++ R) w) : Calls Try.prog 28 #[.pointer (some ⟨g, 0, none⟩), .int .i64 (i), .int .i64 (n)] w (fun e w1 => e = .returned (.int .i64 (insV x i n).2) ∧ Sx.St w0 F0 (listS g (insV x i n).1 :: R) w1) := by
 refine Sx.calls_fn (vs := [.pointer (some ⟨g, 0, none⟩), .int .i64 (i), .int .i64 (n)]) Try.func28 rfl Try.ntmps28 rfl ?_
 refine Sx.wc_seq ?_
 refine Sx.wc_region ?_
 refine Sx.wl_v rfl rfl (Sx.ov_assign _ rfl) ?_
 refine Sx.wl_nil ?_
 refine Sx.qn_then ?_
 refine Sx.wc_seq ?_
 refine Sx.wc_region ?_
 refine Sx.wl_v rfl rfl (Sx.ov_move _ rfl) ?_
 refine Sx.wl_v rfl rfl (Sx.ov_move _ rfl) ?_
 refine Sx.wl_call _ rfl rfl rfl ent23 (Near_calls g x i (by omega) h) ?_
 rintro e_ w_ ⟨rfl, h⟩
 refine ⟨_, rfl, ?_⟩
 refine Sx.wl_v rfl rfl (Sx.ov_move _ rfl) ?_
 refine Sx.wl_v rfl rfl (Sx.ov_extract [.int .i64 ((nearV x i).1), .int .i64 ((nearV x i).2)] _ rfl rfl) ?_
 refine Sx.wl_v rfl rfl (Sx.ov_extract [.int .i64 ((nearV x i).1), .int .i64 ((nearV x i).2)] _ rfl rfl) ?_
 refine Sx.wl_v rfl rfl (Sx.ov_assign _ rfl) ?_
 refine Sx.wl_v rfl rfl (Sx.ov_assign _ rfl) ?_
 refine Sx.wl_nil ?_
 refine Sx.qn_then ?_
 refine Sx.wc_seq ?_
 refine Sx.wc_block ?_
 refine Sx.wc_seq ?_
 refine Sx.wc_region ?_
 refine Sx.wl_v rfl rfl (Sx.ov_move _ rfl) ?_
 refine Sx.wl_v rfl rfl (Sx.ov_bin _ rfl rfl (Sx.binR_neq)) ?_
 refine Sx.wl_v rfl rfl (Sx.ov_assign _ rfl) ?_
 refine Sx.wl_nil ?_
 refine Sx.qn_then ?_
 refine Sx.wc_cond (by rfl) (fun c1 => ?_) (fun c1 => ?_)
 ·
  refine Sx.wc_seq ?_
  refine Sx.wc_region ?_
  refine Sx.wl_v rfl rfl (Sx.ov_move _ rfl) ?_
  refine Sx.wl_v rfl rfl (Sx.ov_assign _ rfl) ?_
  refine Sx.wl_nil ?_
  refine Sx.qn_then ?_
  refine Sx.wc_ret ?_
  refine Sx.qn_block_ret ?_
  refine Sx.qn_then_ret ?_
  refine Sx.qn_ret [_] ⟨rfl, trivial⟩ ?_
  have e_ : insV x i n = (x, (nearV x i).2) := by unfold insV; rw [if_pos (by omega)]
  rw [e_]
  exact ⟨rfl, h⟩
 ·
  have hok := near_ok c1
  refine Sx.wc_seq ?_
  refine Sx.wc_region ?_
  refine Sx.wl_v rfl rfl (Sx.ov_move _ rfl) ?_
  refine Sx.wl_v rfl rfl (Sx.ov_bin _ rfl rfl (Sx.binR_lss)) ?_
  refine Sx.wl_v rfl rfl (Sx.ov_assign _ rfl) ?_
  refine Sx.wl_nil ?_
  refine Sx.qn_then ?_
  refine Sx.wc_cond (by rfl) (fun c2 => ?_) (fun c2 => ?_)
  ·
   refine Sx.wc_seq ?_
   refine Sx.wc_region ?_
   refine Sx.wl_v rfl rfl (Sx.ov_assign _ rfl) ?_
   refine Sx.wl_nil ?_
   refine Sx.qn_then ?_
   refine Sx.wc_ret ?_
   refine Sx.qn_block_ret ?_
   refine Sx.qn_then_ret ?_
   refine Sx.qn_ret [_] ⟨rfl, trivial⟩ ?_
   have e_ : insV x i n = (x, 1) := by unfold insV; rw [if_neg (by omega), if_pos (by omega)]
   rw [e_]
   exact ⟨rfl, h⟩
  ·
   refine Sx.wc_seq ?_
   refine Sx.wc_region ?_
   refine Sx.wl_v rfl rfl (Sx.ov_move _ rfl) ?_
   refine Sx.wl_v rfl rfl (Sx.ov_move _ rfl) ?_
   refine Sx.wl_v rfl rfl (Sx.ov_nilCheck _ rfl) ?_
   refine Sx.wl_v rfl rfl (Sx.ov_fieldAddr _ ⟨g, 1, none⟩ _ rfl fo72_1 rfl) ?_
   obtain ⟨A3, c4, h⟩ := listS_open h
   refine Sx.wl_v rfl rfl (Sx.ov_loadb 0 _ h rfl rfl sh3 rfl) ?_
   refine Sx.wl_v rfl rfl (Sx.ov_bin _ rfl rfl (Sx.binR_sub (r := 65536 - ((((x).st).length : Int))) (Sx.w64 (by omega)))) ?_
   refine Sx.wl_v rfl rfl (Sx.ov_bin _ rfl rfl (Sx.binR_gtr)) ?_
   refine Sx.wl_v rfl rfl (Sx.ov_assign _ rfl) ?_
   refine Sx.wl_nil ?_
   refine Sx.qn_then ?_
   refine Sx.wc_cond (by rfl) (fun c5 => ?_) (fun c5 => ?_)
   ·
    refine Sx.wc_seq ?_
    refine Sx.wc_region ?_
    refine Sx.wl_v rfl rfl (Sx.ov_assign _ rfl) ?_
    refine Sx.wl_nil ?_
    refine Sx.qn_then ?_
    refine Sx.wc_ret ?_
    refine Sx.qn_block_ret ?_
    refine Sx.qn_then_ret ?_
    replace h := Sx.st_front 1 h
    replace h := Sx.st_front 1 h
    replace h := listS_close (σ := (x).st) (by first | rfl | simp) (by first | rfl | simp) h
    refine Sx.qn_ret [_] ⟨rfl, trivial⟩ ?_
    have e_ : insV x i n = (x, 31) := by unfold insV; rw [if_neg (by omega), if_neg (by omega), if_pos (by omega)]
    rw [e_]
    exact ⟨rfl, h⟩
   ·
    refine Sx.wc_skip ?_
    refine Sx.qn_block_normal ?_
    refine Sx.qn_then ?_
    refine Sx.wc_seq ?_
    refine Sx.wc_region ?_
    refine Sx.wl_v rfl rfl (Sx.ov_build [] [.slice (none) (0) (0), .int .i64 (0), .int .i64 (0)] rfl rfl (by kernel_rfl)) ?_
    refine Sx.wl_box _ h rfl rfl rfl (fun b6 _ h => ?_)
    replace h : Sx.St _ _ (Sx.blk b6 [.slice (none) (0) (0), .int .i64 (0), .int .i64 (0)] 72 :: _) _ := h
    refine Sx.wl_v rfl rfl (Sx.ov_assign _ rfl) ?_
    refine Sx.wl_nil ?_
    refine Sx.qn_then ?_
    refine Sx.wc_seq ?_
    refine Sx.wc_region ?_
    refine Sx.wl_v rfl rfl (Sx.ov_move _ rfl) ?_
    refine Sx.wl_v rfl rfl (Sx.ov_move _ rfl) ?_
    refine Sx.wl_v rfl rfl (Sx.ov_move _ rfl) ?_
    replace h := Sx.st_front 2 h
    replace h := Sx.st_front 2 h
    replace h := listS_close (σ := (x).st) (by first | rfl | simp) (by first | rfl | simp) h
    replace h := Sx.st_nilrow k66 66 h
    replace h := Sx.st_front 2 h
    replace h := listS_close (σ := []) (by first | rfl | simp) (by first | rfl | simp) h
    replace h := Sx.st_front 1 h
    refine Sx.wl_call _ rfl rfl rfl ent42 (copyTo_calls g b6 ((⟨(x).st, (x).base⟩ : LS)) ((⟨[], 0⟩ : LS)) 0 i (by first | omega | (simp only [List.length_append, List.length_nil, List.length_replicate, part, List.length_take, List.length_drop]; omega)) (by first | omega | (simp only [List.length_append, List.length_nil, List.length_replicate, part, List.length_take, List.length_drop]; omega)) (by first | omega | (simp only [List.length_append, List.length_nil, List.length_replicate, part, List.length_take, List.length_drop]; omega)) (by first | omega | (simp only [List.length_append, List.length_nil, List.length_replicate, part, List.length_take, List.length_drop]; omega)) (by first | omega | (simp only [List.length_append, List.length_nil, List.length_replicate, part, List.length_take, List.length_drop]; omega)) (by first | omega | (simp only [List.length_append, List.length_nil, List.length_replicate, part, List.length_take, List.length_drop]; omega)) h) ?_
    rintro e_ w_ ⟨rfl, h⟩
    refine ⟨_, rfl, ?_⟩
    refine Sx.wl_nil ?_
    refine Sx.qn_then ?_
    refine Sx.wc_seq ?_
    refine Sx.wc_region ?_
    refine Sx.wl_v rfl rfl (Sx.ov_move _ rfl) ?_
    refine Sx.wl_v rfl rfl (Sx.ov_move _ rfl) ?_
    refine Sx.wl_v rfl rfl (Sx.ov_move _ rfl) ?_
    replace h := Sx.st_front 1 h
    refine Sx.wl_call _ rfl rfl rfl ent40 (put_S b6 ((⟨((⟨[], 0⟩ : LS)).st ++ part ((⟨(x).st, (x).base⟩ : LS)).st (0 : Int).toNat (i : Int).toNat, ((⟨[], 0⟩ : LS)).base⟩ : LS)) n ((nearV x i).1) (by first | omega | (simp only [List.length_append, List.length_nil, List.length_replicate, part, List.length_take, List.length_drop]; omega)) (by refine Nat.le_trans (runs_len _) ?_; simp only [List.length_append, List.length_nil, List.length_replicate, part, List.length_take, List.length_drop]; omega) h) ?_
    rintro e_ w_ ⟨rfl, h⟩
    refine ⟨_, rfl, ?_⟩
    refine Sx.wl_nil ?_
    refine Sx.qn_then ?_
    refine Sx.wc_seq ?_
    refine Sx.wc_region ?_
    refine Sx.wl_v rfl rfl (Sx.ov_move _ rfl) ?_
    refine Sx.wl_v rfl rfl (Sx.ov_move _ rfl) ?_
    refine Sx.wl_v rfl rfl (Sx.ov_move _ rfl) ?_
    refine Sx.wl_v rfl rfl (Sx.ov_move _ rfl) ?_
    refine Sx.wl_v rfl rfl (Sx.ov_nilCheck _ rfl) ?_
    refine Sx.wl_v rfl rfl (Sx.ov_fieldAddr _ ⟨g, 1, none⟩ _ rfl fo72_1 rfl) ?_
    replace h := Sx.st_front 1 h
    obtain ⟨A7, c8, h⟩ := listS_open h
    replace h : Sx.St _ _ (Sx.blk g [.slice (A7) ((runsOf ((x).st)).length) (c8), .int .i64 (((((x).st)).length : Int)), .int .i64 (((x).base))] 72 :: Sx.row k66 66 (A7) (c8) (runsOf ((x).st)) :: _) _ := h
    refine Sx.wl_v rfl rfl (Sx.ov_loadb 0 _ h rfl rfl sh3 rfl) ?_
    replace h := Sx.st_front 1 h
    replace h := Sx.st_front 1 h
    replace h := listS_close (σ := ((x).st)) (by first | rfl | simp) (by first | rfl | simp) h
    replace h := Sx.st_front 1 h
    replace h := Sx.st_front 1 h
    refine Sx.wl_call _ rfl rfl rfl ent42 (copyTo_calls g b6 ((⟨((x).st), ((x).base)⟩ : LS)) ((⟨((⟨((⟨[], 0⟩ : LS)).st ++ part ((⟨(x).st, (x).base⟩ : LS)).st (0 : Int).toNat (i : Int).toNat, ((⟨[], 0⟩ : LS)).base⟩ : LS)).st ++ List.replicate (n : Int).toNat ((nearV x i).1), ((⟨((⟨[], 0⟩ : LS)).st ++ part ((⟨(x).st, (x).base⟩ : LS)).st (0 : Int).toNat (i : Int).toNat, ((⟨[], 0⟩ : LS)).base⟩ : LS)).base⟩ : LS)) i (((((x).st)).length : Int)) (by first | omega | (simp only [List.length_append, List.length_nil, List.length_replicate, part, List.length_take, List.length_drop]; omega)) (by first | omega | (simp only [List.length_append, List.length_nil, List.length_replicate, part, List.length_take, List.length_drop]; omega)) (by first | omega | (simp only [List.length_append, List.length_nil, List.length_replicate, part, List.length_take, List.length_drop]; omega)) (by first | omega | (simp only [List.length_append, List.length_nil, List.length_replicate, part, List.length_take, List.length_drop]; omega)) (by first | omega | (simp only [List.length_append, List.length_nil, List.length_replicate, part, List.length_take, List.length_drop]; omega)) (by first | omega | (simp only [List.length_append, List.length_nil, List.length_replicate, part, List.length_take, List.length_drop]; omega)) h) ?_
    rintro e_ w_ ⟨rfl, h⟩
    refine ⟨_, rfl, ?_⟩
    refine Sx.wl_nil ?_
    refine Sx.qn_then ?_
    refine Sx.wc_seq ?_
    refine Sx.wc_region ?_
    refine Sx.wl_v rfl rfl (Sx.ov_move _ rfl) ?_
    refine Sx.wl_v rfl rfl (Sx.ov_move _ rfl) ?_
    replace h := Sx.st_front 1 h
    replace h := Sx.st_front 1 h
    refine Sx.wl_call _ rfl rfl rfl ent43 (take_calls g b6 ((⟨((x).st), ((x).base)⟩ : LS)) ((⟨((⟨((⟨((⟨[], 0⟩ : LS)).st ++ part ((⟨(x).st, (x).base⟩ : LS)).st (0 : Int).toNat (i : Int).toNat, ((⟨[], 0⟩ : LS)).base⟩ : LS)).st ++ List.replicate (n : Int).toNat ((nearV x i).1), ((⟨((⟨[], 0⟩ : LS)).st ++ part ((⟨(x).st, (x).base⟩ : LS)).st (0 : Int).toNat (i : Int).toNat, ((⟨[], 0⟩ : LS)).base⟩ : LS)).base⟩ : LS)).st ++ part ((⟨((x).st), ((x).base)⟩ : LS)).st (i : Int).toNat ((((((x).st)).length : Int)) : Int).toNat, ((⟨((⟨((⟨[], 0⟩ : LS)).st ++ part ((⟨(x).st, (x).base⟩ : LS)).st (0 : Int).toNat (i : Int).toNat, ((⟨[], 0⟩ : LS)).base⟩ : LS)).st ++ List.replicate (n : Int).toNat ((nearV x i).1), ((⟨((⟨[], 0⟩ : LS)).st ++ part ((⟨(x).st, (x).base⟩ : LS)).st (0 : Int).toNat (i : Int).toNat, ((⟨[], 0⟩ : LS)).base⟩ : LS)).base⟩ : LS)).base⟩ : LS)) h) ?_
    rintro e_ w_ ⟨rfl, h⟩
    refine ⟨_, rfl, ?_⟩
    refine Sx.wl_nil ?_
    refine Sx.qn_then ?_
    refine Sx.wc_seq ?_
    refine Sx.wc_region ?_
    refine Sx.wl_v rfl rfl (Sx.ov_assign _ rfl) ?_
    refine Sx.wl_nil ?_
    refine Sx.qn_then ?_
    refine Sx.wc_ret ?_
    have e_ : (⟨((⟨((⟨((⟨((⟨[], 0⟩ : LS)).st ++ part ((⟨(x).st, (x).base⟩ : LS)).st (0 : Int).toNat (i : Int).toNat, ((⟨[], 0⟩ : LS)).base⟩ : LS)).st ++ List.replicate (n : Int).toNat ((nearV x i).1), ((⟨((⟨[], 0⟩ : LS)).st ++ part ((⟨(x).st, (x).base⟩ : LS)).st (0 : Int).toNat (i : Int).toNat, ((⟨[], 0⟩ : LS)).base⟩ : LS)).base⟩ : LS)).st ++ part ((⟨((x).st), ((x).base)⟩ : LS)).st (i : Int).toNat ((((((x).st)).length : Int)) : Int).toNat, ((⟨((⟨((⟨[], 0⟩ : LS)).st ++ part ((⟨(x).st, (x).base⟩ : LS)).st (0 : Int).toNat (i : Int).toNat, ((⟨[], 0⟩ : LS)).base⟩ : LS)).st ++ List.replicate (n : Int).toNat ((nearV x i).1), ((⟨((⟨[], 0⟩ : LS)).st ++ part ((⟨(x).st, (x).base⟩ : LS)).st (0 : Int).toNat (i : Int).toNat, ((⟨[], 0⟩ : LS)).base⟩ : LS)).base⟩ : LS)).base⟩ : LS)).st, ((⟨((x).st), ((x).base)⟩ : LS)).base⟩ : LS) = (⟨x.st.take i.toNat ++ List.replicate n.toNat (nearV x i).1 ++ x.st.drop i.toNat, x.base⟩ : LS) := by simp only [List.nil_append, Int.toNat_natCast, show (0 : Int).toNat = 0 from rfl, part_zero, part_end]
    replace h := Sx.st_cast (congrArg (fun z_ => ([listS g (z_)] ++ R)) e_) h
    clear e_
    refine Sx.qn_ret [_] ⟨rfl, trivial⟩ ?_
    have e_ : insV x i n = (⟨x.st.take i.toNat ++ List.replicate n.toNat (nearV x i).1 ++ x.st.drop i.toNat, x.base⟩, 0) := by unfold insV; rw [if_neg (by omega), if_neg (by omega), if_neg (by omega)]
    rw [e_]
    exact ⟨rfl, h⟩

theorem del_base1 (x : LS) (h : (atV x 0).2 = true) : (atV x 0).1 = if x.st.length = 0 then x.base else x.st.getD 0 0 := by
  unfold atV at h ⊢
  by_cases hc : (0 : Int) ≤ 0 ∧ (0 : Int) < x.st.length
  · rw [if_pos hc, if_neg (by omega)]; rfl
  · rw [if_neg hc] at h; cases h
theorem del_base2 (x : LS) (h : (atV x 0).2 = false) : x.base = if x.st.length = 0 then x.base else x.st.getD 0 0 := by
  unfold atV at h
  by_cases hc : (0 : Int) ≤ 0 ∧ (0 : Int) < x.st.length
  · rw [if_pos hc] at h; cases h
  · rw [if_pos (by omega)]

set_option maxRecDepth 100000 in
theorem Delete_calls {w0 w : World} {F0 : Nat → Prop} {R : List Sx.HP} (g : Nat) (x : LS) (a b : Int) (hx : x.st.length ≤ 65536) (h : Sx.St w0 F0 ([listS g (x)] ++ R) w) : Calls Try.prog 29 #[.pointer (some ⟨g, 0, none⟩), .int .i64 (a), .int .i64 (b)] w (fun e w1 => e = .returned (.int .i64 (delV x a b).2) ∧ Sx.St w0 F0 (listS g (delV x a b).1 :: R) w1) := by
 refine Sx.calls_fn (vs := [.pointer (some ⟨g, 0, none⟩), .int .i64 (a), .int .i64 (b)]) Try.func29 rfl Try.ntmps29 rfl ?_
 refine Sx.wc_seq ?_
 refine Sx.wc_region ?_
 refine Sx.wl_v rfl rfl (Sx.ov_assign _ rfl) ?_
 refine Sx.wl_nil ?_
 refine Sx.qn_then ?_
 refine Sx.wc_seq ?_
 refine Sx.wc_seq ?_
 refine Sx.wc_region ?_
 refine Sx.wl_v rfl rfl (Sx.ov_move _ rfl) ?_
 refine Sx.wl_v rfl rfl (Sx.ov_move _ rfl) ?_
 refine Sx.wl_v rfl rfl (Sx.ov_move _ rfl) ?_
 refine Sx.wl_call _ rfl rfl rfl ent37 (span_calls g x a b  h) ?_
 rintro e_ w_ ⟨rfl, h⟩
 refine ⟨_, rfl, ?_⟩
 refine Sx.wl_v rfl rfl (Sx.ov_assign _ rfl) ?_
 refine Sx.wl_nil ?_
 refine Sx.qn_then ?_
 refine Sx.wc_seq ?_
 refine Sx.wc_region ?_
 refine Sx.wl_v rfl rfl (Sx.ov_move _ rfl) ?_
 refine Sx.wl_v rfl rfl (Sx.ov_bin _ rfl rfl (Sx.binR_neq)) ?_
 refine Sx.wl_nil ?_
 refine Sx.qn_then ?_
 refine Sx.wc_cond (by rfl) (fun c1 => ?_) (fun c1 => ?_)
 ·
  refine Sx.wc_seq ?_
  refine Sx.wc_region ?_
  refine Sx.wl_v rfl rfl (Sx.ov_move _ rfl) ?_
  refine Sx.wl_v rfl rfl (Sx.ov_assign _ rfl) ?_
  refine Sx.wl_nil ?_
  refine Sx.qn_then ?_
  refine Sx.wc_ret ?_
  refine Sx.qn_then_ret ?_
  refine Sx.qn_ret [_] ⟨rfl, trivial⟩ ?_
  have e_ : delV x a b = (x, spanV x a b) := by unfold delV; rw [if_pos (by omega)]
  rw [e_]
  exact ⟨rfl, h⟩
 ·
  have hok := span_ok c1
  refine Sx.wc_skip ?_
  refine Sx.qn_then ?_
  refine Sx.wc_seq ?_
  refine Sx.wc_seq ?_
  refine Sx.wc_region ?_
  refine Sx.wl_v rfl rfl (Sx.ov_move _ rfl) ?_
  refine Sx.wl_call _ rfl rfl rfl ent25 (At_calls g x 0 (by omega) h) ?_
  rintro e_ w_ ⟨rfl, h⟩
  refine ⟨_, rfl, ?_⟩
  refine Sx.wl_v rfl rfl (Sx.ov_move _ rfl) ?_
  refine Sx.wl_v rfl rfl (Sx.ov_extract [.int .i64 ((atV x 0).1), .bool ((atV x 0).2)] _ rfl rfl) ?_
  refine Sx.wl_v rfl rfl (Sx.ov_extract [.int .i64 ((atV x 0).1), .bool ((atV x 0).2)] _ rfl rfl) ?_
  refine Sx.wl_v rfl rfl (Sx.ov_assign _ rfl) ?_
  refine Sx.wl_v rfl rfl (Sx.ov_assign _ rfl) ?_
  refine Sx.wl_nil ?_
  refine Sx.qn_then ?_
  refine Sx.wc_seq ?_
  refine Sx.wc_region ?_
  refine Sx.wl_v rfl rfl (Sx.ov_move _ rfl) ?_
  refine Sx.wl_nil ?_
  refine Sx.qn_then ?_
  refine Sx.wc_condb (by rfl) (fun c2 => ?_) (fun c2 => ?_)
  ·
   refine Sx.wc_region ?_
   refine Sx.wl_v rfl rfl (Sx.ov_move _ rfl) ?_
   refine Sx.wl_v rfl rfl (Sx.ov_move _ rfl) ?_
   refine Sx.wl_v rfl rfl (Sx.ov_nilCheck _ rfl) ?_
   refine Sx.wl_v rfl rfl (Sx.ov_fieldAddr _ ⟨g, 2, none⟩ _ rfl fo72_2 rfl) ?_
   obtain ⟨A3, c4, h⟩ := listS_open h
   refine Sx.wl_storeb 0 _ [.slice (A3) ((runsOf (x).st).length) (c4), .int .i64 ((((x).st).length : Int)), .int .i64 ((atV x 0).1)] h rfl rfl rfl rfl rfl rfl sh3 rfl rfl (fun _ h => ?_)
   refine Sx.wl_nil ?_
   refine Sx.qn_then ?_
   refine Sx.wc_seq ?_
   refine Sx.wc_region ?_
   refine Sx.wl_v rfl rfl (Sx.ov_build [] [.slice (none) (0) (0), .int .i64 (0), .int .i64 (0)] rfl rfl (by kernel_rfl)) ?_
   refine Sx.wl_box _ h rfl rfl rfl (fun b5 _ h => ?_)
   replace h : Sx.St _ _ (Sx.blk b5 [.slice (none) (0) (0), .int .i64 (0), .int .i64 (0)] 72 :: _) _ := h
   refine Sx.wl_v rfl rfl (Sx.ov_assign _ rfl) ?_
   refine Sx.wl_nil ?_
   refine Sx.qn_then ?_
   refine Sx.wc_seq ?_
   refine Sx.wc_region ?_
   refine Sx.wl_v rfl rfl (Sx.ov_move _ rfl) ?_
   refine Sx.wl_v rfl rfl (Sx.ov_move _ rfl) ?_
   refine Sx.wl_v rfl rfl (Sx.ov_move _ rfl) ?_
   replace h := Sx.st_front 2 h
   replace h := Sx.st_front 2 h
   replace h := listS_close (σ := (x).st) (by first | rfl | simp) (by first | rfl | simp) h
   replace h := Sx.st_nilrow k66 66 h
   replace h := Sx.st_front 2 h
   replace h := listS_close (σ := []) (by first | rfl | simp) (by first | rfl | simp) h
   replace h := Sx.st_front 1 h
   refine Sx.wl_call _ rfl rfl rfl ent42 (copyTo_calls g b5 ((⟨(x).st, (atV x 0).1⟩ : LS)) ((⟨[], 0⟩ : LS)) 0 a (by first | omega | (simp only [List.length_append, List.length_nil, List.length_replicate, part, List.length_take, List.length_drop]; omega)) (by first | omega | (simp only [List.length_append, List.length_nil, List.length_replicate, part, List.length_take, List.length_drop]; omega)) (by first | omega | (simp only [List.length_append, List.length_nil, List.length_replicate, part, List.length_take, List.length_drop]; omega)) (by first | omega | (simp only [List.length_append, List.length_nil, List.length_replicate, part, List.length_take, List.length_drop]; omega)) (by first | omega | (simp only [List.length_append, List.length_nil, List.length_replicate, part, List.length_take, List.length_drop]; omega)) (by first | omega | (simp only [List.length_append, List.length_nil, List.length_replicate, part, List.length_take, List.length_drop]; omega)) h) ?_
   rintro e_ w_ ⟨rfl, h⟩
   refine ⟨_, rfl, ?_⟩
   refine Sx.wl_nil ?_
   refine Sx.qn_then ?_
   refine Sx.wc_seq ?_
   refine Sx.wc_region ?_
   refine Sx.wl_v rfl rfl (Sx.ov_move _ rfl) ?_
   refine Sx.wl_v rfl rfl (Sx.ov_move _ rfl) ?_
   refine Sx.wl_v rfl rfl (Sx.ov_move _ rfl) ?_
   refine Sx.wl_v rfl rfl (Sx.ov_move _ rfl) ?_
   refine Sx.wl_v rfl rfl (Sx.ov_nilCheck _ rfl) ?_
   refine Sx.wl_v rfl rfl (Sx.ov_fieldAddr _ ⟨g, 1, none⟩ _ rfl fo72_1 rfl) ?_
   obtain ⟨A6, c7, h⟩ := listS_open h
   replace h : Sx.St _ _ (Sx.blk g [.slice (A6) ((runsOf ((x).st)).length) (c7), .int .i64 (((((x).st)).length : Int)), .int .i64 (((atV x 0).1))] 72 :: Sx.row k66 66 (A6) (c7) (runsOf ((x).st)) :: _) _ := h
   refine Sx.wl_v rfl rfl (Sx.ov_loadb 0 _ h rfl rfl sh3 rfl) ?_
   replace h := Sx.st_front 1 h
   replace h := Sx.st_front 1 h
   replace h := listS_close (σ := ((x).st)) (by first | rfl | simp) (by first | rfl | simp) h
   replace h := Sx.st_front 1 h
   replace h := Sx.st_front 1 h
   refine Sx.wl_call _ rfl rfl rfl ent42 (copyTo_calls g b5 ((⟨((x).st), ((atV x 0).1)⟩ : LS)) ((⟨((⟨[], 0⟩ : LS)).st ++ part ((⟨(x).st, (atV x 0).1⟩ : LS)).st (0 : Int).toNat (a : Int).toNat, ((⟨[], 0⟩ : LS)).base⟩ : LS)) b (((((x).st)).length : Int)) (by first | omega | (simp only [List.length_append, List.length_nil, List.length_replicate, part, List.length_take, List.length_drop]; omega)) (by first | omega | (simp only [List.length_append, List.length_nil, List.length_replicate, part, List.length_take, List.length_drop]; omega)) (by first | omega | (simp only [List.length_append, List.length_nil, List.length_replicate, part, List.length_take, List.length_drop]; omega)) (by first | omega | (simp only [List.length_append, List.length_nil, List.length_replicate, part, List.length_take, List.length_drop]; omega)) (by first | omega | (simp only [List.length_append, List.length_nil, List.length_replicate, part, List.length_take, List.length_drop]; omega)) (by first | omega | (simp only [List.length_append, List.length_nil, List.length_replicate, part, List.length_take, List.length_drop]; omega)) h) ?_
   rintro e_ w_ ⟨rfl, h⟩
   refine ⟨_, rfl, ?_⟩
   refine Sx.wl_nil ?_
   refine Sx.qn_then ?_
   refine Sx.wc_seq ?_
   refine Sx.wc_region ?_
   refine Sx.wl_v rfl rfl (Sx.ov_move _ rfl) ?_
   refine Sx.wl_v rfl rfl (Sx.ov_move _ rfl) ?_
   replace h := Sx.st_front 1 h
   replace h := Sx.st_front 1 h
   refine Sx.wl_call _ rfl rfl rfl ent43 (take_calls g b5 ((⟨((x).st), ((atV x 0).1)⟩ : LS)) ((⟨((⟨((⟨[], 0⟩ : LS)).st ++ part ((⟨(x).st, (atV x 0).1⟩ : LS)).st (0 : Int).toNat (a : Int).toNat, ((⟨[], 0⟩ : LS)).base⟩ : LS)).st ++ part ((⟨((x).st), ((atV x 0).1)⟩ : LS)).st (b : Int).toNat ((((((x).st)).length : Int)) : Int).toNat, ((⟨((⟨[], 0⟩ : LS)).st ++ part ((⟨(x).st, (atV x 0).1⟩ : LS)).st (0 : Int).toNat (a : Int).toNat, ((⟨[], 0⟩ : LS)).base⟩ : LS)).base⟩ : LS)) h) ?_
   rintro e_ w_ ⟨rfl, h⟩
   refine ⟨_, rfl, ?_⟩
   refine Sx.wl_nil ?_
   refine Sx.qn_then ?_
   refine Sx.wc_seq ?_
   refine Sx.wc_region ?_
   refine Sx.wl_v rfl rfl (Sx.ov_assign _ rfl) ?_
   refine Sx.wl_nil ?_
   refine Sx.qn_then ?_
   refine Sx.wc_ret ?_
   have e_ : (⟨((⟨((⟨((⟨[], 0⟩ : LS)).st ++ part ((⟨(x).st, (atV x 0).1⟩ : LS)).st (0 : Int).toNat (a : Int).toNat, ((⟨[], 0⟩ : LS)).base⟩ : LS)).st ++ part ((⟨((x).st), ((atV x 0).1)⟩ : LS)).st (b : Int).toNat ((((((x).st)).length : Int)) : Int).toNat, ((⟨((⟨[], 0⟩ : LS)).st ++ part ((⟨(x).st, (atV x 0).1⟩ : LS)).st (0 : Int).toNat (a : Int).toNat, ((⟨[], 0⟩ : LS)).base⟩ : LS)).base⟩ : LS)).st, ((⟨((x).st), ((atV x 0).1)⟩ : LS)).base⟩ : LS) = (⟨x.st.take a.toNat ++ x.st.drop b.toNat, if x.st.length = 0 then x.base else x.st.getD 0 0⟩ : LS) := by simp only [List.nil_append, Int.toNat_natCast, show (0 : Int).toNat = 0 from rfl, part_zero, part_end, LS.mk.injEq, true_and]; first | exact del_base1 x (by assumption) | exact del_base2 x (by assumption)
   replace h := Sx.st_cast (congrArg (fun z_ => ([listS g (z_)] ++ R)) e_) h
   clear e_
   refine Sx.qn_ret [_] ⟨rfl, trivial⟩ ?_
   have e_ : delV x a b = ((⟨x.st.take a.toNat ++ x.st.drop b.toNat, if x.st.length = 0 then x.base else x.st.getD 0 0⟩ : LS), 0) := by unfold delV; rw [if_neg (by omega)]
   rw [e_]
   exact ⟨rfl, h⟩
  ·
   refine Sx.wc_skip ?_
   refine Sx.qn_then ?_
   refine Sx.wc_seq ?_
   refine Sx.wc_region ?_
   refine Sx.wl_v rfl rfl (Sx.ov_build [] [.slice (none) (0) (0), .int .i64 (0), .int .i64 (0)] rfl rfl (by kernel_rfl)) ?_
   refine Sx.wl_box _ h rfl rfl rfl (fun b8 _ h => ?_)
   replace h : Sx.St _ _ (Sx.blk b8 [.slice (none) (0) (0), .int .i64 (0), .int .i64 (0)] 72 :: _) _ := h
   refine Sx.wl_v rfl rfl (Sx.ov_assign _ rfl) ?_
   refine Sx.wl_nil ?_
   refine Sx.qn_then ?_
   refine Sx.wc_seq ?_
   refine Sx.wc_region ?_
   refine Sx.wl_v rfl rfl (Sx.ov_move _ rfl) ?_
   refine Sx.wl_v rfl rfl (Sx.ov_move _ rfl) ?_
   refine Sx.wl_v rfl rfl (Sx.ov_move _ rfl) ?_
   replace h := Sx.st_nilrow k66 66 h
   replace h := Sx.st_front 1 h
   replace h := listS_close (σ := []) (by first | rfl | simp) (by first | rfl | simp) h
   replace h := Sx.st_front 1 h
   refine Sx.wl_call _ rfl rfl rfl ent42 (copyTo_calls g b8 x ((⟨[], 0⟩ : LS)) 0 a (by first | omega | (simp only [List.length_append, List.length_nil, List.length_replicate, part, List.length_take, List.length_drop]; omega)) (by first | omega | (simp only [List.length_append, List.length_nil, List.length_replicate, part, List.length_take, List.length_drop]; omega)) (by first | omega | (simp only [List.length_append, List.length_nil, List.length_replicate, part, List.length_take, List.length_drop]; omega)) (by first | omega | (simp only [List.length_append, List.length_nil, List.length_replicate, part, List.length_take, List.length_drop]; omega)) (by first | omega | (simp only [List.length_append, List.length_nil, List.length_replicate, part, List.length_take, List.length_drop]; omega)) (by first | omega | (simp only [List.length_append, List.length_nil, List.length_replicate, part, List.length_take, List.length_drop]; omega)) h) ?_
   rintro e_ w_ ⟨rfl, h⟩
   refine ⟨_, rfl, ?_⟩
   refine Sx.wl_nil ?_
   refine Sx.qn_then ?_
   refine Sx.wc_seq ?_
   refine Sx.wc_region ?_
   refine Sx.wl_v rfl rfl (Sx.ov_move _ rfl) ?_
   refine Sx.wl_v rfl rfl (Sx.ov_move _ rfl) ?_
   refine Sx.wl_v rfl rfl (Sx.ov_move _ rfl) ?_
   refine Sx.wl_v rfl rfl (Sx.ov_move _ rfl) ?_
   refine Sx.wl_v rfl rfl (Sx.ov_nilCheck _ rfl) ?_
   refine Sx.wl_v rfl rfl (Sx.ov_fieldAddr _ ⟨g, 1, none⟩ _ rfl fo72_1 rfl) ?_
   obtain ⟨A9, c10, h⟩ := listS_open h
   refine Sx.wl_v rfl rfl (Sx.ov_loadb 0 _ h rfl rfl sh3 rfl) ?_
   replace h := Sx.st_front 1 h
   replace h := Sx.st_front 1 h
   replace h := listS_close (σ := (x).st) (by first | rfl | simp) (by first | rfl | simp) h
   replace h := Sx.st_front 1 h
   replace h := Sx.st_front 1 h
   refine Sx.wl_call _ rfl rfl rfl ent42 (copyTo_calls g b8 ((⟨(x).st, (x).base⟩ : LS)) ((⟨((⟨[], 0⟩ : LS)).st ++ part (x).st (0 : Int).toNat (a : Int).toNat, ((⟨[], 0⟩ : LS)).base⟩ : LS)) b ((((x).st).length : Int)) (by first | omega | (simp only [List.length_append, List.length_nil, List.length_replicate, part, List.length_take, List.length_drop]; omega)) (by first | omega | (simp only [List.length_append, List.length_nil, List.length_replicate, part, List.length_take, List.length_drop]; omega)) (by first | omega | (simp only [List.length_append, List.length_nil, List.length_replicate, part, List.length_take, List.length_drop]; omega)) (by first | omega | (simp only [List.length_append, List.length_nil, List.length_replicate, part, List.length_take, List.length_drop]; omega)) (by first | omega | (simp only [List.length_append, List.length_nil, List.length_replicate, part, List.length_take, List.length_drop]; omega)) (by first | omega | (simp only [List.length_append, List.length_nil, List.length_replicate, part, List.length_take, List.length_drop]; omega)) h) ?_
   rintro e_ w_ ⟨rfl, h⟩
   refine ⟨_, rfl, ?_⟩
   refine Sx.wl_nil ?_
   refine Sx.qn_then ?_
   refine Sx.wc_seq ?_
   refine Sx.wc_region ?_
   refine Sx.wl_v rfl rfl (Sx.ov_move _ rfl) ?_
   refine Sx.wl_v rfl rfl (Sx.ov_move _ rfl) ?_
   replace h := Sx.st_front 1 h
   replace h := Sx.st_front 1 h
   refine Sx.wl_call _ rfl rfl rfl ent43 (take_calls g b8 ((⟨(x).st, (x).base⟩ : LS)) ((⟨((⟨((⟨[], 0⟩ : LS)).st ++ part (x).st (0 : Int).toNat (a : Int).toNat, ((⟨[], 0⟩ : LS)).base⟩ : LS)).st ++ part ((⟨(x).st, (x).base⟩ : LS)).st (b : Int).toNat (((((x).st).length : Int)) : Int).toNat, ((⟨((⟨[], 0⟩ : LS)).st ++ part (x).st (0 : Int).toNat (a : Int).toNat, ((⟨[], 0⟩ : LS)).base⟩ : LS)).base⟩ : LS)) h) ?_
   rintro e_ w_ ⟨rfl, h⟩
   refine ⟨_, rfl, ?_⟩
   refine Sx.wl_nil ?_
   refine Sx.qn_then ?_
   refine Sx.wc_seq ?_
   refine Sx.wc_region ?_
   refine Sx.wl_v rfl rfl (Sx.ov_assign _ rfl) ?_
   refine Sx.wl_nil ?_
   refine Sx.qn_then ?_
   refine Sx.wc_ret ?_
   have e_ : (⟨((⟨((⟨((⟨[], 0⟩ : LS)).st ++ part (x).st (0 : Int).toNat (a : Int).toNat, ((⟨[], 0⟩ : LS)).base⟩ : LS)).st ++ part ((⟨(x).st, (x).base⟩ : LS)).st (b : Int).toNat (((((x).st).length : Int)) : Int).toNat, ((⟨((⟨[], 0⟩ : LS)).st ++ part (x).st (0 : Int).toNat (a : Int).toNat, ((⟨[], 0⟩ : LS)).base⟩ : LS)).base⟩ : LS)).st, ((⟨(x).st, (x).base⟩ : LS)).base⟩ : LS) = (⟨x.st.take a.toNat ++ x.st.drop b.toNat, if x.st.length = 0 then x.base else x.st.getD 0 0⟩ : LS) := by simp only [List.nil_append, Int.toNat_natCast, show (0 : Int).toNat = 0 from rfl, part_zero, part_end, LS.mk.injEq, true_and]; first | exact del_base1 x (by assumption) | exact del_base2 x (by assumption)
   replace h := Sx.st_cast (congrArg (fun z_ => ([listS g (z_)] ++ R)) e_) h
   clear e_
   refine Sx.qn_ret [_] ⟨rfl, trivial⟩ ?_
   have e_ : delV x a b = ((⟨x.st.take a.toNat ++ x.st.drop b.toNat, if x.st.length = 0 then x.base else x.st.getD 0 0⟩ : LS), 0) := by unfold delV; rw [if_neg (by omega)]
   rw [e_]
   exact ⟨rfl, h⟩
set_option maxRecDepth 100000 in
theorem part_calls {w0 w : World} {F0 : Nat → Prop} {R : List Sx.HP} (g : Nat) (x : LS) (a b : Int) (hx : x.st.length ≤ 65536) (ha : 0 ≤ a) (ha2 : a ≤ x.st.length) (hb : 0 ≤ b) (hb2 : b ≤ x.st.length) (h : Sx.St w0 F0 ([listS g (x)] ++ R) w) : Calls Try.prog 38 #[.pointer (some ⟨g, 0, none⟩), .int .i64 (a), .int .i64 (b)] w (fun e w1 => ∃ A c, e = .returned (.slice A (runsOf (part x.st a.toNat b.toNat)).length c) ∧ Sx.St w0 F0 (listS g x :: Sx.row k66 66 A c (runsOf (part x.st a.toNat b.toNat)) :: R) w1) := by
 refine Sx.calls_fn (vs := [.pointer (some ⟨g, 0, none⟩), .int .i64 (a), .int .i64 (b)]) Try.func38 rfl Try.ntmps38 rfl ?_
 refine Sx.wc_seq ?_
 refine Sx.wc_region ?_
 refine Sx.wl_v rfl rfl (Sx.ov_assign _ rfl) ?_
 refine Sx.wl_nil ?_
 refine Sx.qn_then ?_
 refine Sx.wc_seq ?_
 refine Sx.wc_region ?_
 refine Sx.wl_v rfl rfl (Sx.ov_build [] [.slice (none) (0) (0), .int .i64 (0), .int .i64 (0)] rfl rfl (by kernel_rfl)) ?_
 refine Sx.wl_box _ h rfl rfl rfl (fun b1 _ h => ?_)
 replace h : Sx.St _ _ (Sx.blk b1 [.slice (none) (0) (0), .int .i64 (0), .int .i64 (0)] 72 :: _) _ := h
 refine Sx.wl_v rfl rfl (Sx.ov_assign _ rfl) ?_
 refine Sx.wl_nil ?_
 refine Sx.qn_then ?_
 refine Sx.wc_seq ?_
 refine Sx.wc_region ?_
 refine Sx.wl_v rfl rfl (Sx.ov_move _ rfl) ?_
 refine Sx.wl_v rfl rfl (Sx.ov_move _ rfl) ?_
 refine Sx.wl_v rfl rfl (Sx.ov_move _ rfl) ?_
 refine Sx.wl_v rfl rfl (Sx.ov_move _ rfl) ?_
 replace h := Sx.st_nilrow k66 66 h
 replace h := Sx.st_front 1 h
 replace h := listS_close (σ := []) (by first | rfl | simp) (by first | rfl | simp) h
 replace h := Sx.st_front 1 h
 refine Sx.wl_call _ rfl rfl rfl ent42 (copyTo_calls g b1 x ((⟨[], 0⟩ : LS)) a b (by first | omega | (simp only [List.length_append, List.length_nil, List.length_replicate, part, List.length_take, List.length_drop]; omega)) (by first | omega | (simp only [List.length_append, List.length_nil, List.length_replicate, part, List.length_take, List.length_drop]; omega)) (by first | omega | (simp only [List.length_append, List.length_nil, List.length_replicate, part, List.length_take, List.length_drop]; omega)) (by first | omega | (simp only [List.length_append, List.length_nil, List.length_replicate, part, List.length_take, List.length_drop]; omega)) (by first | omega | (simp only [List.length_append, List.length_nil, List.length_replicate, part, List.length_take, List.length_drop]; omega)) (by first | omega | (simp only [List.length_append, List.length_nil, List.length_replicate, part, List.length_take, List.length_drop]; omega)) h) ?_
 rintro e_ w_ ⟨rfl, h⟩
 refine ⟨_, rfl, ?_⟩
 refine Sx.wl_nil ?_
 refine Sx.qn_then ?_
 refine Sx.wc_seq ?_
 refine Sx.wc_region ?_
 refine Sx.wl_v rfl rfl (Sx.ov_move _ rfl) ?_
 refine Sx.wl_v rfl rfl (Sx.ov_nilCheck _ rfl) ?_
 refine Sx.wl_v rfl rfl (Sx.ov_fieldAddr _ ⟨b1, 0, none⟩ _ rfl fo72_0 rfl) ?_
 replace h := Sx.st_front 1 h
 obtain ⟨A2, c3, h⟩ := listS_open h
 replace h : Sx.St _ _ (Sx.blk b1 [.slice (A2) ((runsOf (((⟨[], 0⟩ : LS)).st ++ part (x).st (a : Int).toNat (b : Int).toNat)).length) (c3), .int .i64 ((((((⟨[], 0⟩ : LS)).st ++ part (x).st (a : Int).toNat (b : Int).toNat)).length : Int)), .int .i64 ((((⟨[], 0⟩ : LS)).base))] 72 :: Sx.row k66 66 (A2) (c3) (runsOf (((⟨[], 0⟩ : LS)).st ++ part (x).st (a : Int).toNat (b : Int).toNat)) :: _) _ := h
 refine Sx.wl_v rfl rfl (Sx.ov_loadb 0 _ h rfl rfl sh33 rfl) ?_
 refine Sx.wl_v rfl rfl (Sx.ov_assign _ rfl) ?_
 refine Sx.wl_nil ?_
 refine Sx.qn_then ?_
 refine Sx.wc_ret ?_
 have e_ : runsOf (((⟨[], 0⟩ : LS)).st ++ part (x).st (a : Int).toNat (b : Int).toNat) = runsOf (part x.st a.toNat b.toNat) := by simp only [List.nil_append]
 replace h := Sx.st_cast (congrArg (fun z_ => ([Sx.blk b1 [.slice (A2) ((runsOf (((⟨[], 0⟩ : LS)).st ++ part (x).st (a : Int).toNat (b : Int).toNat)).length) (c3), .int .i64 ((((((⟨[], 0⟩ : LS)).st ++ part (x).st (a : Int).toNat (b : Int).toNat)).length : Int)), .int .i64 ((((⟨[], 0⟩ : LS)).base))] 72, Sx.row k66 66 (A2) (c3) (z_), listS g (x)] ++ R)) e_) h
 clear e_
 replace h := Sx.st_front 1 h
 replace h := Sx.st_front 2 h
 replace h := Sx.st_selT [true, true, false] h
 refine Sx.qn_ret [_] ⟨rfl, trivial⟩ ?_
 exact ⟨_, _, rfl, h⟩
set_option maxRecDepth 100000 in
theorem Runs_calls {w0 w : World} {F0 : Nat → Prop} {R : List Sx.HP} (g : Nat) (x : LS) (hx : x.st.length ≤ 1099511627776) (h : Sx.St w0 F0 ([listS g (x)] ++ R) w) : Calls Try.prog 16 #[.pointer (some ⟨g, 0, none⟩)] w (fun e w1 => ∃ A c, e = .returned (.slice A (runsOf x.st).length c) ∧ Sx.St w0 F0 (listS g x :: Sx.row k66 66 A c (runsOf x.st) :: R) w1) := by
 have hlen := runs_len x.st
 refine Sx.calls_fn (vs := [.pointer (some ⟨g, 0, none⟩)]) Try.func16 rfl Try.ntmps16 rfl ?_
 refine Sx.wc_seq ?_
 refine Sx.wc_region ?_
 refine Sx.wl_v rfl rfl (Sx.ov_assign _ rfl) ?_
 refine Sx.wl_nil ?_
 refine Sx.qn_then ?_
 refine Sx.wc_seq ?_
 refine Sx.wc_region ?_
 refine Sx.wl_lit (d := k66) [] _ [] ([]) h rfl rfl rfl rfl Try.underlying33 infb66 rfl (by decide) (by kernel_rfl) rfl (fun _ _ _ => (Reps.none _ _)) (fun A1 cp2 _ h => ?_)
 refine Sx.wl_v rfl rfl (Sx.ov_move _ rfl) ?_
 refine Sx.wl_v rfl rfl (Sx.ov_nilCheck _ rfl) ?_
 refine Sx.wl_v rfl rfl (Sx.ov_fieldAddr _ ⟨g, 0, none⟩ _ rfl fo72_0 rfl) ?_
 replace h := Sx.st_front 1 h
 obtain ⟨A3, c4, h⟩ := listS_open h
 refine Sx.wl_v rfl rfl (Sx.ov_loadb 0 _ h rfl rfl sh33 rfl) ?_
 refine Sx.wl_append (d := k66) (L := []) 2 _ 16 _ _ _ (runsOf (x).st) flat66 h rfl rfl rfl rfl rfl ((Sx.row_reads h (i := 1) rfl).2) Try.underlying33 inf66 rfl (by decide) (by decide) (by first | omega | (simp only [List.length_cons, List.length_nil, List.length_append, List.length_set]; omega)) (by first | rfl | simp) (fun A5 cp6 _ h => ?_)
 refine Sx.wl_v rfl rfl (Sx.ov_assign _ rfl) ?_
 refine Sx.wl_nil ?_
 refine Sx.qn_then ?_
 refine Sx.wc_ret ?_
 replace h := Sx.st_front 1 h
 replace h := Sx.st_front 1 h
 replace h := listS_close (σ := (x).st) (by first | rfl | simp) (by first | rfl | simp) h
 have e_ : ([]) ++ (runsOf (x).st) = runsOf x.st := by simp only [List.nil_append]
 replace h := Sx.st_cast (congrArg (fun z_ => ([listS g ((⟨(x).st, (x).base⟩ : LS)), Sx.row k66 66 (A5) (cp6) (z_)] ++ R)) e_) h
 clear e_
 replace h := Sx.st_front 1 h
 replace h := Sx.st_front 1 h
 refine Sx.qn_ret [_] ⟨rfl, trivial⟩ ?_
 exact ⟨_, _, rfl, h⟩
set_option maxRecDepth 100000 in
theorem Copy_calls {w0 w : World} {F0 : Nat → Prop} {R : List Sx.HP} (g : Nat) (x : LS) (hx : x.st.length ≤ 1099511627776) (h : Sx.St w0 F0 ([listS g (x)] ++ R) w) : Calls Try.prog 27 #[.pointer (some ⟨g, 0, none⟩)] w (fun e w1 => ∃ g2, e = .returned (.pointer (some ⟨g2, 0, none⟩)) ∧ Sx.St w0 F0 (listS g x :: listS g2 x :: R) w1) := by
 refine Sx.calls_fn (vs := [.pointer (some ⟨g, 0, none⟩)]) Try.func27 rfl Try.ntmps27 rfl ?_
 refine Sx.wc_seq ?_
 refine Sx.wc_region ?_
 refine Sx.wl_v rfl rfl (Sx.ov_assign _ rfl) ?_
 refine Sx.wl_nil ?_
 refine Sx.qn_then ?_
 refine Sx.wc_seq ?_
 refine Sx.wc_draw (fun w => Sx.St w0 F0 ([listS g (x)] ++ R) w) (by kernel_rfl) ?_
 replace h := Sx.st_drew h
 refine Sx.wa_tk 0 rfl rfl rfl (Sx.st_selT [true] h) (fun w_ hS => Sx.ov_move _ rfl) ?_
 refine Sx.wa_tk 2 rfl rfl rfl (Sx.st_selT [true] h) (fun w_ hS => Sx.ov_move _ rfl) ?_
 refine Sx.wa_tk 3 rfl rfl rfl (Sx.st_selT [true] h) (fun w_ hS => Sx.ov_nilCheck _ rfl) ?_
 refine Sx.wa_tk 4 rfl rfl rfl (Sx.st_selT [true] h) (fun w_ hS => Sx.ov_fieldAddr _ ⟨g, 1, none⟩ _ rfl fo72_1 rfl) ?_
 refine Sx.wa_tk 5 rfl rfl rfl (Sx.st_selT [true] h) (fun w_ hS => by
     obtain ⟨A_, c_, hS⟩ := listS_open (Sx.st_front 0 hS)
     exact Sx.ov_loadb 0 _ hS rfl rfl sh3 rfl) ?_
 refine Sx.wa_tk 6 rfl rfl rfl (Sx.st_selT [true] h) (fun w_ hS => Sx.ov_move _ rfl) ?_
 refine Sx.wa_tk 7 rfl rfl rfl (Sx.st_selT [true] h) (fun w_ hS => Sx.ov_nilCheck _ rfl) ?_
 refine Sx.wa_tk 8 rfl rfl rfl (Sx.st_selT [true] h) (fun w_ hS => Sx.ov_fieldAddr _ ⟨g, 2, none⟩ _ rfl fo72_2 rfl) ?_
 refine Sx.wa_tk 9 rfl rfl rfl (Sx.st_selT [true] h) (fun w_ hS => by
     obtain ⟨A_, c_, hS⟩ := listS_open (Sx.st_front 0 hS)
     exact Sx.ov_loadb 0 _ hS rfl rfl sh3 rfl) ?_
 refine Sx.wa_one 1 rfl (by kernel_rfl) ?_
 refine Sx.wl_call _ rfl rfl rfl ent16 (Runs_calls g x (by omega) h) ?_
 rintro e_ w_ ⟨A1, cp2, rfl, h⟩
 refine ⟨_, rfl, ?_⟩
 refine Sx.wl_nil ?_
 refine Sx.qn_wa (Sx.st_selT [true, false] h) ?_
 refine Sx.wa_tk 10 rfl rfl rfl (Sx.st_selT [true, false] h) (fun w_ hS => Sx.ov_build [(0, .slice (A1) ((runsOf (x).st).length) (cp2)), (1, .int .i64 ((((x).st).length : Int))), (2, .int .i64 ((x).base))] [.slice (A1) ((runsOf (x).st).length) (cp2), .int .i64 ((((x).st).length : Int)), .int .i64 ((x).base)] rfl rfl (by kernel_rfl)) ?_
 refine Sx.wa_one 11 rfl (by kernel_rfl) ?_
 refine Sx.wl_box _ h rfl rfl rfl (fun b3 _ h => ?_)
 replace h : Sx.St _ _ (Sx.blk b3 [.slice (A1) ((runsOf (x).st).length) (cp2), .int .i64 ((((x).st).length : Int)), .int .i64 ((x).base)] 72 :: _) _ := h
 refine Sx.wl_nil ?_
 refine Sx.qn_wa (Sx.st_selT [false, true, false] h) ?_
 refine Sx.wa_tk 12 rfl rfl rfl (Sx.st_selT [false, true, false] h) (fun w_ hS => Sx.ov_assign _ rfl) ?_
 refine Sx.wa_done (by kernel_rfl) ?_
 refine Sx.qn_then ?_
 refine Sx.wc_ret ?_
 replace h := Sx.st_front 2 h
 replace h := Sx.st_front 1 h
 replace h := listS_close (σ := (x).st) (by first | rfl | simp) (by first | rfl | simp) h
 have e_ : (⟨(x).st, (x).base⟩ : LS) = x := by rfl
 replace h := Sx.st_cast (congrArg (fun z_ => ([listS b3 (z_), listS g (x)] ++ R)) e_) h
 clear e_
 replace h := Sx.st_front 1 h
 refine Sx.qn_ret [_] ⟨rfl, trivial⟩ ?_
 exact ⟨_, rfl, h⟩
end Go.Proofs.Ytkliboeebookeaa.Runs
