/- The walk of RunsEach. -/
import Derived.Test.YtkliboeebookeaaProg
import Derived.Test.YtkliboeebookeaaSxGlue
import Derived.Test.YtkliboeebookeaaSxKinds
import Derived.Test.YtkliboeebookeaaRunsTh
import Derived.Test.YtkliboeebookeaaSxRuns
import Derived.Test.YtkliboeebookeaaSxRunsB
import Derived.Test.YtkliboeebookeaaSxRef
import Derived.Test.YtkliboeebookeaaSxPlain
import Derived.Test.YtkliboeebookeaaSxPlainB
import Derived.Test.YtkliboeebookeaaSxPlay
import Derived.Test.YtkliboeebookeaaSxAwake
import Derived.Test.YtkliboeebookeaaSxRanged
import Derived.Test.YtkliboeebookeaaSxEach
namespace Go.Proofs.Ytkliboeebookeaa.Runs.L
open Go Go.RowKit Go.Proofs.YtkliboeebookeaaW.PrintWords Go.Proofs.Ytkliboeebookeaa.Kinds Go.Proofs.Ytkliboeebookeaa.Runs Go.Proofs.Ytkliboeebookeaa.Runs.B Go.Proofs.Ytkliboeebookeaa.Runs.C Go.Proofs.Ytkliboeebookeaa.Runs.D Go.Proofs.Ytkliboeebookeaa.Runs.E Go.Proofs.Ytkliboeebookeaa.Runs.F Go.Proofs.Ytkliboeebookeaa.Runs.G Go.Proofs.Ytkliboeebookeaa.Runs.I
set_option linter.unusedVariables false
set_option linter.unusedSimpArgs false
theorem zo4 : Sx.zeroOf Try.prog 4 = some (.bool false) := by kernel_rfl
theorem ent11 : Sx.Ent Try.prog 11 := ⟨Try.f11, Try.func11, by kernel_rfl, by kernel_rfl⟩
theorem ent12 : Sx.Ent Try.prog 12 := ⟨Try.f12, Try.func12, by kernel_rfl, by kernel_rfl⟩
theorem sh4 : Sx.shapeOf Try.prog 4 = some (false, 1) := by kernel_rfl
theorem ent13 : Sx.Ent Try.prog 13 := ⟨Try.f13, Try.func13, by kernel_rfl, by kernel_rfl⟩
theorem zo28 : Sx.zeroOf Try.prog 28 = some (.agg #[.slice (none) (0) (0), .int .i64 (0)]) := by kernel_rfl
theorem sh28 : Sx.shapeOf Try.prog 28 = some (true, 2) := by kernel_rfl
theorem fo28_0 : Sx.fieldOff Try.prog 28 0 = some 0 := by kernel_rfl
theorem sh26 : Sx.shapeOf Try.prog 26 = some (false, 1) := by kernel_rfl
theorem ent17 : Sx.Ent Try.prog 17 := ⟨Try.f17, Try.func17, by kernel_rfl, by kernel_rfl⟩
theorem zo33 : Sx.zeroOf Try.prog 33 = some (.slice (none) (0) (0)) := by kernel_rfl
theorem sh33 : Sx.shapeOf Try.prog 33 = some (false, 1) := by kernel_rfl
theorem zo3 : Sx.zeroOf Try.prog 3 = some (.int .i64 (0)) := by kernel_rfl
theorem sh3 : Sx.shapeOf Try.prog 3 = some (false, 1) := by kernel_rfl
theorem ent32 : Sx.Ent Try.prog 32 := ⟨Try.f32, Try.func32, by kernel_rfl, by kernel_rfl⟩
theorem ent44 : Sx.Ent Try.prog 44 := ⟨Try.f44, Try.func44, by kernel_rfl, by kernel_rfl⟩
theorem zo66 : Sx.zeroOf Try.prog 66 = some (.agg #[.int .i64 (0), .int .i64 (0)]) := by kernel_rfl
theorem sh66 : Sx.shapeOf Try.prog 66 = some (true, 2) := by kernel_rfl
theorem es33 : Sx.elemSz Try.prog 33 = some (66, 2) := by kernel_rfl
theorem eqs66 : (Try.prog.stoodInHeld 66 || Try.prog.eqGuardType Try.prog.depth 66) = false := by kernel_rfl
theorem eqf66 : Try.prog.underlying 66 = some (.struct (Try.prog.fieldsOf 66)) := by kernel_rfl
theorem fo66_0 : Sx.fieldOff Try.prog 66 0 = some 0 := by kernel_rfl

theorem sumF_pos (σ : List Int) (k : Nat) (hk : k ≤ (runsOf σ).length) : sumF (runsOf σ) k = (posR (runsOf σ) k : Int) := by
  induction k with
  | zero => rfl
  | succ k ih =>
    have h := (run_fits σ k (by omega) z66).2
    rw [sumF, ih (by omega), posR_succ _ _ (by omega) z66]
    omega
theorem sumF_le (σ : List Int) (k : Nat) (hk : k ≤ (runsOf σ).length) : 0 ≤ sumF (runsOf σ) k ∧ sumF (runsOf σ) k ≤ σ.length := by
  have h := posR_le (runsOf σ) k
  rw [expand_runs] at h
  rw [sumF_pos σ k hk]
  omega
theorem f0_le (σ : List Int) (k : Nat) (hk : k < (runsOf σ).length) : 0 ≤ ((runsOf σ).getD k z66).f0 ∧ ((runsOf σ).getD k z66).f0 ≤ σ.length := by
  have h := run_fits σ k hk z66
  omega
theorem rn_eq {a b : Rn} (h0 : a.f0 = b.f0) (h1 : a.f1 = b.f1) : a = b := by
  cases a; cases b; simp_all
theorem each_next {L : List Rn} {pre : List YI} {x : YI} (h1 : pre.length < L.length) (h2 : pre = (eachL L).take pre.length) (hx : x = (sumF L pre.length, L.getD pre.length z66)) : pre ++ [x] = (eachL L).take (pre ++ [x]).length := by
  rw [List.length_append, List.length_cons, List.length_nil, eachL_take L _ h1, ← h2, hx]
theorem each_last {L : List Rn} {pre : List YI} {x : YI} (h1 : pre.length < L.length) (h : pre ++ [x] = (eachL L).take (pre ++ [x]).length) : x = (sumF L pre.length, L.getD pre.length z66) := by
  rw [List.length_append, List.length_cons, List.length_nil, Nat.zero_add, eachL_take L _ h1] at h
  have h3 := List.append_inj_right h (by rw [eachL_tl _ _ (by omega)])
  injection h3

set_option maxRecDepth 100000 in
theorem Each_calls {w0 w : World} {F0 : Nat → Prop} {R : List Sx.HP} (gl : Nat)  (h : Sx.St w0 F0 ([] ++ R) w) : Calls Try.prog 32 #[.pointer (some ⟨gl, 0, none⟩)] w (fun e w1 => ∃ g, e = .returned (.func (.func 44) #[] #[.pointer (some ⟨g, 0, none⟩)]) ∧ Sx.St w0 F0 (Sx.blk g [.pointer (some ⟨gl, 0, none⟩)] 25 :: R) w1) := by
 refine Sx.calls_fn (vs := [.pointer (some ⟨gl, 0, none⟩)]) Try.func32 rfl Try.ntmps32 rfl ?_
 refine Sx.wc_seq ?_
 refine Sx.wc_region ?_
 refine Sx.wl_box _ h rfl rfl rfl (fun b1 _ h => ?_)
 replace h : Sx.St _ _ (Sx.blk b1 [.pointer (some ⟨gl, 0, none⟩)] 25 :: _) _ := h
 refine Sx.wl_v rfl rfl (Sx.ov_assign _ rfl) ?_
 refine Sx.wl_nil ?_
 refine Sx.qn_then ?_
 refine Sx.wc_seq ?_
 refine Sx.wc_region ?_
 refine Sx.wl_v rfl rfl (Sx.ov_makeFunc _ rfl) ?_
 refine Sx.wl_v rfl rfl (Sx.ov_assign _ rfl) ?_
 refine Sx.wl_nil ?_
 refine Sx.qn_then ?_
 refine Sx.wc_ret ?_
 refine Sx.qn_ret [_] ⟨rfl, trivial⟩ ?_
 exact ⟨_, rfl, h⟩
set_option maxRecDepth 100000 in
theorem RunsEach_calls {w0 w : World} {F0 : Nat → Prop} {v0 : World} (n : Int) (script : List S55) (Ascript : Option Addr) (cscript : Nat) (leave : Int) (hv : Sx.RO v0 w0 F0) (hlscript : script.length ≤ cscript) (hCscript : k55.C v0 Ascript script.length script) (hmscript : script.length ≤ 9223372036854775807) (h : Sx.St w0 F0 ([] ++ []) w) : Calls Try.prog 8 #[.int .i64 (n), .slice (Ascript) (script.length) (cscript), .int .i64 (leave)] w (fun e w1 => e = .returned (.bool true) ∧ Sx.St w0 F0 [] w1) := by
 refine Sx.calls_fnM (vs := [.int .i64 (n), .slice (Ascript) (script.length) (cscript), .int .i64 (leave)]) Try.func8 rfl Try.ntmps8 rfl ?_
 refine Sx.wc_seq ?_
 refine Sx.wc_region ?_
 refine Sx.wl_box _ h rfl rfl rfl (fun b1 _ h => ?_)
 replace h : Sx.St _ _ (Sx.blk b1 [.int .i64 (leave)] 3 :: _) _ := h
 refine Sx.wl_alloc _ h rfl rfl zo4 (fun b2 _ h => ?_)
 replace h : Sx.St _ _ (Sx.blk b2 [.bool false] 4 :: _) _ := h
 refine Sx.wl_nil ?_
 refine Sx.qn_then ?_
 refine Sx.wc_seq ?_
 refine Sx.wc_seq ?_
 refine Sx.wc_region ?_
 refine Sx.wl_call _ rfl rfl rfl ent11 (awake_calls (R := [Sx.blk b2 [.bool false] 4, Sx.blk b1 [.int .i64 (leave)] 3] ++ []) h) ?_
 rintro e_ w_ ⟨rfl, h⟩
 refine ⟨_, rfl, ?_⟩
 refine Sx.wl_v rfl rfl (Sx.ov_notb _ rfl) ?_
 refine Sx.wl_nil ?_
 refine Sx.qn_then ?_
 refine Sx.wc_cond_false rfl ?_
 refine Sx.wc_skip ?_
 refine Sx.qn_then ?_
 refine Sx.wc_seq ?_
 refine Sx.wc_seq ?_
 refine Sx.wc_region ?_
 refine Sx.wl_v rfl rfl (Sx.ov_move _ rfl) ?_
 refine Sx.wl_call _ rfl rfl rfl ent12 (small_calls (R := [Sx.blk b2 [.bool false] 4, Sx.blk b1 [.int .i64 (leave)] 3] ++ []) n 1 h) ?_
 rintro e_ w_ ⟨rfl, h⟩
 refine ⟨_, rfl, ?_⟩
 refine Sx.wl_v rfl rfl (Sx.ov_not _ (¬ (smallP n 1)) rfl (by first | exact decide_not.symm | simp)) ?_
 refine Sx.wl_nil ?_
 refine Sx.qn_then ?_
 refine Sx.wc_cond (by rfl) (fun c3 => ?_) (fun c3 => ?_)
 ·
  refine Sx.wc_seq ?_
  refine Sx.wc_region ?_
  refine Sx.wl_storeb 0 _ [.bool true] h rfl rfl rfl rfl rfl rfl sh4 rfl rfl (fun _ h => ?_)
  refine Sx.wl_nil ?_
  refine Sx.qn_then ?_
  refine Sx.wc_ret ?_
  refine Sx.qn_then_ret ?_
  have hend_ := h
  replace h := Sx.st_selT [false, false] h
  refine Sx.qn_retM [_] ⟨⟨_, rfl, Sx.loadVar1 sh4 (by rw [Sx.blk_cell hend_ (i := 0) rfl]; rfl)⟩, trivial⟩ ?_
  exact ⟨rfl, h⟩
 ·
  refine Sx.wc_skip ?_
  refine Sx.qn_then ?_
  refine Sx.wc_seq ?_
  refine Sx.wc_region ?_
  refine Sx.wl_v rfl rfl (Sx.ov_move _ rfl) ?_
  refine Sx.wl_v rfl rfl (Sx.ov_move _ rfl) ?_
  refine Sx.wl_call _ rfl rfl rfl ent13 (played_calls (R := [Sx.blk b2 [.bool false] 4, Sx.blk b1 [.int .i64 (leave)] 3] ++ []) n 1 (script) (Ascript) (cscript) hv hlscript hCscript (by omega) (by exact small_new (by omega)) h) ?_
  rintro e_ w_ ⟨g4, A5, cp6, rfl, hl9, h⟩
  refine ⟨_, rfl, ?_⟩
  generalize hy8 : playV (newL n 1) (script) 40 = y7 at h hl9 ⊢
  have hy7 := runs_len y7.st
  refine Sx.wl_v rfl rfl (Sx.ov_move _ rfl) ?_
  refine Sx.wl_v rfl rfl (Sx.ov_extract [.pointer (some ⟨g4, 0, none⟩), .agg #[.slice (A5) (((y7).st).length) (cp6), .int .i64 ((y7).base)]] _ rfl rfl) ?_
  refine Sx.wl_v rfl rfl (Sx.ov_extract [.pointer (some ⟨g4, 0, none⟩), .agg #[.slice (A5) (((y7).st).length) (cp6), .int .i64 ((y7).base)]] _ rfl rfl) ?_
  refine Sx.wl_alloc _ h rfl rfl zo28 (fun b10 _ h => ?_)
  replace h : Sx.St _ _ (Sx.blk b10 [.slice (none) (0) (0), .int .i64 (0)] 28 :: _) _ := h
  refine Sx.wl_v rfl rfl (Sx.ov_assign _ rfl) ?_
  refine Sx.wl_storebN 0 [.slice (A5) (((y7).st).length) (cp6), .int .i64 ((y7).base)] [.slice (A5) (((y7).st).length) (cp6), .int .i64 ((y7).base)] h rfl rfl rfl rfl (by simp [Value.oneCell']) sh28 rfl rfl (fun _ h => ?_)
  refine Sx.wl_nil ?_
  refine Sx.qn_then ?_
  refine Sx.wc_seq ?_
  refine Sx.wc_seq ?_
  refine Sx.wc_region ?_
  refine Sx.wl_v rfl rfl (Sx.ov_move _ rfl) ?_
  refine Sx.wl_v rfl rfl (Sx.ov_bin (.bool false) rfl rfl (Sx.binR_eqnil Try.underlying25)) ?_
  refine Sx.wl_nil ?_
  refine Sx.qn_then ?_
  refine Sx.wc_cond_false rfl ?_
  refine Sx.wc_skip ?_
  refine Sx.qn_then ?_
  refine Sx.wc_seq ?_
  refine Sx.wc_region ?_
  refine Sx.wl_v rfl rfl (Sx.ov_fieldAddr _ ⟨b10, 0, none⟩ _ rfl fo28_0 rfl) ?_
  refine Sx.wl_v rfl rfl (Sx.ov_loadb 0 _ h rfl rfl sh26 rfl) ?_
  refine Sx.wl_call _ rfl rfl rfl ent17 (rRuns_calls (R := [Sx.blk b10 [.slice (A5) (((y7).st).length) (cp6), .int .i64 ((y7).base)] 28, listS g4 (y7), Sx.row (Kd.int .i64) 3 (A5) (cp6) ((y7).st), Sx.blk b2 [.bool false] 4, Sx.blk b1 [.int .i64 (leave)] 3] ++ []) ((y7).st) (A5) (cp6) (by omega) (Sx.row_reads_at (R := [Sx.blk b10 [.slice (A5) (((y7).st).length) (cp6), .int .i64 ((y7).base)] 28, listS g4 (y7), Sx.row (Kd.int .i64) 3 (A5) (cp6) ((y7).st), Sx.blk b2 [.bool false] 4, Sx.blk b1 [.int .i64 (leave)] 3] ++ []) (j := 2) rfl) h) ?_
  rintro e_ w_ ⟨A11, cp12, rfl, h⟩
  refine ⟨_, rfl, ?_⟩
  refine Sx.wl_alloc _ h rfl rfl zo33 (fun b13 _ h => ?_)
  replace h : Sx.St _ _ (Sx.blk b13 [.slice (none) (0) (0)] 33 :: _) _ := h
  refine Sx.wl_storeb 0 _ [.slice (A11) ((runsOf ((y7).st)).length) (cp12)] h rfl rfl rfl rfl rfl rfl sh33 rfl rfl (fun _ h => ?_)
  refine Sx.wl_nil ?_
  refine Sx.qn_then ?_
  refine Sx.wc_seq ?_
  refine Sx.wc_region ?_
  refine Sx.wl_alloc _ h rfl rfl zo3 (fun b14 _ h => ?_)
  replace h : Sx.St _ _ (Sx.blk b14 [.int .i64 (0)] 3 :: _) _ := h
  refine Sx.wl_alloc _ h rfl rfl zo3 (fun b15 _ h => ?_)
  replace h : Sx.St _ _ (Sx.blk b15 [.int .i64 (0)] 3 :: _) _ := h
  refine Sx.wl_storeb 1 _ [.int .i64 (0)] h rfl rfl rfl rfl rfl rfl sh3 rfl rfl (fun _ h => ?_)
  refine Sx.wl_storeb 0 _ [.int .i64 (0)] h rfl rfl rfl rfl rfl rfl sh3 rfl rfl (fun _ h => ?_)
  refine Sx.wl_nil ?_
  refine Sx.qn_then ?_
  refine Sx.wc_seq ?_
  refine Sx.wc_seq ?_
  refine Sx.wc_region ?_
  refine Sx.wl_v rfl rfl (Sx.ov_move _ rfl) ?_
  replace h := Sx.st_front 5 h
  refine Sx.wl_call _ rfl rfl rfl ent32 (Each_calls g4 h) ?_
  rintro e_ w_ ⟨g16, rfl, h⟩
  refine ⟨_, rfl, ?_⟩
  refine Sx.wl_nil ?_
  refine Sx.qn_then ?_
  refine Sx.wc_block ?_
  replace h := Sx.st_front 1 h
  obtain ⟨A17, c18, h⟩ := listS_open h
  replace h := Sx.st_front 6 h
  replace h := Sx.st_front 6 h
  replace h := Sx.st_front 10 h
  replace h := Sx.st_front 4 h
  replace h := Sx.st_front 4 h
  replace h := Sx.st_front 5 h
  replace h := Sx.st_front 6 h
  replace h := Sx.st_front 7 h
  replace h := Sx.st_front 10 h
  replace h := Sx.st_selT [true, true, true, true, true, true, true, true, true, false, false] h
  replace h : Sx.St w0 F0 (Sx.pcs [(b2, 4), (b14, 3), (b15, 3)] [[.bool false], [.int .i64 ((([] : List YI).length : Int))], [.int .i64 (sumF (runsOf (y7).st) ([] : List YI).length)]] ++ [Sx.blk g16 [.pointer (some ⟨g4, 0, none⟩)] 25, Sx.blk g4 [.slice (A17) ((runsOf (y7).st).length) (c18), .int .i64 ((((y7).st).length : Int)), .int .i64 ((y7).base)] 72, Sx.row k66 66 (A17) (c18) (runsOf (y7).st), Sx.blk b1 [.int .i64 (leave)] 3, Sx.blk b13 [.slice (A11) ((runsOf ((y7).st)).length) (cp12)] 33, Sx.row k66 66 (A11) (cp12) (runsOf ((y7).st))]) _ := h
  have hgs_ := Sx.gs_lt h rfl
  have hs0_ := Sx.stab_blk (i := 0) h rfl rfl
  have hs1_ := Sx.stab_blk (i := 1) h rfl rfl
  have hs2_ := Sx.stab_row (i := 2) h rfl rfl
  have hs3_ := Sx.stab_blk (i := 3) h rfl rfl
  have hs4_ := Sx.stab_blk (i := 4) h rfl rfl
  have hs5_ := Sx.stab_row (i := 5) h rfl rfl
  have hy0_ := runs_len (y7).st
  refine Sx.wc_range2 (α := YI) [(b2, 4), (b14, 3), (b15, 3)] (fun s_ => [[.bool false], [.int .i64 ((s_.length : Int))], [.int .i64 (sumF (runsOf (y7).st) s_.length)]]) (fun c_ s_ => match c_ with | .exit _ => [[.bool false], [.int .i64 ((s_.length : Int))], [.int .i64 (sumF (runsOf (y7).st) s_.length)]] | _ => [[.bool false], [.int .i64 ((s_.dropLast.length : Int))], [.int .i64 (sumF (runsOf (y7).st) s_.dropLast.length)]]) [Sx.blk g16 [.pointer (some ⟨g4, 0, none⟩)] 25, Sx.blk g4 [.slice (A17) ((runsOf (y7).st).length) (c18), .int .i64 ((((y7).st).length : Int)), .int .i64 ((y7).base)] 72, Sx.row k66 66 (A17) (c18) (runsOf (y7).st), Sx.blk b1 [.int .i64 (leave)] 3, Sx.blk b13 [.slice (A11) ((runsOf ((y7).st)).length) (cp12)] 33, Sx.row k66 66 (A11) (cp12) (runsOf ((y7).st))] (e1 := fun x_ => .int .i64 (x_.1)) (e2 := fun x_ => .agg #[.int .i64 (x_.2.f0), .int .i64 (x_.2.f1)]) (fun s_ => s_.length ≤ (runsOf (y7).st).length ∧ s_ = (eachL (runsOf (y7).st)).take s_.length) (fun c_ s_ => (c_ = .exit 0 ∧ ((s_.length : Nat) : Int) = leave) ∨ (c_ = .ret ∧ ¬ s_ = (eachL (runsOf (y7).st)).take s_.length)) h (fun _ => rfl) (fun c_ _ => by cases c_ <;> rfl) rfl ent44 rfl rfl (each_stops hgs_ hs0_ hs1_ hs2_.2 hs2_.1 (by omega) (fun k_ hk_ => by have := sumF_le (y7).st k_ hk_; omega) (fun k_ hk_ => by have := f0_le (y7).st k_ hk_; omega)) ⟨Nat.zero_le _, by simp⟩ ?_ ?_ ?_ ?_
  ·
   clear h
   intro l_ D_ oR oB od pre x w0 Qm Qr hngm hngr hnpm hnpr hJ hN hkc hmid hnorm hretr hexitr h
   obtain ⟨F0, hF0_⟩ : ∃ F_ : Nat → Prop, F_ = Sx.FX [(b2, 4), (b14, 3), (b15, 3)] l_ D_ := ⟨_, rfl⟩
   rw [← hF0_] at hkc hmid hnorm hretr hexitr h
   obtain ⟨hJ1, hJ2⟩ := hJ
   replace h : Sx.St w0 F0 ([Sx.obj l_ oR, Sx.obj D_ od, Sx.blk b2 [.bool false] 4, Sx.blk b14 [.int .i64 ((pre.length : Int))] 3, Sx.blk b15 [.int .i64 (sumF (runsOf (y7).st) pre.length)] 3] ++ []) w0 := h
   obtain ⟨Aw2_, en2_, rb1_⟩ : ∃ A_ : Option Addr, (∀ cs_ w_, Sx.St w0 F0 (cs_ ++ []) w_ → k66.C w_ (A_) (runsOf (y7).st).length (runsOf (y7).st)) ∧ (∀ cs_ w_, Sx.St w0 F0 cs_ w_ → ∀ j_, w_.cell? ⟨g4, j_, none⟩ = ([.slice (A_) ((runsOf (y7).st).length) (c18), .int .i64 ((((y7).st).length : Int)), .int .i64 ((y7).base)] : List Value)[j_]?) := ⟨_, fun cs_ w_ h_ => hs2_.2 w_ (hkc _ w_ h_), fun cs_ w_ h_ => hs1_ w_ (hkc _ w_ h_)⟩
   obtain ⟨Aw5_, en5_, rb4_⟩ : ∃ A_ : Option Addr, (∀ cs_ w_, Sx.St w0 F0 (cs_ ++ []) w_ → k66.C w_ (A_) (runsOf ((y7).st)).length (runsOf ((y7).st))) ∧ (∀ cs_ w_, Sx.St w0 F0 cs_ w_ → ∀ j_, w_.cell? ⟨b13, j_, none⟩ = ([.slice (A_) ((runsOf ((y7).st)).length) (cp12)] : List Value)[j_]?) := ⟨_, fun cs_ w_ h_ => hs5_.2 w_ (hkc _ w_ h_), fun cs_ w_ h_ => hs4_ w_ (hkc _ w_ h_)⟩
   have rb0_ : ∀ cs_ w_, Sx.St w0 F0 cs_ w_ → ∀ j_, w_.cell? ⟨g16, j_, none⟩ = ([.pointer (some ⟨g4, 0, none⟩)] : List Value)[j_]? := fun cs_ w_ h_ => hs0_ w_ (hkc _ w_ h_)
   have rb3_ : ∀ cs_ w_, Sx.St w0 F0 cs_ w_ → ∀ j_, w_.cell? ⟨b1, j_, none⟩ = ([.int .i64 (leave)] : List Value)[j_]? := fun cs_ w_ h_ => hs3_ w_ (hkc _ w_ h_)
   have hsb_ := sumF_le (y7).st pre.length hJ1
   have hfb_ := f0_le (y7).st pre.length hN
   have hsn_ := sumF_le (y7).st (pre.length + 1) hN
   refine Sx.ci_seq ?_
   refine Sx.ci_region (Sx.lax_round l_) (fun a_ w_ h_ => hngm a_ w_ h_) (by kernel_rfl) ?_
   refine Sx.wl_v rfl rfl (Sx.ov_assign _ rfl) ?_
   refine Sx.wl_nil ?_
   refine Sx.qi_then ?_
   refine Sx.ci_region (Sx.lax_round l_) (fun a_ w_ h_ => hngm a_ w_ h_) (by kernel_rfl) ?_
   refine Sx.wl_alloc _ h rfl rfl zo66 (fun b19 _ h => ?_)
   replace h : Sx.St _ _ (Sx.blk b19 [.int .i64 (0), .int .i64 (0)] 66 :: _) _ := h
   refine Sx.wl_storebN 0 [.int .i64 (x.2.f0), .int .i64 (x.2.f1)] [.int .i64 (x.2.f0), .int .i64 (x.2.f1)] h rfl rfl rfl rfl (by simp [Value.oneCell']) sh66 rfl rfl (fun _ h => ?_)
   refine Sx.wl_nil ?_
   replace h := Sx.st_front 1 h
   refine hmid _ _ _ h (fun w_ h => ?_)
   replace h : Sx.St w0 F0 ([Sx.obj l_ oB, Sx.blk b19 [.int .i64 (x.2.f0), .int .i64 (x.2.f1)] 66, Sx.obj D_ od, Sx.blk b2 [.bool false] 4, Sx.blk b14 [.int .i64 ((pre.length : Int))] 3, Sx.blk b15 [.int .i64 (sumF (runsOf (y7).st) pre.length)] 3] ++ []) w_ := h
   refine Sx.ci_block ?_
   refine Sx.ci_seq ?_
   refine Sx.ci_seq ?_
   refine Sx.ci_draw (fun w => Sx.St w0 F0 ([Sx.obj l_ oB, Sx.blk b19 [.int .i64 (x.2.f0), .int .i64 (x.2.f1)] 66, Sx.obj D_ od, Sx.blk b2 [.bool false] 4, Sx.blk b14 [.int .i64 ((pre.length : Int))] 3, Sx.blk b15 [.int .i64 (sumF (runsOf (y7).st) pre.length)] 3] ++ []) w) (Sx.lax_round l_) (fun a_ w_ h_ => hngr a_ w_ h_) (by kernel_rfl) (by kernel_rfl) ?_
   replace h := Sx.st_drew h
   refine Sx.wa_tk 0 rfl rfl rfl (Sx.st_selT [true, true, true, true, true, true] h) (fun w_ hS => Sx.ov_loadb 4 _ hS rfl rfl sh3 rfl) ?_ (hQ := (fun c_ _ w_ h_ => hnpr c_ _ _ w_ h_))
   refine Sx.wa_tk 1 rfl rfl rfl (Sx.st_selT [true, true, true, true, true, true] h) (fun w_ hS => Sx.ov_load1 ⟨b13, 0, none⟩ _ rfl sh33 ((rb4_ _ _ hS 0).trans rfl)) ?_ (hQ := (fun c_ _ w_ h_ => hnpr c_ _ _ w_ h_))
   refine Sx.wa_tk 2 rfl rfl rfl (Sx.st_selT [true, true, true, true, true, true] h) (fun w_ hS => Sx.ov_len _ _ _ _ _ rfl es33) ?_ (hQ := (fun c_ _ w_ h_ => hnpr c_ _ _ w_ h_))
   refine Sx.wa_tk 3 rfl rfl rfl (Sx.st_selT [true, true, true, true, true, true] h) (fun w_ hS => Sx.ov_bin _ rfl rfl (Sx.binR_geq)) ?_ (hQ := (fun c_ _ w_ h_ => hnpr c_ _ _ w_ h_))
   refine Sx.wa_tk 4 rfl rfl rfl (Sx.st_selT [true, true, true, true, true, true] h) (fun w_ hS => Sx.ov_move _ rfl) ?_ (hQ := (fun c_ _ w_ h_ => hnpr c_ _ _ w_ h_))
   refine Sx.wa_split 38 rfl (fun c20 => ?_) (fun c20 => ?_)
   ·
    exfalso
    omega
   ·
    refine Sx.wa_tk 5 rfl rfl rfl (Sx.st_selT [true, true, true, true, true, true] h) (fun w_ hS => Sx.ov_loadbN 1 [.int .i64 (x.2.f0), .int .i64 (x.2.f1)] hS rfl rfl sh66 rfl) ?_ (hQ := (fun c_ _ w_ h_ => hnpr c_ _ _ w_ h_))
    refine Sx.wa_tk 6 rfl rfl rfl (Sx.st_selT [true, true, true, true, true, true] h) (fun w_ hS => Sx.ov_load1 ⟨b13, 0, none⟩ _ rfl sh33 ((rb4_ _ _ hS 0).trans rfl)) ?_ (hQ := (fun c_ _ w_ h_ => hnpr c_ _ _ w_ h_))
    refine Sx.wa_tk 7 rfl rfl rfl (Sx.st_selT [true, true, true, true, true, true] h) (fun w_ hS => Sx.ov_loadb 4 _ hS rfl rfl sh3 rfl) ?_ (hQ := (fun c_ _ w_ h_ => hnpr c_ _ _ w_ h_))
    obtain ⟨ad21, rfl⟩ := Sx.C_some ((en5_ [_, _, _, _, _, _] _ h)) (k := pre.length) (by first | assumption | omega)
    refine Sx.wa_tk 8 rfl rfl rfl (Sx.st_selT [true, true, true, true, true, true] h) (fun w_ hS => Sx.ov_indexAddrN _ _ _ _ _ pre.length rfl rfl es33 rfl (by first | assumption | omega | (simp only [List.length_take, List.length_drop, List.length_set]; omega))) ?_ (hQ := (fun c_ _ w_ h_ => hnpr c_ _ _ w_ h_))
    refine Sx.wa_tk 9 rfl rfl rfl (Sx.st_selT [true, true, true, true, true, true] h) (fun w_ hS => by
        obtain ⟨cl24, _, hk23, hc22⟩ := Sx.C_cells ((en5_ [_, _, _, _, _, _] _ hS)) (z := z66) (k := pre.length) (by first | assumption | omega)
        obtain rfl := k66_open hk23
        exact Sx.ov_loadN _ [.int .i64 (((runsOf ((y7).st)).getD pre.length z66).f0), .int .i64 (((runsOf ((y7).st)).getD pre.length z66).f1)] rfl sh66 (by intro j u hu; rw [Deep.add_add]; exact (hc22 _ _ hu))) ?_ (hQ := (fun c_ _ w_ h_ => hnpr c_ _ _ w_ h_))
    refine Sx.wa_tk 10 rfl rfl rfl (Sx.st_selT [true, true, true, true, true, true] h) (fun w_ hS => Sx.ov_bin _ rfl rfl (Sx.binR_neS ((((x.2.f0 : Int) == (((runsOf ((y7).st)).getD pre.length z66).f0)) && (((x.2.f1 : Int) == (((runsOf ((y7).st)).getD pre.length z66).f1)) && true))) (¬ ((x.2.f0 : Int) = (((runsOf ((y7).st)).getD pre.length z66).f0) ∧ (x.2.f1 : Int) = (((runsOf ((y7).st)).getD pre.length z66).f1))) eqf66 eqs66 (by kernel_rfl) (by rw [Bool.eq_iff_iff]; simp))) ?_ (hQ := (fun c_ _ w_ h_ => hnpr c_ _ _ w_ h_))
    refine Sx.wa_tk 11 rfl rfl rfl (Sx.st_selT [true, true, true, true, true, true] h) (fun w_ hS => Sx.ov_pick_false _ rfl rfl) ?_ (hQ := (fun c_ _ w_ h_ => hnpr c_ _ _ w_ h_))
    refine Sx.wa_tk 12 rfl rfl rfl (Sx.st_selT [true, true, true, true, true, true] h) (fun w_ hS => Sx.ov_move _ rfl) ?_ (hQ := (fun c_ _ w_ h_ => hnpr c_ _ _ w_ h_))
    refine Sx.wa_split 46 rfl (fun c25 => ?_) (fun c25 => ?_)
    ·
     refine Sx.wa_sk 13 rfl rfl rfl (Sx.st_selT [true, true, true, true, true, true] h) ?_ (hQ := (fun c_ _ w_ h_ => hnpr c_ _ _ w_ h_))
     refine Sx.wa_sk 14 rfl rfl rfl (Sx.st_selT [true, true, true, true, true, true] h) ?_ (hQ := (fun c_ _ w_ h_ => hnpr c_ _ _ w_ h_))
     refine Sx.wa_sk 15 rfl rfl rfl (Sx.st_selT [true, true, true, true, true, true] h) ?_ (hQ := (fun c_ _ w_ h_ => hnpr c_ _ _ w_ h_))
     refine Sx.wa_tk 16 rfl rfl rfl (Sx.st_selT [true, true, true, true, true, true] h) (fun w_ hS => Sx.ov_pick_true _ rfl rfl) ?_ (hQ := (fun c_ _ w_ h_ => hnpr c_ _ _ w_ h_))
     refine Sx.wa_done (by kernel_rfl) ?_
     refine Sx.qi_then ?_
     refine Sx.ci_cond_true rfl ?_
     refine Sx.ci_seq ?_
     refine Sx.ci_region (Sx.lax_round l_) (fun a_ w_ h_ => hngr a_ w_ h_) (by kernel_rfl) ?_
     refine Sx.wl_storeb 3 _ [.bool false] h rfl rfl rfl rfl rfl rfl sh4 rfl rfl (fun _ h => ?_)
     refine Sx.wl_nil ?_
     refine Sx.qi_then ?_
     refine Sx.ci_ret ?_
     refine Sx.qn_then_ret ?_
     refine Sx.qn_block_ret ?_
     replace h := Sx.st_front 5 h
     replace h := Sx.st_front 5 h
     replace h := Sx.st_front 5 h
     replace h := Sx.st_front 5 h
     replace h := Sx.st_front 4 h
     replace h := Sx.st_selT [true, true, true, true, true, false] h
     replace h : Sx.St w0 F0 ([Sx.obj l_ oB, Sx.obj D_ od, Sx.blk b2 [.bool false] 4, Sx.blk b14 [.int .i64 ((pre.length : Int))] 3, Sx.blk b15 [.int .i64 (sumF (runsOf (y7).st) pre.length)] 3] ++ []) _ := h
     refine hretr _ _ (.inr ⟨rfl, fun e_ => ?_⟩) ?_
     · have h_ := each_last hN e_
       first | exact c25 ⟨by rw [h_], by rw [h_]⟩
     · show Sx.St w0 F0 [Sx.obj l_ oB, Sx.obj D_ od, Sx.blk b2 [.bool false] 4, Sx.blk b14 [.int .i64 (((pre ++ [x]).dropLast.length : Int))] 3, Sx.blk b15 [.int .i64 (sumF (runsOf (y7).st) (pre ++ [x]).dropLast.length)] 3] _
       rw [List.dropLast_concat]
       exact h
    ·
     refine Sx.wa_tk 13 rfl rfl rfl (Sx.st_selT [true, true, true, true, true, true] h) (fun w_ hS => Sx.ov_move _ rfl) ?_ (hQ := (fun c_ _ w_ h_ => hnpr c_ _ _ w_ h_))
     refine Sx.wa_tk 14 rfl rfl rfl (Sx.st_selT [true, true, true, true, true, true] h) (fun w_ hS => Sx.ov_loadb 5 _ hS rfl rfl sh3 rfl) ?_ (hQ := (fun c_ _ w_ h_ => hnpr c_ _ _ w_ h_))
     refine Sx.wa_tk 15 rfl rfl rfl (Sx.st_selT [true, true, true, true, true, true] h) (fun w_ hS => Sx.ov_bin _ rfl rfl (Sx.binR_neq)) ?_ (hQ := (fun c_ _ w_ h_ => hnpr c_ _ _ w_ h_))
     refine Sx.wa_tk 16 rfl rfl rfl (Sx.st_selT [true, true, true, true, true, true] h) (fun w_ hS => Sx.ov_pick_false _ rfl rfl) ?_ (hQ := (fun c_ _ w_ h_ => hnpr c_ _ _ w_ h_))
     refine Sx.wa_done (by kernel_rfl) ?_
     refine Sx.qi_then ?_
     refine Sx.ci_cond (by rfl) (fun c26 => ?_) (fun c26 => ?_)
     ·
      refine Sx.ci_seq ?_
      refine Sx.ci_region (Sx.lax_round l_) (fun a_ w_ h_ => hngr a_ w_ h_) (by kernel_rfl) ?_
      refine Sx.wl_storeb 3 _ [.bool false] h rfl rfl rfl rfl rfl rfl sh4 rfl rfl (fun _ h => ?_)
      refine Sx.wl_nil ?_
      refine Sx.qi_then ?_
      refine Sx.ci_ret ?_
      refine Sx.qn_then_ret ?_
      refine Sx.qn_block_ret ?_
      replace h := Sx.st_front 5 h
      replace h := Sx.st_front 5 h
      replace h := Sx.st_front 5 h
      replace h := Sx.st_front 5 h
      replace h := Sx.st_front 4 h
      replace h := Sx.st_selT [true, true, true, true, true, false] h
      replace h : Sx.St w0 F0 ([Sx.obj l_ oB, Sx.obj D_ od, Sx.blk b2 [.bool false] 4, Sx.blk b14 [.int .i64 ((pre.length : Int))] 3, Sx.blk b15 [.int .i64 (sumF (runsOf (y7).st) pre.length)] 3] ++ []) _ := h
      refine hretr _ _ (.inr ⟨rfl, fun e_ => ?_⟩) ?_
      · have h_ := each_last hN e_
        first | exact c25 ⟨by rw [h_], by rw [h_]⟩ | exact c26 (by rw [h_])
      · show Sx.St w0 F0 [Sx.obj l_ oB, Sx.obj D_ od, Sx.blk b2 [.bool false] 4, Sx.blk b14 [.int .i64 (((pre ++ [x]).dropLast.length : Int))] 3, Sx.blk b15 [.int .i64 (sumF (runsOf (y7).st) (pre ++ [x]).dropLast.length)] 3] _
        rw [List.dropLast_concat]
        exact h
     ·
      refine Sx.ci_skip ?_
      refine Sx.qi_then ?_
      refine Sx.ci_seq ?_
      refine Sx.ci_region (Sx.lax_round l_) (fun a_ w_ h_ => hngr a_ w_ h_) (by kernel_rfl) ?_
      refine Sx.wl_v rfl rfl (Sx.ov_loadb 5 _ h rfl rfl sh3 rfl) ?_
      refine Sx.wl_v rfl rfl (Sx.ov_fieldAddr _ ⟨b19, 0, none⟩ _ rfl fo66_0 rfl) ?_
      refine Sx.wl_v rfl rfl (Sx.ov_loadb 1 _ h rfl rfl sh3 rfl) ?_
      refine Sx.wl_v rfl rfl (Sx.ov_bin _ rfl rfl (Sx.binR_add (r := (sumF (runsOf (y7).st) pre.length) + x.2.f0) (Sx.w64 (by omega)))) ?_
      refine Sx.wl_storeb 5 _ [.int .i64 ((sumF (runsOf (y7).st) pre.length) + x.2.f0)] h rfl rfl rfl rfl rfl rfl sh3 rfl rfl (fun _ h => ?_)
      refine Sx.wl_nil ?_
      refine Sx.qi_then ?_
      refine Sx.ci_seq ?_
      refine Sx.ci_region (Sx.lax_round l_) (fun a_ w_ h_ => hngr a_ w_ h_) (by kernel_rfl) ?_
      refine Sx.wl_v rfl rfl (Sx.ov_loadb 4 _ h rfl rfl sh3 rfl) ?_
      refine Sx.wl_v rfl rfl (Sx.ov_bin _ rfl rfl (Sx.binR_add (r := ((pre.length : Int)) + 1) (Sx.w64 (by omega)))) ?_
      refine Sx.wl_storeb 4 _ [.int .i64 (((pre.length : Int)) + 1)] h rfl rfl rfl rfl rfl rfl sh3 rfl rfl (fun _ h => ?_)
      refine Sx.wl_nil ?_
      refine Sx.qi_then ?_
      refine Sx.ci_seq ?_
      refine Sx.ci_region (Sx.lax_round l_) (fun a_ w_ h_ => hngr a_ w_ h_) (by kernel_rfl) ?_
      refine Sx.wl_v rfl rfl (Sx.ov_loadb 4 _ h rfl rfl sh3 rfl) ?_
      refine Sx.wl_v rfl rfl (Sx.ov_load1 ⟨b1, 0, none⟩ _ rfl sh3 ((rb3_ _ _ h 0).trans rfl)) ?_
      refine Sx.wl_v rfl rfl (Sx.ov_bin _ rfl rfl (Sx.binR_eql)) ?_
      refine Sx.wl_nil ?_
      refine Sx.qi_then ?_
      refine Sx.ci_cond (by rfl) (fun c27 => ?_) (fun c27 => ?_)
      ·
       refine Sx.ci_exit ?_
       refine Sx.qn_block_other (by decide) ?_
       have hx_ : x = (sumF (runsOf (y7).st) pre.length, (runsOf (y7).st).getD pre.length z66) := Prod.ext (by have := c26; omega) (by have h_ := Decidable.not_not.1 c25; exact rn_eq h_.1 h_.2)
       have hnx_ := each_next hN hJ2 hx_
       have e1_ : (((pre ++ [x]).length : Nat) : Int) = (pre.length : Int) + 1 := by simp
       have e2_ : sumF (runsOf (y7).st) (pre ++ [x]).length = sumF (runsOf (y7).st) pre.length + x.2.f0 := by rw [List.length_append, hx_]; rfl
       replace h := Sx.st_front 5 h
       replace h := Sx.st_front 5 h
       replace h := Sx.st_front 5 h
       replace h := Sx.st_front 5 h
       replace h := Sx.st_front 4 h
       replace h := Sx.st_selT [true, true, true, true, true, false] h
       replace h : Sx.St w0 F0 ([Sx.obj l_ oB, Sx.obj D_ od, Sx.blk b2 [.bool false] 4, Sx.blk b14 [.int .i64 (((pre.length : Int)) + 1)] 3, Sx.blk b15 [.int .i64 ((sumF (runsOf (y7).st) pre.length) + x.2.f0)] 3] ++ []) _ := h
       refine hexitr _ _ _ (.inl ⟨rfl, by rw [e1_]; omega⟩) ?_
       show Sx.St w0 F0 [Sx.obj l_ oB, Sx.obj D_ od, Sx.blk b2 [.bool false] 4, Sx.blk b14 [.int .i64 (((pre ++ [x]).length : Int))] 3, Sx.blk b15 [.int .i64 (sumF (runsOf (y7).st) (pre ++ [x]).length)] 3] _
       rw [e1_, e2_]
       exact h
      ·
       refine Sx.ci_skip ?_
       refine Sx.qn_block_normal ?_
       have hx_ : x = (sumF (runsOf (y7).st) pre.length, (runsOf (y7).st).getD pre.length z66) := Prod.ext (by have := c26; omega) (by have h_ := Decidable.not_not.1 c25; exact rn_eq h_.1 h_.2)
       have hnx_ := each_next hN hJ2 hx_
       have e1_ : (((pre ++ [x]).length : Nat) : Int) = (pre.length : Int) + 1 := by simp
       have e2_ : sumF (runsOf (y7).st) (pre ++ [x]).length = sumF (runsOf (y7).st) pre.length + x.2.f0 := by rw [List.length_append, hx_]; rfl
       replace h := Sx.st_front 5 h
       replace h := Sx.st_front 5 h
       replace h := Sx.st_front 5 h
       replace h := Sx.st_front 5 h
       replace h := Sx.st_front 4 h
       replace h := Sx.st_selT [true, true, true, true, true, false] h
       replace h : Sx.St w0 F0 ([Sx.obj l_ oB, Sx.obj D_ od, Sx.blk b2 [.bool false] 4, Sx.blk b14 [.int .i64 (((pre.length : Int)) + 1)] 3, Sx.blk b15 [.int .i64 ((sumF (runsOf (y7).st) pre.length) + x.2.f0)] 3] ++ []) _ := h
       refine hnorm _ _ (⟨by simp only [List.length_append, List.length_cons, List.length_nil]; omega, hnx_⟩) ?_
       show Sx.St w0 F0 [Sx.obj l_ oB, Sx.obj D_ od, Sx.blk b2 [.bool false] 4, Sx.blk b14 [.int .i64 (((pre ++ [x]).length : Int))] 3, Sx.blk b15 [.int .i64 (sumF (runsOf (y7).st) (pre ++ [x]).length)] 3] _
       rw [e1_, e2_]
       exact h
  ·
   clear h
   intro D_ xs w hS hJ h
   obtain ⟨hJ1, hJ2⟩ := hJ
   replace h : Sx.St w0 F0 ([Sx.obj D_ (.deferred (some [])), Sx.blk b2 [.bool false] 4, Sx.blk b14 [.int .i64 ((xs.length : Int))] 3, Sx.blk b15 [.int .i64 (sumF (runsOf (y7).st) xs.length)] 3, Sx.blk g16 [.pointer (some ⟨g4, 0, none⟩)] 25, Sx.blk g4 [.slice (A17) ((runsOf (y7).st).length) (c18), .int .i64 ((((y7).st).length : Int)), .int .i64 ((y7).base)] 72, Sx.row k66 66 (A17) (c18) (runsOf (y7).st), Sx.blk b1 [.int .i64 (leave)] 3, Sx.blk b13 [.slice (A11) ((runsOf ((y7).st)).length) (cp12)] 33, Sx.row k66 66 (A11) (cp12) (runsOf ((y7).st))] ++ []) w := h
   refine Sx.qd_block_normal ?_
   refine Sx.qd_then ?_
   refine Sx.ci_seq ?_
   refine Sx.ci_region Sx.lax_wide (fun _ _ h_ => by cases (And.left h_)) (by kernel_rfl) ?_
   refine Sx.wl_v rfl rfl (Sx.ov_loadb 2 _ h rfl rfl sh3 rfl) ?_
   refine Sx.wl_v rfl rfl (Sx.ov_loadb 8 _ h rfl rfl sh33 rfl) ?_
   refine Sx.wl_v rfl rfl (Sx.ov_len _ _ _ _ _ rfl es33) ?_
   refine Sx.wl_v rfl rfl (Sx.ov_bin _ rfl rfl (Sx.binR_eql)) ?_
   refine Sx.wl_v rfl rfl (Sx.ov_move _ rfl) ?_
   refine Sx.wl_split 64 rfl (fun c28 => ?_) (fun c28 => ?_)
   ·
    refine Sx.wl_skip rfl rfl ?_
    refine Sx.wl_skip rfl rfl ?_
    refine Sx.wl_skip rfl rfl ?_
    refine Sx.wl_v rfl rfl (Sx.ov_pick_true _ rfl rfl) ?_
    refine Sx.wl_storeb 1 _ [.bool true] h rfl rfl rfl rfl rfl rfl sh4 rfl rfl (fun _ h => ?_)
    refine Sx.wl_nil ?_
    refine Sx.qi_then ?_
    refine Sx.ci_ret ?_
    have hD_ := Sx.st_obj (i := 0) h rfl
    replace h := Sx.st_putobj (.deferred none) h
    replace h : Sx.St w0 F0 ([Sx.obj D_ (.deferred none), Sx.blk b2 [.bool true] 4, Sx.blk b14 [.int .i64 ((xs.length : Int))] 3, Sx.blk b15 [.int .i64 (sumF (runsOf (y7).st) xs.length)] 3, Sx.blk g16 [.pointer (some ⟨g4, 0, none⟩)] 25, Sx.blk g4 [.slice (A17) ((runsOf (y7).st).length) (c18), .int .i64 ((((y7).st).length : Int)), .int .i64 ((y7).base)] 72, Sx.row k66 66 (A17) (c18) (runsOf (y7).st), Sx.blk b1 [.int .i64 (leave)] 3, Sx.blk b13 [.slice (A11) ((runsOf ((y7).st)).length) (cp12)] 33, Sx.row k66 66 (A11) (cp12) (runsOf ((y7).st))] ++ []) _ := h
    have hend_ := h
    replace h := Sx.st_selT [false, false, false, false, false, false, false, false, false, false] h
    refine Sx.qn_retD [_] hD_ ⟨⟨_, rfl, Sx.loadVar1 sh4 (by rw [Sx.blk_cell hend_ (i := 1) rfl]; rfl)⟩, trivial⟩ ?_
    exact ⟨rfl, h⟩
   ·
    refine Sx.wl_v rfl rfl (Sx.ov_loadb 2 _ h rfl rfl sh3 rfl) ?_
    refine Sx.wl_v rfl rfl (Sx.ov_loadb 7 _ h rfl rfl sh3 rfl) ?_
    refine Sx.wl_v rfl rfl (Sx.ov_bin _ rfl rfl (Sx.binR_eql)) ?_
    refine Sx.wl_v rfl rfl (Sx.ov_pick_false _ rfl rfl) ?_
    refine Sx.wl_storeb 1 _ [.bool (decide (((xs.length : Int) : Int) = leave))] h rfl rfl rfl rfl rfl rfl sh4 rfl rfl (fun _ h => ?_)
    refine Sx.wl_nil ?_
    refine Sx.qi_then ?_
    refine Sx.ci_ret ?_
    have hD_ := Sx.st_obj (i := 0) h rfl
    replace h := Sx.st_putobj (.deferred none) h
    replace h : Sx.St w0 F0 ([Sx.obj D_ (.deferred none), Sx.blk b2 [.bool (decide (((xs.length : Int) : Int) = leave))] 4, Sx.blk b14 [.int .i64 ((xs.length : Int))] 3, Sx.blk b15 [.int .i64 (sumF (runsOf (y7).st) xs.length)] 3, Sx.blk g16 [.pointer (some ⟨g4, 0, none⟩)] 25, Sx.blk g4 [.slice (A17) ((runsOf (y7).st).length) (c18), .int .i64 ((((y7).st).length : Int)), .int .i64 ((y7).base)] 72, Sx.row k66 66 (A17) (c18) (runsOf (y7).st), Sx.blk b1 [.int .i64 (leave)] 3, Sx.blk b13 [.slice (A11) ((runsOf ((y7).st)).length) (cp12)] 33, Sx.row k66 66 (A11) (cp12) (runsOf ((y7).st))] ++ []) _ := h
    have hend_ := h
    replace h := Sx.st_selT [false, false, false, false, false, false, false, false, false, false] h
    refine Sx.qn_retD [_] hD_ ⟨⟨_, rfl, Sx.loadVar1 sh4 (by rw [Sx.blk_cell hend_ (i := 1) rfl]; rfl)⟩, trivial⟩ ?_
    have b_ : (decide (((xs.length : Int) : Int) = leave)) = true := by first | (have hq_ := congrArg List.length hS; rw [eachL_len] at hq_; exact decide_eq_true (by omega)) | exact decide_eq_true (by omega)
    exact ⟨congrArg (fun z => Ending.returned (Value.bool z)) b_, h⟩
  ·
   clear h
   intro D_ pre w hS hx h
   exfalso
   rcases hx with ⟨e_, _⟩ | ⟨_, hx⟩
   · cases e_
   · obtain ⟨k_, hk_, rfl⟩ := hS
     exact hx (by rw [eachL_tl _ _ hk_])
  ·
   clear h
   intro id_ D_ pre w hS hx h
   rcases hx with ⟨e_, hlv⟩ | ⟨e_, _⟩
   · injection e_ with e_
     subst e_
     replace h : Sx.St w0 F0 ([Sx.obj D_ (.deferred (some [])), Sx.blk b2 [.bool false] 4, Sx.blk b14 [.int .i64 ((pre.length : Int))] 3, Sx.blk b15 [.int .i64 (sumF (runsOf (y7).st) pre.length)] 3, Sx.blk g16 [.pointer (some ⟨g4, 0, none⟩)] 25, Sx.blk g4 [.slice (A17) ((runsOf (y7).st).length) (c18), .int .i64 ((((y7).st).length : Int)), .int .i64 ((y7).base)] 72, Sx.row k66 66 (A17) (c18) (runsOf (y7).st), Sx.blk b1 [.int .i64 (leave)] 3, Sx.blk b13 [.slice (A11) ((runsOf ((y7).st)).length) (cp12)] 33, Sx.row k66 66 (A11) (cp12) (runsOf ((y7).st))] ++ []) w := h
     refine Sx.qd_block_exit ?_
     refine Sx.qd_then ?_
     refine Sx.ci_seq ?_
     refine Sx.ci_region Sx.lax_wide (fun _ _ h_ => by cases (And.left h_)) (by kernel_rfl) ?_
     refine Sx.wl_v rfl rfl (Sx.ov_loadb 2 _ h rfl rfl sh3 rfl) ?_
     refine Sx.wl_v rfl rfl (Sx.ov_loadb 8 _ h rfl rfl sh33 rfl) ?_
     refine Sx.wl_v rfl rfl (Sx.ov_len _ _ _ _ _ rfl es33) ?_
     refine Sx.wl_v rfl rfl (Sx.ov_bin _ rfl rfl (Sx.binR_eql)) ?_
     refine Sx.wl_v rfl rfl (Sx.ov_move _ rfl) ?_
     refine Sx.wl_split 64 rfl (fun c29 => ?_) (fun c29 => ?_)
     ·
      refine Sx.wl_skip rfl rfl ?_
      refine Sx.wl_skip rfl rfl ?_
      refine Sx.wl_skip rfl rfl ?_
      refine Sx.wl_v rfl rfl (Sx.ov_pick_true _ rfl rfl) ?_
      refine Sx.wl_storeb 1 _ [.bool true] h rfl rfl rfl rfl rfl rfl sh4 rfl rfl (fun _ h => ?_)
      refine Sx.wl_nil ?_
      refine Sx.qi_then ?_
      refine Sx.ci_ret ?_
      have hD_ := Sx.st_obj (i := 0) h rfl
      replace h := Sx.st_putobj (.deferred none) h
      replace h : Sx.St w0 F0 ([Sx.obj D_ (.deferred none), Sx.blk b2 [.bool true] 4, Sx.blk b14 [.int .i64 ((pre.length : Int))] 3, Sx.blk b15 [.int .i64 (sumF (runsOf (y7).st) pre.length)] 3, Sx.blk g16 [.pointer (some ⟨g4, 0, none⟩)] 25, Sx.blk g4 [.slice (A17) ((runsOf (y7).st).length) (c18), .int .i64 ((((y7).st).length : Int)), .int .i64 ((y7).base)] 72, Sx.row k66 66 (A17) (c18) (runsOf (y7).st), Sx.blk b1 [.int .i64 (leave)] 3, Sx.blk b13 [.slice (A11) ((runsOf ((y7).st)).length) (cp12)] 33, Sx.row k66 66 (A11) (cp12) (runsOf ((y7).st))] ++ []) _ := h
      have hend_ := h
      replace h := Sx.st_selT [false, false, false, false, false, false, false, false, false, false] h
      refine Sx.qn_retD [_] hD_ ⟨⟨_, rfl, Sx.loadVar1 sh4 (by rw [Sx.blk_cell hend_ (i := 1) rfl]; rfl)⟩, trivial⟩ ?_
      exact ⟨rfl, h⟩
     ·
      refine Sx.wl_v rfl rfl (Sx.ov_loadb 2 _ h rfl rfl sh3 rfl) ?_
      refine Sx.wl_v rfl rfl (Sx.ov_loadb 7 _ h rfl rfl sh3 rfl) ?_
      refine Sx.wl_v rfl rfl (Sx.ov_bin _ rfl rfl (Sx.binR_eql)) ?_
      refine Sx.wl_v rfl rfl (Sx.ov_pick_false _ rfl rfl) ?_
      refine Sx.wl_storeb 1 _ [.bool (decide (((pre.length : Int) : Int) = leave))] h rfl rfl rfl rfl rfl rfl sh4 rfl rfl (fun _ h => ?_)
      refine Sx.wl_nil ?_
      refine Sx.qi_then ?_
      refine Sx.ci_ret ?_
      have hD_ := Sx.st_obj (i := 0) h rfl
      replace h := Sx.st_putobj (.deferred none) h
      replace h : Sx.St w0 F0 ([Sx.obj D_ (.deferred none), Sx.blk b2 [.bool (decide (((pre.length : Int) : Int) = leave))] 4, Sx.blk b14 [.int .i64 ((pre.length : Int))] 3, Sx.blk b15 [.int .i64 (sumF (runsOf (y7).st) pre.length)] 3, Sx.blk g16 [.pointer (some ⟨g4, 0, none⟩)] 25, Sx.blk g4 [.slice (A17) ((runsOf (y7).st).length) (c18), .int .i64 ((((y7).st).length : Int)), .int .i64 ((y7).base)] 72, Sx.row k66 66 (A17) (c18) (runsOf (y7).st), Sx.blk b1 [.int .i64 (leave)] 3, Sx.blk b13 [.slice (A11) ((runsOf ((y7).st)).length) (cp12)] 33, Sx.row k66 66 (A11) (cp12) (runsOf ((y7).st))] ++ []) _ := h
      have hend_ := h
      replace h := Sx.st_selT [false, false, false, false, false, false, false, false, false, false] h
      refine Sx.qn_retD [_] hD_ ⟨⟨_, rfl, Sx.loadVar1 sh4 (by rw [Sx.blk_cell hend_ (i := 1) rfl]; rfl)⟩, trivial⟩ ?_
      have b_ : (decide (((pre.length : Int) : Int) = leave)) = true := by first | (have hq_ := congrArg List.length hS; rw [eachL_len] at hq_; exact decide_eq_true (by omega)) | exact decide_eq_true (by omega)
      exact ⟨congrArg (fun z => Ending.returned (Value.bool z)) b_, h⟩
   · cases e_
end Go.Proofs.Ytkliboeebookeaa.Runs.L
