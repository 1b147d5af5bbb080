/- The walk of RunsBack. -/
import Derived.Test.YtkliboeebookeaaProg
import Derived.Test.YtkliboeebookeaaSxGlue
import Derived.Test.YtkliboeebookeaaSxKinds
import Derived.Test.YtkliboeebookeaaRunsTh
import Derived.Test.YtkliboeebookeaaSxRuns
import Derived.Test.YtkliboeebookeaaSxRunsB
import Derived.Test.YtkliboeebookeaaSxRef
import Derived.Test.YtkliboeebookeaaSxPlain
import Derived.Test.YtkliboeebookeaaSxPlainB
import Derived.Test.YtkliboeebookeaaSxPlay
import Derived.Test.YtkliboeebookeaaSxAwake
namespace Go.Proofs.Ytkliboeebookeaa.Runs.L
open Go Go.RowKit Go.Proofs.YtkliboeebookeaaW.PrintWords Go.Proofs.Ytkliboeebookeaa.Kinds Go.Proofs.Ytkliboeebookeaa.Runs Go.Proofs.Ytkliboeebookeaa.Runs.B Go.Proofs.Ytkliboeebookeaa.Runs.C Go.Proofs.Ytkliboeebookeaa.Runs.D Go.Proofs.Ytkliboeebookeaa.Runs.E Go.Proofs.Ytkliboeebookeaa.Runs.F Go.Proofs.Ytkliboeebookeaa.Runs.G
set_option linter.unusedVariables false
set_option linter.unusedSimpArgs false
theorem ent11 : Sx.Ent Try.prog 11 := ⟨Try.f11, Try.func11, by kernel_rfl, by kernel_rfl⟩
theorem ent12 : Sx.Ent Try.prog 12 := ⟨Try.f12, Try.func12, by kernel_rfl, by kernel_rfl⟩
theorem ent13 : Sx.Ent Try.prog 13 := ⟨Try.f13, Try.func13, by kernel_rfl, by kernel_rfl⟩
theorem zo28 : Sx.zeroOf Try.prog 28 = some (.agg #[.slice (none) (0) (0), .int .i64 (0)]) := by kernel_rfl
theorem sh28 : Sx.shapeOf Try.prog 28 = some (true, 2) := by kernel_rfl
theorem ent16 : Sx.Ent Try.prog 16 := ⟨Try.f16, Try.func16, by kernel_rfl, by kernel_rfl⟩
theorem ent27 : Sx.Ent Try.prog 27 := ⟨Try.f27, Try.func27, by kernel_rfl, by kernel_rfl⟩
theorem fo55_2 : Sx.fieldOff Try.prog 55 2 = some 2 := by kernel_rfl
theorem sh3 : Sx.shapeOf Try.prog 3 = some (false, 1) := by kernel_rfl
theorem fo55_1 : Sx.fieldOff Try.prog 55 1 = some 1 := by kernel_rfl
theorem ent28 : Sx.Ent Try.prog 28 := ⟨Try.f28, Try.func28, by kernel_rfl, by kernel_rfl⟩
theorem ent14 : Sx.Ent Try.prog 14 := ⟨Try.f14, Try.func14, by kernel_rfl, by kernel_rfl⟩
theorem ent29 : Sx.Ent Try.prog 29 := ⟨Try.f29, Try.func29, by kernel_rfl, by kernel_rfl⟩
theorem ent15 : Sx.Ent Try.prog 15 := ⟨Try.f15, Try.func15, by kernel_rfl, by kernel_rfl⟩
theorem ent19 : Sx.Ent Try.prog 19 := ⟨Try.f19, Try.func19, by kernel_rfl, by kernel_rfl⟩
theorem ent30 : Sx.Ent Try.prog 30 := ⟨Try.f30, Try.func30, by kernel_rfl, by kernel_rfl⟩
theorem ent31 : Sx.Ent Try.prog 31 := ⟨Try.f31, Try.func31, by kernel_rfl, by kernel_rfl⟩

def okS (x : LS) : Prop := styleP x.base ∧ ∀ s ∈ x.st, styleP s
theorem okS_of {x y : LS} (h : x.st = y.st) (hy : okS y) : ∀ s ∈ x.st, styleP s := by rw [h]; exact hy.2
theorem near_style {x : LS} {i : Int} (h : okS x) (hn : ¬ (nearV x i).2 ≠ 0) : styleP (nearV x i).1 := by
  have h1 := near_ok hn
  unfold nearV
  rw [if_neg (by omega)]
  split
  · exact h.1
  · rename_i h2
    refine h.2 _ ?_
    have h2 : x.st.length ≠ 0 := h2
    simp only
    rw [List.getD_eq_getElem?_getD, List.getElem?_eq_getElem (by omega)]
    exact List.getElem_mem _
theorem insV_ok {x : LS} {i n : Int} (h : okS x) : okS (insV x i n).1 := by
  unfold insV
  split
  · exact h
  · rename_i h1
    split
    · exact h
    · split
      · exact h
      · refine ⟨h.1, fun s hs => ?_⟩
        rcases List.mem_append.1 hs with hs | hs
        · rcases List.mem_append.1 hs with hs | hs
          · exact h.2 _ (List.mem_of_mem_take hs)
          · rw [(List.mem_replicate.1 hs).2]; exact near_style h h1
        · exact h.2 _ (List.mem_of_mem_drop hs)
theorem delV_ok {x : LS} {a b : Int} (h : okS x) : okS (delV x a b).1 := by
  unfold delV
  split
  · exact h
  · refine ⟨?_, fun s hs => ?_⟩
    · show styleP (if x.st.length = 0 then x.base else x.st.getD 0 0)
      split
      · exact h.1
      · rename_i h2
        refine h.2 _ ?_
        rw [List.getD_eq_getElem?_getD, List.getElem?_eq_getElem (by omega)]
        exact List.getElem_mem _
    · rcases List.mem_append.1 hs with hs | hs
      · exact h.2 _ (List.mem_of_mem_take hs)
      · exact h.2 _ (List.mem_of_mem_drop hs)
theorem setV_ok {x : LS} {a b s : Int} (h : okS x) : okS (setV x a b s).1 := by
  unfold setV
  split
  · exact h
  · split
    · exact h
    · rename_i h1 h2
      refine ⟨h.1, fun q hs => ?_⟩
      rcases List.mem_append.1 hs with hs | hs
      · rcases List.mem_append.1 hs with hs | hs
        · exact h.2 _ (List.mem_of_mem_take hs)
        · rw [(List.mem_replicate.1 hs).2]; exact Classical.not_not.1 h2
      · exact h.2 _ (List.mem_of_mem_drop hs)
theorem lay_styles (l : List Rn) : ∀ room : Int, layE room l = 0 → ∀ r ∈ l, styleP r.f1 := by
  induction l with
  | nil => intro room _ r hr; cases hr
  | cons q l ih =>
    intro room h r hr
    rw [layE] at h
    split at h
    · cases h
    · split at h
      · cases h
      · split at h
        · cases h
        · rename_i h1 h2 h3
          rcases List.mem_cons.1 hr with rfl | hr
          · exact Classical.not_not.1 h2
          · exact ih _ h r hr
theorem layV_ok {x : LS} {i : Int} {l : List Rn} (h : okS x) : okS (layV x i l).1 := by
  unfold layV
  split
  · exact h
  · split
    · exact h
    · rename_i h1 h2
      refine ⟨h.1, fun q hs => ?_⟩
      rcases List.mem_append.1 hs with hs | hs
      · rcases List.mem_append.1 hs with hs | hs
        · exact h.2 _ (List.mem_of_mem_take hs)
        · obtain ⟨r, hr, hq⟩ := List.mem_flatMap.1 hs
          rw [(List.mem_replicate.1 hq).2]
          exact lay_styles l _ (Classical.not_not.1 h2) r hr
      · exact h.2 _ (List.mem_of_mem_drop hs)
theorem stepV_ok {x : LS} {o : S55} (h : okS x) : okS (stepV x o) := by
  unfold stepV
  split
  · exact insV_ok h
  · split
    · exact delV_ok h
    · split
      · exact setV_ok h
      · split
        · split
          · exact h
          · exact layV_ok h
        · exact h
theorem play_ok {x : LS} (h : okS x) (l : List S55) (k : Nat) : okS (playV x l k) := by
  induction l generalizing x k with
  | nil => cases k <;> exact h
  | cons o r ih =>
    cases k with
    | zero => exact h
    | succ k =>
      rw [playV]
      split
      · exact h
      · exact ih (stepV_ok h) k
theorem newL_ok {n s : Int} (h : smallP n s) : okS (newL n s) := by
  rw [small_newL h]
  exact ⟨h.2.2, fun q hq => by rw [(List.mem_replicate.1 hq).2]; exact h.2.2⟩
theorem ins_err {x : LS} {i n : Int} (h : ¬ (insV x i n).2 = 0) : (insV x i n).1 = x := by
  unfold insV at h ⊢
  split
  · rfl
  · rename_i h1
    rw [if_neg h1] at h
    split
    · rfl
    · rename_i h2
      rw [if_neg h2] at h
      split
      · rfl
      · rename_i h3
        rw [if_neg h3] at h
        exact absurd rfl h
theorem ins_ok {y : LS} {a b : Int} (h : (insV y a b).2 = 0) : 0 ≤ a ∧ a ≤ y.st.length ∧ 0 ≤ b ∧ (insV y a b).1 = ⟨y.st.take a.toNat ++ List.replicate b.toNat (nearV y a).1 ++ y.st.drop a.toNat, y.base⟩ := by
  by_cases h1 : (nearV y a).2 ≠ 0
  · unfold insV at h; rw [if_pos h1] at h; exact absurd h h1
  · have h2 := near_ok h1
    unfold insV at h ⊢
    rw [if_neg h1] at h ⊢
    by_cases h3 : b < 0
    · rw [if_pos h3] at h; cases h
    · rw [if_neg h3] at h ⊢
      by_cases h4 : 65536 - (y.st.length : Int) < b
      · rw [if_pos h4] at h; cases h
      · rw [if_neg h4]
        exact ⟨h2.1, h2.2, by omega, rfl⟩
theorem cut3 (P Q D : List Int) : (P ++ Q ++ D).take P.length ++ (P ++ Q ++ D).drop (P.length + Q.length) = P ++ D := by
  rw [List.append_assoc, List.take_left, ← List.drop_drop, List.drop_left, List.drop_left]
theorem back1 {y : LS} {a b : Int} (hb : 0 ≤ b) (h : (insV y a b).2 = 0) : ((insV y a b).1.st.length : Int) = y.st.length + b ∧ (delV (insV y a b).1 a (a + b)).2 = 0 ∧ (delV (insV y a b).1 a (a + b)).1.st = y.st ∧ 0 ≤ a ∧ a ≤ y.st.length := by
  obtain ⟨h1, h2, h3, h4⟩ := ins_ok h
  rw [h4]
  have hl : ((y.st.take a.toNat ++ List.replicate b.toNat (nearV y a).1 ++ y.st.drop a.toNat).length : Int) = y.st.length + b := by
    simp only [List.length_append, List.length_take, List.length_drop, List.length_replicate]; omega
  have hs : spanV ⟨y.st.take a.toNat ++ List.replicate b.toNat (nearV y a).1 ++ y.st.drop a.toNat, y.base⟩ a (a + b) = 0 := by
    unfold spanV
    rw [if_neg]
    show ¬ (a < 0 ∨ ((y.st.take a.toNat ++ List.replicate b.toNat (nearV y a).1 ++ y.st.drop a.toNat).length : Int) < a + b ∨ a + b < a)
    omega
  refine ⟨hl, ?_, ?_, h1, h2⟩
  · unfold delV; rw [if_neg (by rw [hs]; decide)]
  · unfold delV
    rw [if_neg (by rw [hs]; decide)]
    show (y.st.take a.toNat ++ List.replicate b.toNat (nearV y a).1 ++ y.st.drop a.toNat).take a.toNat ++ (y.st.take a.toNat ++ List.replicate b.toNat (nearV y a).1 ++ y.st.drop a.toNat).drop (a + b).toNat = y.st
    have e := cut3 (y.st.take a.toNat) (List.replicate b.toNat (nearV y a).1) (y.st.drop a.toNat)
    rw [List.length_take, List.length_replicate, Nat.min_eq_left (by omega), List.take_append_drop] at e
    rw [show (a + b).toNat = a.toNat + b.toNat by omega]
    exact e
theorem layE_fit (l : List Rn) : ∀ room : Int, (∀ r ∈ l, 1 ≤ r.f0 ∧ styleP r.f1) → lenR l ≤ room → layE room l = 0 := by
  induction l with
  | nil => intro room _ _; rfl
  | cons q l ih =>
    intro room h hl
    have hq := h q List.mem_cons_self
    have h2 := len_le (fun r hr => (h r (List.mem_cons_of_mem _ hr)).1 : ∀ r ∈ l, 1 ≤ r.f0)
    have e : lenR (q :: l) = q.f0 + lenR l := by simp [lenR]
    rw [layE, if_neg (by omega), if_neg (fun e => e hq.2), if_neg (by omega)]
    exact ih _ (fun r hr => h r (List.mem_cons_of_mem _ hr)) (by omega)
theorem runs_styles {τ : List Int} (h : ∀ s ∈ τ, styleP s) : ∀ r ∈ runsOf τ, 1 ≤ r.f0 ∧ styleP r.f1 := by
  intro r hr
  have h1 := pos_runs τ r hr
  refine ⟨h1, h _ ?_⟩
  rw [← expand_runs τ]
  exact List.mem_flatMap.2 ⟨r, hr, List.mem_replicate.2 ⟨by omega, rfl⟩⟩
theorem back2 {x : LS} {a b : Int} (hok : ∀ s ∈ x.st, styleP s) (h : spanV x a b = 0) : (layV (setV x a b 5).1 a (sliceV x a b)).2 = 0 ∧ (layV (setV x a b 5).1 a (sliceV x a b)).1.st = x.st := by
  have h1 : ¬ spanV x a b ≠ 0 := fun e => e h
  obtain ⟨h2, h3, h4⟩ := span_ok h1
  have e1 : (setV x a b 5).1 = ⟨x.st.take a.toNat ++ List.replicate (b - a).toNat 5 ++ x.st.drop b.toNat, x.base⟩ := by
    unfold setV; rw [if_neg h1, if_neg (by omega)]
  have e2 : sliceV x a b = runsOf (Runs.part x.st a.toNat b.toNat) := by unfold sliceV; rw [if_neg h1]
  have hl : (x.st.take a.toNat ++ List.replicate (b - a).toNat 5 ++ x.st.drop b.toNat).length = x.st.length := by
    simp only [List.length_append, List.length_take, List.length_drop, List.length_replicate]; omega
  have hpl : (Runs.part x.st a.toNat b.toNat).length = (b - a).toNat := by simp [Runs.part]; omega
  rw [e1, e2]
  have h5 : layE (((x.st.take a.toNat ++ List.replicate (b - a).toNat 5 ++ x.st.drop b.toNat).length : Int) - a) (runsOf (Runs.part x.st a.toNat b.toNat)) = 0 := by
    refine layE_fit _ _ (runs_styles fun s hs => hok s (List.mem_of_mem_take (List.mem_of_mem_drop hs))) ?_
    rw [lenR_runs, hpl, hl]; omega
  have e3 : layV ⟨x.st.take a.toNat ++ List.replicate (b - a).toNat 5 ++ x.st.drop b.toNat, x.base⟩ a (runsOf (Runs.part x.st a.toNat b.toNat)) = (⟨(x.st.take a.toNat ++ List.replicate (b - a).toNat 5 ++ x.st.drop b.toNat).take a.toNat ++ Runs.part x.st a.toNat b.toNat ++ (x.st.take a.toNat ++ List.replicate (b - a).toNat 5 ++ x.st.drop b.toNat).drop (a.toNat + (Runs.part x.st a.toNat b.toNat).length), x.base⟩, 0) := by
    unfold layV
    simp only
    rw [if_neg (by omega), if_neg (by rw [h5]; decide), expand_runs]
  rw [e3]
  refine ⟨rfl, ?_⟩
  show _ = x.st
  have h6 : (x.st.take a.toNat).length = a.toNat := by rw [List.length_take]; omega
  have e := cut3 (x.st.take a.toNat) (List.replicate (b - a).toNat 5) (x.st.drop b.toNat)
  rw [h6, List.length_replicate] at e
  have et : (x.st.take a.toNat ++ List.replicate (b - a).toNat 5 ++ x.st.drop b.toNat).take a.toNat = x.st.take a.toNat := by
    rw [List.append_assoc, List.take_left' h6]
  have ed : (x.st.take a.toNat ++ List.replicate (b - a).toNat 5 ++ x.st.drop b.toNat).drop (a.toNat + (b - a).toNat) = x.st.drop b.toNat := by
    rw [et] at e; exact List.append_cancel_left e
  show (x.st.take a.toNat ++ List.replicate (b - a).toNat 5 ++ x.st.drop b.toNat).take a.toNat ++ Runs.part x.st a.toNat b.toNat ++ (x.st.take a.toNat ++ List.replicate (b - a).toNat 5 ++ x.st.drop b.toNat).drop (a.toNat + (Runs.part x.st a.toNat b.toNat).length) = x.st
  rw [hpl, et, ed]
  unfold Runs.part
  rw [show x.st.take a.toNat = (x.st.take b.toNat).take a.toNat by rw [List.take_take, Nat.min_eq_left (by omega)], List.take_append_drop, List.take_append_drop]
theorem sameB_false {a b : List Int} (h : sameB (runsOf a) (runsOf b) = false) (e : a = b) : False := by
  subst e; rw [sameB_refl] at h; cases h
theorem slice_le2 (y : LS) (a b : Int) (h : y.st.length ≤ 65536) : (sliceV y a b).length ≤ 1099511627776 := by
  unfold sliceV
  split
  · simp
  · refine Nat.le_trans (runs_len _) ?_
    simp [Runs.part]; omega

set_option maxHeartbeats 1000000 in
set_option maxRecDepth 100000 in
theorem RunsBack_calls {w0 w : World} {F0 : Nat → Prop} {R : List Sx.HP} {v0 : World} (n : Int) (script : List S55) (Ascript : Option Addr) (cscript : Nat) (o : S55) (Ao0 : Option Addr) (co0 : Nat) (hv : Sx.RO v0 w0 F0) (hlscript : script.length ≤ cscript) (hCscript : k55.C v0 Ascript script.length script) (hmscript : script.length ≤ 9223372036854775807) (hlo0 : o.f4.length ≤ co0) (hCo0 : k66.C v0 Ao0 o.f4.length o.f4) (h : Sx.St w0 F0 ([] ++ R) w) : Calls Try.prog 7 #[.int .i64 (n), .slice (Ascript) (script.length) (cscript), .agg #[.int .i64 ((o).f0), .int .i64 ((o).f1), .int .i64 ((o).f2), .int .i64 ((o).f3), .slice (Ao0) (((o).f4).length) (co0)]] w (fun e w1 => e = .returned (.bool true) ∧ Sx.St w0 F0 R w1) := by
  refine Sx.calls_fn (vs := [.int .i64 (n), .slice (Ascript) (script.length) (cscript), .agg #[.int .i64 ((o).f0), .int .i64 ((o).f1), .int .i64 ((o).f2), .int .i64 ((o).f3), .slice (Ao0) (((o).f4).length) (co0)]]) Try.func7 rfl Try.ntmps7 rfl ?_
  refine Sx.wc_seq ?_
  refine Sx.wc_region ?_
  refine Sx.wl_box _ h rfl rfl rfl (fun b1 _ h => ?_)
  replace h : Sx.St _ _ (Sx.blk b1 [.int .i64 ((o).f0), .int .i64 ((o).f1), .int .i64 ((o).f2), .int .i64 ((o).f3), .slice (Ao0) (((o).f4).length) (co0)] 55 :: _) _ := h
  refine Sx.wl_v rfl rfl (Sx.ov_assign _ rfl) ?_
  refine Sx.wl_nil ?_
  refine Sx.qn_then ?_
  refine Sx.wc_seq ?_
  refine Sx.wc_seq ?_
  refine Sx.wc_region ?_
  refine Sx.wl_call _ rfl rfl rfl ent11 (awake_calls (R := [Sx.blk b1 [.int .i64 ((o).f0), .int .i64 ((o).f1), .int .i64 ((o).f2), .int .i64 ((o).f3), .slice (Ao0) (((o).f4).length) (co0)] 55] ++ R) h) ?_
  rintro e_ w_ ⟨rfl, h⟩
  refine ⟨_, rfl, ?_⟩
  refine Sx.wl_v rfl rfl (Sx.ov_notb _ rfl) ?_
  refine Sx.wl_nil ?_
  refine Sx.qn_then ?_
  refine Sx.wc_cond_false rfl ?_
  refine Sx.wc_skip ?_
  refine Sx.qn_then ?_
  refine Sx.wc_seq ?_
  refine Sx.wc_seq ?_
  refine Sx.wc_region ?_
  refine Sx.wl_v rfl rfl (Sx.ov_move _ rfl) ?_
  refine Sx.wl_call _ rfl rfl rfl ent12 (small_calls (R := [Sx.blk b1 [.int .i64 ((o).f0), .int .i64 ((o).f1), .int .i64 ((o).f2), .int .i64 ((o).f3), .slice (Ao0) (((o).f4).length) (co0)] 55] ++ R) n 1 h) ?_
  rintro e_ w_ ⟨rfl, h⟩
  refine ⟨_, rfl, ?_⟩
  refine Sx.wl_v rfl rfl (Sx.ov_not _ (¬ (smallP n 1)) rfl (by first | exact decide_not.symm | simp)) ?_
  refine Sx.wl_nil ?_
  refine Sx.qn_then ?_
  refine Sx.wc_cond (by rfl) (fun c2 => ?_) (fun c2 => ?_)
  · refine Sx.wc_seq ?_
    refine Sx.wc_region ?_
    refine Sx.wl_v rfl rfl (Sx.ov_assign _ rfl) ?_
    refine Sx.wl_nil ?_
    refine Sx.qn_then ?_
    refine Sx.wc_ret ?_
    refine Sx.qn_then_ret ?_
    replace h := Sx.st_selT [false] h
    refine Sx.qn_ret [_] ⟨rfl, trivial⟩ ?_
    exact ⟨rfl, h⟩
  · refine Sx.wc_skip ?_
    refine Sx.qn_then ?_
    refine Sx.wc_seq ?_
    refine Sx.wc_region ?_
    refine Sx.wl_v rfl rfl (Sx.ov_move _ rfl) ?_
    refine Sx.wl_v rfl rfl (Sx.ov_move _ rfl) ?_
    refine Sx.wl_call _ rfl rfl rfl ent13 (played_calls (R := [Sx.blk b1 [.int .i64 ((o).f0), .int .i64 ((o).f1), .int .i64 ((o).f2), .int .i64 ((o).f3), .slice (Ao0) (((o).f4).length) (co0)] 55] ++ R) n 1 (script) (Ascript) (cscript) hv hlscript hCscript (by omega) (by exact small_new (by omega)) h) ?_
    rintro e_ w_ ⟨g3, A4, cp5, rfl, hl8, h⟩
    refine ⟨_, rfl, ?_⟩
    generalize hy7 : playV (newL n 1) (script) 40 = y6 at h hl8 ⊢
    have hy6 := runs_len y6.st
    have hok_ : okS y6 := by rw [← hy7]; exact play_ok (newL_ok (by omega)) _ _
    refine Sx.wl_v rfl rfl (Sx.ov_move _ rfl) ?_
    refine Sx.wl_v rfl rfl (Sx.ov_extract [.pointer (some ⟨g3, 0, none⟩), .agg #[.slice (A4) (((y6).st).length) (cp5), .int .i64 ((y6).base)]] _ rfl rfl) ?_
    refine Sx.wl_v rfl rfl (Sx.ov_extract [.pointer (some ⟨g3, 0, none⟩), .agg #[.slice (A4) (((y6).st).length) (cp5), .int .i64 ((y6).base)]] _ rfl rfl) ?_
    refine Sx.wl_alloc _ h rfl rfl zo28 (fun b9 _ h => ?_)
    replace h : Sx.St _ _ (Sx.blk b9 [.slice (none) (0) (0), .int .i64 (0)] 28 :: _) _ := h
    refine Sx.wl_v rfl rfl (Sx.ov_assign _ rfl) ?_
    refine Sx.wl_storebN 0 [.slice (A4) (((y6).st).length) (cp5), .int .i64 ((y6).base)] [.slice (A4) (((y6).st).length) (cp5), .int .i64 ((y6).base)] h rfl rfl rfl rfl (by simp [Value.oneCell']) sh28 rfl rfl (fun _ h => ?_)
    refine Sx.wl_nil ?_
    refine Sx.qn_then ?_
    refine Sx.wc_seq ?_
    refine Sx.wc_seq ?_
    refine Sx.wc_region ?_
    refine Sx.wl_v rfl rfl (Sx.ov_move _ rfl) ?_
    refine Sx.wl_v rfl rfl (Sx.ov_bin (.bool false) rfl rfl (Sx.binR_eqnil Try.underlying25)) ?_
    refine Sx.wl_nil ?_
    refine Sx.qn_then ?_
    refine Sx.wc_cond_false rfl ?_
    refine Sx.wc_skip ?_
    refine Sx.qn_then ?_
    refine Sx.wc_seq ?_
    refine Sx.wc_region ?_
    refine Sx.wl_v rfl rfl (Sx.ov_move _ rfl) ?_
    replace h := Sx.st_front 1 h
    refine Sx.wl_call _ rfl rfl rfl ent16 (Runs_calls g3 y6 (by refine Nat.le_trans (m := 65536) ?_ (by decide); omega) h) ?_
    rintro e_ w_ ⟨A10, cp11, rfl, h⟩
    refine ⟨_, rfl, ?_⟩
    refine Sx.wl_v rfl rfl (Sx.ov_assign _ rfl) ?_
    refine Sx.wl_nil ?_
    refine Sx.qn_then ?_
    refine Sx.wc_seq ?_
    refine Sx.wc_region ?_
    refine Sx.wl_v rfl rfl (Sx.ov_move _ rfl) ?_
    refine Sx.wl_call _ rfl rfl rfl ent27 (Copy_calls g3 y6 (by omega) h) ?_
    rintro e_ w_ ⟨g12, rfl, h⟩
    refine ⟨_, rfl, ?_⟩
    refine Sx.wl_v rfl rfl (Sx.ov_assign _ rfl) ?_
    refine Sx.wl_nil ?_
    refine Sx.qn_then ?_
    refine Sx.wc_seq ?_
    refine Sx.wc_seq ?_
    refine Sx.wc_region ?_
    refine Sx.wl_v rfl rfl (Sx.ov_move _ rfl) ?_
    refine Sx.wl_v rfl rfl (Sx.ov_bin (.bool false) rfl rfl (Sx.binR_eqnil Try.underlying25)) ?_
    refine Sx.wl_nil ?_
    refine Sx.qn_then ?_
    refine Sx.wc_cond_false rfl ?_
    refine Sx.wc_skip ?_
    refine Sx.qn_then ?_
    refine Sx.wc_seq ?_
    refine Sx.wc_seq ?_
    refine Sx.wc_region ?_
    refine Sx.wl_v rfl rfl (Sx.ov_fieldAddr _ ⟨b1, 2, none⟩ _ rfl fo55_2 rfl) ?_
    refine Sx.wl_v rfl rfl (Sx.ov_loadb 5 _ h rfl rfl sh3 rfl) ?_
    refine Sx.wl_v rfl rfl (Sx.ov_bin _ rfl rfl (Sx.binR_geq)) ?_
    refine Sx.wl_v rfl rfl (Sx.ov_move _ rfl) ?_
    refine Sx.wl_split 35 rfl (fun c13 => ?_) (fun c13 => ?_)
    · refine Sx.wl_v rfl rfl (Sx.ov_fieldAddr _ ⟨b1, 2, none⟩ _ rfl fo55_2 rfl) ?_
      refine Sx.wl_v rfl rfl (Sx.ov_loadb 5 _ h rfl rfl sh3 rfl) ?_
      refine Sx.wl_v rfl rfl (Sx.ov_bin _ rfl rfl (Sx.binR_lss)) ?_
      refine Sx.wl_v rfl rfl (Sx.ov_pick_true _ rfl rfl) ?_
      refine Sx.wl_v rfl rfl (Sx.ov_move _ rfl) ?_
      refine Sx.wl_split 40 rfl (fun c14 => ?_) (fun c14 => ?_)
      · refine Sx.wl_v rfl rfl (Sx.ov_move _ rfl) ?_
        refine Sx.wl_v rfl rfl (Sx.ov_fieldAddr _ ⟨b1, 1, none⟩ _ rfl fo55_1 rfl) ?_
        refine Sx.wl_v rfl rfl (Sx.ov_loadb 5 _ h rfl rfl sh3 rfl) ?_
        refine Sx.wl_v rfl rfl (Sx.ov_fieldAddr _ ⟨b1, 2, none⟩ _ rfl fo55_2 rfl) ?_
        refine Sx.wl_v rfl rfl (Sx.ov_loadb 5 _ h rfl rfl sh3 rfl) ?_
        refine Sx.wl_call _ rfl rfl rfl ent28 (Insert_calls g3 y6 ((o).f1) ((o).f2) (by omega) h) ?_
        rintro e_ w_ ⟨rfl, h⟩
        refine ⟨_, rfl, ?_⟩
        have hln15 : ((insV y6 ((o).f1) ((o).f2)).1).st.length ≤ 65536 := insV_len (by omega)
        refine Sx.wl_v rfl rfl (Sx.ov_bin _ rfl rfl (Sx.binR_eql)) ?_
        refine Sx.wl_v rfl rfl (Sx.ov_pick_true _ rfl rfl) ?_
        refine Sx.wl_nil ?_
        refine Sx.qn_then ?_
        refine Sx.wc_cond (by rfl) (fun c16 => ?_) (fun c16 => ?_)
        · have hbk := back1 (y := y6) (a := o.f1) (b := o.f2) (by omega) (by first | assumption | omega)
          have hst_ := okS_of hbk.2.2.1 hok_
          have hXy_ := hbk.2.2.1
          refine Sx.wc_seq ?_
          refine Sx.wc_draw (fun w => Sx.St w0 F0 ([listS g12 (y6), Sx.row k66 66 (A10) (cp11) (runsOf (y6).st), Sx.blk b9 [.slice (A4) (((y6).st).length) (cp5), .int .i64 ((y6).base)] 28, Sx.row (Kd.int .i64) 3 (A4) (cp5) ((y6).st), Sx.blk b1 [.int .i64 ((o).f0), .int .i64 ((o).f1), .int .i64 ((o).f2), .int .i64 ((o).f3), .slice (Ao0) (((o).f4).length) (co0)] 55] ++ R) w) (by kernel_rfl) ?_
          replace h := Sx.st_drew h
          refine Sx.wa_take 0 rfl (by kernel_rfl) (by kernel_rfl) (by kernel_rfl) (fun _ _ _ h => h) rfl rfl (Sx.st_selT [false, true, true, true, true, true] h) (fun w_ hS => Sx.ov_move _ rfl) ?_
          refine Sx.wa_take 2 rfl (by kernel_rfl) (by kernel_rfl) (by kernel_rfl) (fun _ _ _ h => h) rfl rfl (Sx.st_selT [false, true, true, true, true, true] h) (fun w_ hS => Sx.ov_move _ rfl) ?_
          refine Sx.wa_take 4 rfl (by kernel_rfl) (by kernel_rfl) (by kernel_rfl) (fun _ _ _ h => h) rfl rfl (Sx.st_selT [false, true, true, true, true, true] h) (fun w_ hS => Sx.ov_fieldAddr _ ⟨b1, 2, none⟩ _ rfl fo55_2 rfl) ?_
          refine Sx.wa_take 5 rfl (by kernel_rfl) (by kernel_rfl) (by kernel_rfl) (fun _ _ _ h => h) rfl rfl (Sx.st_selT [false, true, true, true, true, true] h) (fun w_ hS => Sx.ov_loadb 4 _ hS rfl rfl sh3 rfl) ?_
          refine Sx.wa_one 1 rfl (by kernel_rfl) ?_
          refine Sx.wl_call _ rfl rfl rfl ent14 (Len_calls g3 ((insV y6 ((o).f1) ((o).f2)).1)   h) ?_
          rintro e_ w_ ⟨rfl, h⟩
          refine ⟨_, rfl, ?_⟩
          refine Sx.wl_nil ?_
          refine Sx.qn_wa (Sx.st_selT [false, true, true, true, true, true] h) ?_
          refine Sx.wa_one 3 rfl (by kernel_rfl) ?_
          replace h := Sx.st_front 1 h
          refine Sx.wl_call _ rfl rfl rfl ent14 (Len_calls g12 y6   h) ?_
          rintro e_ w_ ⟨rfl, h⟩
          refine ⟨_, rfl, ?_⟩
          refine Sx.wl_nil ?_
          refine Sx.qn_wa (Sx.st_selT [true, false, true, true, true, true] h) ?_
          refine Sx.wa_take 6 rfl (by kernel_rfl) (by kernel_rfl) (by kernel_rfl) (fun _ _ _ h => h) rfl rfl (Sx.st_selT [true, false, true, true, true, true] h) (fun w_ hS => Sx.ov_bin _ rfl rfl (Sx.binR_add (r := ((((y6).st.length) : Int)) + ((o).f2)) (Sx.w64 (by omega)))) ?_
          refine Sx.wa_take 7 rfl (by kernel_rfl) (by kernel_rfl) (by kernel_rfl) (fun _ _ _ h => h) rfl rfl (Sx.st_selT [true, false, true, true, true, true] h) (fun w_ hS => Sx.ov_bin _ rfl rfl (Sx.binR_neq)) ?_
          refine Sx.wa_take 8 rfl (by kernel_rfl) (by kernel_rfl) (by kernel_rfl) (fun _ _ _ h => h) rfl rfl (Sx.st_selT [true, false, true, true, true, true] h) (fun w_ hS => Sx.ov_move _ rfl) ?_
          refine Sx.wa_split 57 rfl (fun c17 => ?_) (fun c17 => ?_)
          · omega
          · refine Sx.wa_take 9 rfl (by kernel_rfl) (by kernel_rfl) (by kernel_rfl) (fun _ _ _ h => h) rfl rfl (Sx.st_selT [true, false, true, true, true, true] h) (fun w_ hS => Sx.ov_move _ rfl) ?_
            refine Sx.wa_take 10 rfl (by kernel_rfl) (by kernel_rfl) (by kernel_rfl) (fun _ _ _ h => h) rfl rfl (Sx.st_selT [true, false, true, true, true, true] h) (fun w_ hS => Sx.ov_fieldAddr _ ⟨b1, 1, none⟩ _ rfl fo55_1 rfl) ?_
            refine Sx.wa_take 11 rfl (by kernel_rfl) (by kernel_rfl) (by kernel_rfl) (fun _ _ _ h => h) rfl rfl (Sx.st_selT [true, false, true, true, true, true] h) (fun w_ hS => Sx.ov_loadb 4 _ hS rfl rfl sh3 rfl) ?_
            refine Sx.wa_take 12 rfl (by kernel_rfl) (by kernel_rfl) (by kernel_rfl) (fun _ _ _ h => h) rfl rfl (Sx.st_selT [true, false, true, true, true, true] h) (fun w_ hS => Sx.ov_fieldAddr _ ⟨b1, 1, none⟩ _ rfl fo55_1 rfl) ?_
            refine Sx.wa_take 13 rfl (by kernel_rfl) (by kernel_rfl) (by kernel_rfl) (fun _ _ _ h => h) rfl rfl (Sx.st_selT [true, false, true, true, true, true] h) (fun w_ hS => Sx.ov_loadb 4 _ hS rfl rfl sh3 rfl) ?_
            refine Sx.wa_take 14 rfl (by kernel_rfl) (by kernel_rfl) (by kernel_rfl) (fun _ _ _ h => h) rfl rfl (Sx.st_selT [true, false, true, true, true, true] h) (fun w_ hS => Sx.ov_fieldAddr _ ⟨b1, 2, none⟩ _ rfl fo55_2 rfl) ?_
            refine Sx.wa_take 15 rfl (by kernel_rfl) (by kernel_rfl) (by kernel_rfl) (fun _ _ _ h => h) rfl rfl (Sx.st_selT [true, false, true, true, true, true] h) (fun w_ hS => Sx.ov_loadb 4 _ hS rfl rfl sh3 rfl) ?_
            refine Sx.wa_take 16 rfl (by kernel_rfl) (by kernel_rfl) (by kernel_rfl) (fun _ _ _ h => h) rfl rfl (Sx.st_selT [true, false, true, true, true, true] h) (fun w_ hS => Sx.ov_bin _ rfl rfl (Sx.binR_add (r := ((o).f1) + ((o).f2)) (Sx.w64 (by omega)))) ?_
            refine Sx.wa_one 17 rfl (by kernel_rfl) ?_
            replace h := Sx.st_front 1 h
            refine Sx.wl_call _ rfl rfl rfl ent29 (Delete_calls g3 ((insV y6 ((o).f1) ((o).f2)).1) ((o).f1) (((o).f1) + ((o).f2)) (by omega) h) ?_
            rintro e_ w_ ⟨rfl, h⟩
            refine ⟨_, rfl, ?_⟩
            have hln18 : ((delV ((insV y6 ((o).f1) ((o).f2)).1) ((o).f1) (((o).f1) + ((o).f2))).1).st.length ≤ 65536 := delV_len (by omega)
            refine Sx.wl_nil ?_
            refine Sx.qn_wa (Sx.st_selT [false, true, true, true, true, true] h) ?_
            refine Sx.wa_take 18 rfl (by kernel_rfl) (by kernel_rfl) (by kernel_rfl) (fun _ _ _ h => h) rfl rfl (Sx.st_selT [false, true, true, true, true, true] h) (fun w_ hS => Sx.ov_bin _ rfl rfl (Sx.binR_neq)) ?_
            refine Sx.wa_take 19 rfl (by kernel_rfl) (by kernel_rfl) (by kernel_rfl) (fun _ _ _ h => h) rfl rfl (Sx.st_selT [false, true, true, true, true, true] h) (fun w_ hS => Sx.ov_pick_false _ rfl rfl) ?_
            refine Sx.wa_take 20 rfl (by kernel_rfl) (by kernel_rfl) (by kernel_rfl) (fun _ _ _ h => h) rfl rfl (Sx.st_selT [false, true, true, true, true, true] h) (fun w_ hS => Sx.ov_move _ rfl) ?_
            refine Sx.wa_split 69 rfl (fun c19 => ?_) (fun c19 => ?_)
            · omega
            · refine Sx.wa_take 21 rfl (by kernel_rfl) (by kernel_rfl) (by kernel_rfl) (fun _ _ _ h => h) rfl rfl (Sx.st_selT [false, true, true, true, true, true] h) (fun w_ hS => Sx.ov_move _ rfl) ?_
              refine Sx.wa_take 23 rfl (by kernel_rfl) (by kernel_rfl) (by kernel_rfl) (fun _ _ _ h => h) rfl rfl (Sx.st_selT [false, true, true, true, true, true] h) (fun w_ hS => Sx.ov_move _ rfl) ?_
              refine Sx.wa_one 22 rfl (by kernel_rfl) ?_
              refine Sx.wl_call _ rfl rfl rfl ent16 (Runs_calls g3 ((delV ((insV y6 ((o).f1) ((o).f2)).1) ((o).f1) (((o).f1) + ((o).f2))).1) (by refine Nat.le_trans (m := 65536) ?_ (by decide); omega) h) ?_
              rintro e_ w_ ⟨A20, cp21, rfl, h⟩
              refine ⟨_, rfl, ?_⟩
              refine Sx.wl_nil ?_
              refine Sx.qn_wa (Sx.st_selT [false, false, true, true, true, true, true] h) ?_
              refine Sx.wa_one 24 rfl (by kernel_rfl) ?_
              refine Sx.wl_call _ rfl rfl rfl ent15 (rSame_calls (R := [listS g3 ((delV ((insV y6 ((o).f1) ((o).f2)).1) ((o).f1) (((o).f1) + ((o).f2))).1), Sx.row k66 66 (A20) (cp21) (runsOf ((delV ((insV y6 ((o).f1) ((o).f2)).1) ((o).f1) (((o).f1) + ((o).f2))).1).st), listS g12 (y6), Sx.row k66 66 (A10) (cp11) (runsOf (y6).st), Sx.blk b9 [.slice (A4) (((y6).st).length) (cp5), .int .i64 ((y6).base)] 28, Sx.row (Kd.int .i64) 3 (A4) (cp5) ((y6).st), Sx.blk b1 [.int .i64 ((o).f0), .int .i64 ((o).f1), .int .i64 ((o).f2), .int .i64 ((o).f3), .slice (Ao0) (((o).f4).length) (co0)] 55] ++ R) (runsOf ((delV ((insV y6 ((o).f1) ((o).f2)).1) ((o).f1) (((o).f1) + ((o).f2))).1).st) (runsOf (y6).st) (A20) (A10) (cp21) (cp11) (by refine Nat.le_trans (runs_len _) (Nat.le_trans (m := 65536) ?_ (by decide)); omega) (by refine Nat.le_trans (runs_len _) (Nat.le_trans (m := 65536) ?_ (by decide)); omega) (Sx.row_reads_at (R := [listS g3 ((delV ((insV y6 ((o).f1) ((o).f2)).1) ((o).f1) (((o).f1) + ((o).f2))).1), Sx.row k66 66 (A20) (cp21) (runsOf ((delV ((insV y6 ((o).f1) ((o).f2)).1) ((o).f1) (((o).f1) + ((o).f2))).1).st), listS g12 (y6), Sx.row k66 66 (A10) (cp11) (runsOf (y6).st), Sx.blk b9 [.slice (A4) (((y6).st).length) (cp5), .int .i64 ((y6).base)] 28, Sx.row (Kd.int .i64) 3 (A4) (cp5) ((y6).st), Sx.blk b1 [.int .i64 ((o).f0), .int .i64 ((o).f1), .int .i64 ((o).f2), .int .i64 ((o).f3), .slice (Ao0) (((o).f4).length) (co0)] 55] ++ R) (j := 1) rfl) (Sx.row_reads_at (R := [listS g3 ((delV ((insV y6 ((o).f1) ((o).f2)).1) ((o).f1) (((o).f1) + ((o).f2))).1), Sx.row k66 66 (A20) (cp21) (runsOf ((delV ((insV y6 ((o).f1) ((o).f2)).1) ((o).f1) (((o).f1) + ((o).f2))).1).st), listS g12 (y6), Sx.row k66 66 (A10) (cp11) (runsOf (y6).st), Sx.blk b9 [.slice (A4) (((y6).st).length) (cp5), .int .i64 ((y6).base)] 28, Sx.row (Kd.int .i64) 3 (A4) (cp5) ((y6).st), Sx.blk b1 [.int .i64 ((o).f0), .int .i64 ((o).f1), .int .i64 ((o).f2), .int .i64 ((o).f3), .slice (Ao0) (((o).f4).length) (co0)] 55] ++ R) (j := 3) rfl) h) ?_
              rintro e_ w_ ⟨rfl, h⟩
              refine ⟨_, rfl, ?_⟩
              refine Sx.wl_nil ?_
              refine Sx.qn_wa (Sx.st_selT [false, false, true, true, true, true, true] h) ?_
              refine Sx.wa_take 25 rfl (by kernel_rfl) (by kernel_rfl) (by kernel_rfl) (fun _ _ _ h => h) rfl rfl (Sx.st_selT [false, false, true, true, true, true, true] h) (fun w_ hS => Sx.ov_notb _ rfl) ?_
              refine Sx.wa_take 26 rfl (by kernel_rfl) (by kernel_rfl) (by kernel_rfl) (fun _ _ _ h => h) rfl rfl (Sx.st_selT [false, false, true, true, true, true, true] h) (fun w_ hS => Sx.ov_pick_false _ rfl rfl) ?_
              refine Sx.wa_done (by kernel_rfl) ?_
              refine Sx.qn_then ?_
              refine Sx.wc_condb (by rfl) (fun c22 => ?_) (fun c22 => ?_)
              · exfalso
                refine sameB_false (by simpa using c22) ?_
                exact hbk.2.2.1
              · refine Sx.wc_skip ?_
                refine Sx.qn_then ?_
                refine Sx.wc_seq ?_
                refine Sx.wc_region ?_
                refine Sx.wl_v rfl rfl (Sx.ov_move _ rfl) ?_
                refine Sx.wl_v rfl rfl (Sx.ov_fieldAddr _ ⟨b1, 1, none⟩ _ rfl fo55_1 rfl) ?_
                refine Sx.wl_v rfl rfl (Sx.ov_loadb 6 _ h rfl rfl sh3 rfl) ?_
                refine Sx.wl_v rfl rfl (Sx.ov_fieldAddr _ ⟨b1, 2, none⟩ _ rfl fo55_2 rfl) ?_
                refine Sx.wl_v rfl rfl (Sx.ov_loadb 6 _ h rfl rfl sh3 rfl) ?_
                refine Sx.wl_call _ rfl rfl rfl ent19 (Slice_calls g3 ((delV ((insV y6 ((o).f1) ((o).f2)).1) ((o).f1) (((o).f1) + ((o).f2))).1) ((o).f1) ((o).f2) (by omega) h) ?_
                rintro e_ w_ ⟨A23, cp24, rfl, h⟩
                refine ⟨_, rfl, ?_⟩
                refine Sx.wl_v rfl rfl (Sx.ov_move _ rfl) ?_
                refine Sx.wl_v rfl rfl (Sx.ov_extract [.slice (A23) ((sliceV ((delV ((insV y6 ((o).f1) ((o).f2)).1) ((o).f1) (((o).f1) + ((o).f2))).1) ((o).f1) ((o).f2)).length) (cp24), .int .i64 (spanV ((delV ((insV y6 ((o).f1) ((o).f2)).1) ((o).f1) (((o).f1) + ((o).f2))).1) ((o).f1) ((o).f2))] _ rfl rfl) ?_
                refine Sx.wl_v rfl rfl (Sx.ov_extract [.slice (A23) ((sliceV ((delV ((insV y6 ((o).f1) ((o).f2)).1) ((o).f1) (((o).f1) + ((o).f2))).1) ((o).f1) ((o).f2)).length) (cp24), .int .i64 (spanV ((delV ((insV y6 ((o).f1) ((o).f2)).1) ((o).f1) (((o).f1) + ((o).f2))).1) ((o).f1) ((o).f2))] _ rfl rfl) ?_
                refine Sx.wl_v rfl rfl (Sx.ov_assign _ rfl) ?_
                refine Sx.wl_v rfl rfl (Sx.ov_assign _ rfl) ?_
                refine Sx.wl_nil ?_
                refine Sx.qn_then ?_
                refine Sx.wc_seq ?_
                refine Sx.wc_seq ?_
                refine Sx.wc_region ?_
                refine Sx.wl_v rfl rfl (Sx.ov_move _ rfl) ?_
                refine Sx.wl_v rfl rfl (Sx.ov_bin _ rfl rfl (Sx.binR_eql)) ?_
                refine Sx.wl_nil ?_
                refine Sx.qn_then ?_
                refine Sx.wc_cond (by rfl) (fun c25 => ?_) (fun c25 => ?_)
                · refine Sx.wc_seq ?_
                  refine Sx.wc_region ?_
                  refine Sx.wl_v rfl rfl (Sx.ov_move _ rfl) ?_
                  refine Sx.wl_v rfl rfl (Sx.ov_fieldAddr _ ⟨b1, 1, none⟩ _ rfl fo55_1 rfl) ?_
                  refine Sx.wl_v rfl rfl (Sx.ov_loadb 7 _ h rfl rfl sh3 rfl) ?_
                  refine Sx.wl_v rfl rfl (Sx.ov_fieldAddr _ ⟨b1, 2, none⟩ _ rfl fo55_2 rfl) ?_
                  refine Sx.wl_v rfl rfl (Sx.ov_loadb 7 _ h rfl rfl sh3 rfl) ?_
                  refine Sx.wl_call _ rfl rfl rfl ent30 (Set_calls g3 ((delV ((insV y6 ((o).f1) ((o).f2)).1) ((o).f1) (((o).f1) + ((o).f2))).1) ((o).f1) ((o).f2) 5 (by omega) h) ?_
                  rintro e_ w_ ⟨rfl, h⟩
                  refine ⟨_, rfl, ?_⟩
                  have hln26 : ((setV ((delV ((insV y6 ((o).f1) ((o).f2)).1) ((o).f1) (((o).f1) + ((o).f2))).1) ((o).f1) ((o).f2) 5).1).st.length ≤ 65536 := setV_len (by omega)
                  refine Sx.wl_nil ?_
                  refine Sx.qn_then ?_
                  refine Sx.wc_seq ?_
                  refine Sx.wc_region ?_
                  refine Sx.wl_v rfl rfl (Sx.ov_move _ rfl) ?_
                  refine Sx.wl_v rfl rfl (Sx.ov_fieldAddr _ ⟨b1, 1, none⟩ _ rfl fo55_1 rfl) ?_
                  refine Sx.wl_v rfl rfl (Sx.ov_loadb 7 _ h rfl rfl sh3 rfl) ?_
                  refine Sx.wl_v rfl rfl (Sx.ov_move _ rfl) ?_
                  refine Sx.wl_call _ rfl rfl rfl ent31 (Lay_calls (R := [Sx.row k66 66 (A23) (cp24) (sliceV ((delV ((insV y6 ((o).f1) ((o).f2)).1) ((o).f1) (((o).f1) + ((o).f2))).1) ((o).f1) ((o).f2)), Sx.row k66 66 (A20) (cp21) (runsOf ((delV ((insV y6 ((o).f1) ((o).f2)).1) ((o).f1) (((o).f1) + ((o).f2))).1).st), listS g12 (y6), Sx.row k66 66 (A10) (cp11) (runsOf (y6).st), Sx.blk b9 [.slice (A4) (((y6).st).length) (cp5), .int .i64 ((y6).base)] 28, Sx.row (Kd.int .i64) 3 (A4) (cp5) ((y6).st), Sx.blk b1 [.int .i64 ((o).f0), .int .i64 ((o).f1), .int .i64 ((o).f2), .int .i64 ((o).f3), .slice (Ao0) (((o).f4).length) (co0)] 55] ++ R) g3 ((setV ((delV ((insV y6 ((o).f1) ((o).f2)).1) ((o).f1) (((o).f1) + ((o).f2))).1) ((o).f1) ((o).f2) 5).1) ((o).f1) (sliceV ((delV ((insV y6 ((o).f1) ((o).f2)).1) ((o).f1) (((o).f1) + ((o).f2))).1) ((o).f1) ((o).f2)) (A23) (cp24) (by omega) (by exact slice_le2 _ _ _ (by omega)) (Sx.row_reads_at (R := [Sx.row k66 66 (A23) (cp24) (sliceV ((delV ((insV y6 ((o).f1) ((o).f2)).1) ((o).f1) (((o).f1) + ((o).f2))).1) ((o).f1) ((o).f2)), Sx.row k66 66 (A20) (cp21) (runsOf ((delV ((insV y6 ((o).f1) ((o).f2)).1) ((o).f1) (((o).f1) + ((o).f2))).1).st), listS g12 (y6), Sx.row k66 66 (A10) (cp11) (runsOf (y6).st), Sx.blk b9 [.slice (A4) (((y6).st).length) (cp5), .int .i64 ((y6).base)] 28, Sx.row (Kd.int .i64) 3 (A4) (cp5) ((y6).st), Sx.blk b1 [.int .i64 ((o).f0), .int .i64 ((o).f1), .int .i64 ((o).f2), .int .i64 ((o).f3), .slice (Ao0) (((o).f4).length) (co0)] 55] ++ R) (j := 0) rfl) h) ?_
                  rintro e_ w_ ⟨rfl, h⟩
                  refine ⟨_, rfl, ?_⟩
                  have hln27 : ((layV ((setV ((delV ((insV y6 ((o).f1) ((o).f2)).1) ((o).f1) (((o).f1) + ((o).f2))).1) ((o).f1) ((o).f2) 5).1) ((o).f1) (sliceV ((delV ((insV y6 ((o).f1) ((o).f2)).1) ((o).f1) (((o).f1) + ((o).f2))).1) ((o).f1) ((o).f2))).1).st.length ≤ 65536 := layV_len (by omega)
                  refine Sx.wl_v rfl rfl (Sx.ov_bin _ rfl rfl (Sx.binR_neq)) ?_
                  refine Sx.wl_v rfl rfl (Sx.ov_move _ rfl) ?_
                  refine Sx.wl_split 99 rfl (fun c28 => ?_) (fun c28 => ?_)
                  · exfalso
                    exact c28 (back2 hst_ (by omega)).1
                  · refine Sx.wl_v rfl rfl (Sx.ov_move _ rfl) ?_
                    refine Sx.wl_call _ rfl rfl rfl ent16 (Runs_calls g3 ((layV ((setV ((delV ((insV y6 ((o).f1) ((o).f2)).1) ((o).f1) (((o).f1) + ((o).f2))).1) ((o).f1) ((o).f2) 5).1) ((o).f1) (sliceV ((delV ((insV y6 ((o).f1) ((o).f2)).1) ((o).f1) (((o).f1) + ((o).f2))).1) ((o).f1) ((o).f2))).1) (by refine Nat.le_trans (m := 65536) ?_ (by decide); omega) h) ?_
                    rintro e_ w_ ⟨A29, cp30, rfl, h⟩
                    refine ⟨_, rfl, ?_⟩
                    refine Sx.wl_v rfl rfl (Sx.ov_move _ rfl) ?_
                    refine Sx.wl_call _ rfl rfl rfl ent15 (rSame_calls (R := [listS g3 ((layV ((setV ((delV ((insV y6 ((o).f1) ((o).f2)).1) ((o).f1) (((o).f1) + ((o).f2))).1) ((o).f1) ((o).f2) 5).1) ((o).f1) (sliceV ((delV ((insV y6 ((o).f1) ((o).f2)).1) ((o).f1) (((o).f1) + ((o).f2))).1) ((o).f1) ((o).f2))).1), Sx.row k66 66 (A29) (cp30) (runsOf ((layV ((setV ((delV ((insV y6 ((o).f1) ((o).f2)).1) ((o).f1) (((o).f1) + ((o).f2))).1) ((o).f1) ((o).f2) 5).1) ((o).f1) (sliceV ((delV ((insV y6 ((o).f1) ((o).f2)).1) ((o).f1) (((o).f1) + ((o).f2))).1) ((o).f1) ((o).f2))).1).st), Sx.row k66 66 (A23) (cp24) (sliceV ((delV ((insV y6 ((o).f1) ((o).f2)).1) ((o).f1) (((o).f1) + ((o).f2))).1) ((o).f1) ((o).f2)), Sx.row k66 66 (A20) (cp21) (runsOf ((delV ((insV y6 ((o).f1) ((o).f2)).1) ((o).f1) (((o).f1) + ((o).f2))).1).st), listS g12 (y6), Sx.row k66 66 (A10) (cp11) (runsOf (y6).st), Sx.blk b9 [.slice (A4) (((y6).st).length) (cp5), .int .i64 ((y6).base)] 28, Sx.row (Kd.int .i64) 3 (A4) (cp5) ((y6).st), Sx.blk b1 [.int .i64 ((o).f0), .int .i64 ((o).f1), .int .i64 ((o).f2), .int .i64 ((o).f3), .slice (Ao0) (((o).f4).length) (co0)] 55] ++ R) (runsOf ((layV ((setV ((delV ((insV y6 ((o).f1) ((o).f2)).1) ((o).f1) (((o).f1) + ((o).f2))).1) ((o).f1) ((o).f2) 5).1) ((o).f1) (sliceV ((delV ((insV y6 ((o).f1) ((o).f2)).1) ((o).f1) (((o).f1) + ((o).f2))).1) ((o).f1) ((o).f2))).1).st) (runsOf (y6).st) (A29) (A10) (cp30) (cp11) (by refine Nat.le_trans (runs_len _) (Nat.le_trans (m := 65536) ?_ (by decide)); omega) (by refine Nat.le_trans (runs_len _) (Nat.le_trans (m := 65536) ?_ (by decide)); omega) (Sx.row_reads_at (R := [listS g3 ((layV ((setV ((delV ((insV y6 ((o).f1) ((o).f2)).1) ((o).f1) (((o).f1) + ((o).f2))).1) ((o).f1) ((o).f2) 5).1) ((o).f1) (sliceV ((delV ((insV y6 ((o).f1) ((o).f2)).1) ((o).f1) (((o).f1) + ((o).f2))).1) ((o).f1) ((o).f2))).1), Sx.row k66 66 (A29) (cp30) (runsOf ((layV ((setV ((delV ((insV y6 ((o).f1) ((o).f2)).1) ((o).f1) (((o).f1) + ((o).f2))).1) ((o).f1) ((o).f2) 5).1) ((o).f1) (sliceV ((delV ((insV y6 ((o).f1) ((o).f2)).1) ((o).f1) (((o).f1) + ((o).f2))).1) ((o).f1) ((o).f2))).1).st), Sx.row k66 66 (A23) (cp24) (sliceV ((delV ((insV y6 ((o).f1) ((o).f2)).1) ((o).f1) (((o).f1) + ((o).f2))).1) ((o).f1) ((o).f2)), Sx.row k66 66 (A20) (cp21) (runsOf ((delV ((insV y6 ((o).f1) ((o).f2)).1) ((o).f1) (((o).f1) + ((o).f2))).1).st), listS g12 (y6), Sx.row k66 66 (A10) (cp11) (runsOf (y6).st), Sx.blk b9 [.slice (A4) (((y6).st).length) (cp5), .int .i64 ((y6).base)] 28, Sx.row (Kd.int .i64) 3 (A4) (cp5) ((y6).st), Sx.blk b1 [.int .i64 ((o).f0), .int .i64 ((o).f1), .int .i64 ((o).f2), .int .i64 ((o).f3), .slice (Ao0) (((o).f4).length) (co0)] 55] ++ R) (j := 1) rfl) (Sx.row_reads_at (R := [listS g3 ((layV ((setV ((delV ((insV y6 ((o).f1) ((o).f2)).1) ((o).f1) (((o).f1) + ((o).f2))).1) ((o).f1) ((o).f2) 5).1) ((o).f1) (sliceV ((delV ((insV y6 ((o).f1) ((o).f2)).1) ((o).f1) (((o).f1) + ((o).f2))).1) ((o).f1) ((o).f2))).1), Sx.row k66 66 (A29) (cp30) (runsOf ((layV ((setV ((delV ((insV y6 ((o).f1) ((o).f2)).1) ((o).f1) (((o).f1) + ((o).f2))).1) ((o).f1) ((o).f2) 5).1) ((o).f1) (sliceV ((delV ((insV y6 ((o).f1) ((o).f2)).1) ((o).f1) (((o).f1) + ((o).f2))).1) ((o).f1) ((o).f2))).1).st), Sx.row k66 66 (A23) (cp24) (sliceV ((delV ((insV y6 ((o).f1) ((o).f2)).1) ((o).f1) (((o).f1) + ((o).f2))).1) ((o).f1) ((o).f2)), Sx.row k66 66 (A20) (cp21) (runsOf ((delV ((insV y6 ((o).f1) ((o).f2)).1) ((o).f1) (((o).f1) + ((o).f2))).1).st), listS g12 (y6), Sx.row k66 66 (A10) (cp11) (runsOf (y6).st), Sx.blk b9 [.slice (A4) (((y6).st).length) (cp5), .int .i64 ((y6).base)] 28, Sx.row (Kd.int .i64) 3 (A4) (cp5) ((y6).st), Sx.blk b1 [.int .i64 ((o).f0), .int .i64 ((o).f1), .int .i64 ((o).f2), .int .i64 ((o).f3), .slice (Ao0) (((o).f4).length) (co0)] 55] ++ R) (j := 5) rfl) h) ?_
                    rintro e_ w_ ⟨rfl, h⟩
                    refine ⟨_, rfl, ?_⟩
                    refine Sx.wl_v rfl rfl (Sx.ov_notb _ rfl) ?_
                    refine Sx.wl_v rfl rfl (Sx.ov_pick_false _ rfl rfl) ?_
                    refine Sx.wl_nil ?_
                    refine Sx.qn_then ?_
                    refine Sx.wc_condb (by rfl) (fun c31 => ?_) (fun c31 => ?_)
                    · exfalso
                      refine sameB_false (by simpa using c31) ?_
                      exact (back2 hst_ (by omega)).2.trans hXy_
                    · refine Sx.wc_skip ?_
                      refine Sx.qn_then ?_
                      refine Sx.wc_seq ?_
                      refine Sx.wc_region ?_
                      refine Sx.wl_v rfl rfl (Sx.ov_move _ rfl) ?_
                      refine Sx.wl_v rfl rfl (Sx.ov_move _ rfl) ?_
                      refine Sx.wl_call _ rfl rfl rfl ent14 (Len_calls g3 ((layV ((setV ((delV ((insV y6 ((o).f1) ((o).f2)).1) ((o).f1) (((o).f1) + ((o).f2))).1) ((o).f1) ((o).f2) 5).1) ((o).f1) (sliceV ((delV ((insV y6 ((o).f1) ((o).f2)).1) ((o).f1) (((o).f1) + ((o).f2))).1) ((o).f1) ((o).f2))).1)   h) ?_
                      rintro e_ w_ ⟨rfl, h⟩
                      refine ⟨_, rfl, ?_⟩
                      refine Sx.wl_call _ rfl rfl rfl ent30 (Set_calls g3 ((layV ((setV ((delV ((insV y6 ((o).f1) ((o).f2)).1) ((o).f1) (((o).f1) + ((o).f2))).1) ((o).f1) ((o).f2) 5).1) ((o).f1) (sliceV ((delV ((insV y6 ((o).f1) ((o).f2)).1) ((o).f1) (((o).f1) + ((o).f2))).1) ((o).f1) ((o).f2))).1) 0 (((((layV ((setV ((delV ((insV y6 ((o).f1) ((o).f2)).1) ((o).f1) (((o).f1) + ((o).f2))).1) ((o).f1) ((o).f2) 5).1) ((o).f1) (sliceV ((delV ((insV y6 ((o).f1) ((o).f2)).1) ((o).f1) (((o).f1) + ((o).f2))).1) ((o).f1) ((o).f2))).1).st.length) : Int)) 7 (by omega) h) ?_
                      rintro e_ w_ ⟨rfl, h⟩
                      refine ⟨_, rfl, ?_⟩
                      have hln32 : ((setV ((layV ((setV ((delV ((insV y6 ((o).f1) ((o).f2)).1) ((o).f1) (((o).f1) + ((o).f2))).1) ((o).f1) ((o).f2) 5).1) ((o).f1) (sliceV ((delV ((insV y6 ((o).f1) ((o).f2)).1) ((o).f1) (((o).f1) + ((o).f2))).1) ((o).f1) ((o).f2))).1) 0 (((((layV ((setV ((delV ((insV y6 ((o).f1) ((o).f2)).1) ((o).f1) (((o).f1) + ((o).f2))).1) ((o).f1) ((o).f2) 5).1) ((o).f1) (sliceV ((delV ((insV y6 ((o).f1) ((o).f2)).1) ((o).f1) (((o).f1) + ((o).f2))).1) ((o).f1) ((o).f2))).1).st.length) : Int)) 7).1).st.length ≤ 65536 := setV_len (by omega)
                      refine Sx.wl_nil ?_
                      refine Sx.qn_then ?_
                      refine Sx.wc_seq ?_
                      refine Sx.wc_region ?_
                      refine Sx.wl_v rfl rfl (Sx.ov_move _ rfl) ?_
                      replace h := Sx.st_front 4 h
                      refine Sx.wl_call _ rfl rfl rfl ent16 (Runs_calls g12 y6 (by refine Nat.le_trans (m := 65536) ?_ (by decide); omega) h) ?_
                      rintro e_ w_ ⟨A33, cp34, rfl, h⟩
                      refine ⟨_, rfl, ?_⟩
                      refine Sx.wl_v rfl rfl (Sx.ov_move _ rfl) ?_
                      refine Sx.wl_call _ rfl rfl rfl ent15 (rSame_calls (R := [listS g12 (y6), Sx.row k66 66 (A33) (cp34) (runsOf (y6).st), listS g3 ((setV ((layV ((setV ((delV ((insV y6 ((o).f1) ((o).f2)).1) ((o).f1) (((o).f1) + ((o).f2))).1) ((o).f1) ((o).f2) 5).1) ((o).f1) (sliceV ((delV ((insV y6 ((o).f1) ((o).f2)).1) ((o).f1) (((o).f1) + ((o).f2))).1) ((o).f1) ((o).f2))).1) 0 (((((layV ((setV ((delV ((insV y6 ((o).f1) ((o).f2)).1) ((o).f1) (((o).f1) + ((o).f2))).1) ((o).f1) ((o).f2) 5).1) ((o).f1) (sliceV ((delV ((insV y6 ((o).f1) ((o).f2)).1) ((o).f1) (((o).f1) + ((o).f2))).1) ((o).f1) ((o).f2))).1).st.length) : Int)) 7).1), Sx.row k66 66 (A29) (cp30) (runsOf ((layV ((setV ((delV ((insV y6 ((o).f1) ((o).f2)).1) ((o).f1) (((o).f1) + ((o).f2))).1) ((o).f1) ((o).f2) 5).1) ((o).f1) (sliceV ((delV ((insV y6 ((o).f1) ((o).f2)).1) ((o).f1) (((o).f1) + ((o).f2))).1) ((o).f1) ((o).f2))).1).st), Sx.row k66 66 (A23) (cp24) (sliceV ((delV ((insV y6 ((o).f1) ((o).f2)).1) ((o).f1) (((o).f1) + ((o).f2))).1) ((o).f1) ((o).f2)), Sx.row k66 66 (A20) (cp21) (runsOf ((delV ((insV y6 ((o).f1) ((o).f2)).1) ((o).f1) (((o).f1) + ((o).f2))).1).st), Sx.row k66 66 (A10) (cp11) (runsOf (y6).st), Sx.blk b9 [.slice (A4) (((y6).st).length) (cp5), .int .i64 ((y6).base)] 28, Sx.row (Kd.int .i64) 3 (A4) (cp5) ((y6).st), Sx.blk b1 [.int .i64 ((o).f0), .int .i64 ((o).f1), .int .i64 ((o).f2), .int .i64 ((o).f3), .slice (Ao0) (((o).f4).length) (co0)] 55] ++ R) (runsOf (y6).st) (runsOf (y6).st) (A33) (A10) (cp34) (cp11) (by refine Nat.le_trans (runs_len _) (Nat.le_trans (m := 65536) ?_ (by decide)); omega) (by refine Nat.le_trans (runs_len _) (Nat.le_trans (m := 65536) ?_ (by decide)); omega) (Sx.row_reads_at (R := [listS g12 (y6), Sx.row k66 66 (A33) (cp34) (runsOf (y6).st), listS g3 ((setV ((layV ((setV ((delV ((insV y6 ((o).f1) ((o).f2)).1) ((o).f1) (((o).f1) + ((o).f2))).1) ((o).f1) ((o).f2) 5).1) ((o).f1) (sliceV ((delV ((insV y6 ((o).f1) ((o).f2)).1) ((o).f1) (((o).f1) + ((o).f2))).1) ((o).f1) ((o).f2))).1) 0 (((((layV ((setV ((delV ((insV y6 ((o).f1) ((o).f2)).1) ((o).f1) (((o).f1) + ((o).f2))).1) ((o).f1) ((o).f2) 5).1) ((o).f1) (sliceV ((delV ((insV y6 ((o).f1) ((o).f2)).1) ((o).f1) (((o).f1) + ((o).f2))).1) ((o).f1) ((o).f2))).1).st.length) : Int)) 7).1), Sx.row k66 66 (A29) (cp30) (runsOf ((layV ((setV ((delV ((insV y6 ((o).f1) ((o).f2)).1) ((o).f1) (((o).f1) + ((o).f2))).1) ((o).f1) ((o).f2) 5).1) ((o).f1) (sliceV ((delV ((insV y6 ((o).f1) ((o).f2)).1) ((o).f1) (((o).f1) + ((o).f2))).1) ((o).f1) ((o).f2))).1).st), Sx.row k66 66 (A23) (cp24) (sliceV ((delV ((insV y6 ((o).f1) ((o).f2)).1) ((o).f1) (((o).f1) + ((o).f2))).1) ((o).f1) ((o).f2)), Sx.row k66 66 (A20) (cp21) (runsOf ((delV ((insV y6 ((o).f1) ((o).f2)).1) ((o).f1) (((o).f1) + ((o).f2))).1).st), Sx.row k66 66 (A10) (cp11) (runsOf (y6).st), Sx.blk b9 [.slice (A4) (((y6).st).length) (cp5), .int .i64 ((y6).base)] 28, Sx.row (Kd.int .i64) 3 (A4) (cp5) ((y6).st), Sx.blk b1 [.int .i64 ((o).f0), .int .i64 ((o).f1), .int .i64 ((o).f2), .int .i64 ((o).f3), .slice (Ao0) (((o).f4).length) (co0)] 55] ++ R) (j := 1) rfl) (Sx.row_reads_at (R := [listS g12 (y6), Sx.row k66 66 (A33) (cp34) (runsOf (y6).st), listS g3 ((setV ((layV ((setV ((delV ((insV y6 ((o).f1) ((o).f2)).1) ((o).f1) (((o).f1) + ((o).f2))).1) ((o).f1) ((o).f2) 5).1) ((o).f1) (sliceV ((delV ((insV y6 ((o).f1) ((o).f2)).1) ((o).f1) (((o).f1) + ((o).f2))).1) ((o).f1) ((o).f2))).1) 0 (((((layV ((setV ((delV ((insV y6 ((o).f1) ((o).f2)).1) ((o).f1) (((o).f1) + ((o).f2))).1) ((o).f1) ((o).f2) 5).1) ((o).f1) (sliceV ((delV ((insV y6 ((o).f1) ((o).f2)).1) ((o).f1) (((o).f1) + ((o).f2))).1) ((o).f1) ((o).f2))).1).st.length) : Int)) 7).1), Sx.row k66 66 (A29) (cp30) (runsOf ((layV ((setV ((delV ((insV y6 ((o).f1) ((o).f2)).1) ((o).f1) (((o).f1) + ((o).f2))).1) ((o).f1) ((o).f2) 5).1) ((o).f1) (sliceV ((delV ((insV y6 ((o).f1) ((o).f2)).1) ((o).f1) (((o).f1) + ((o).f2))).1) ((o).f1) ((o).f2))).1).st), Sx.row k66 66 (A23) (cp24) (sliceV ((delV ((insV y6 ((o).f1) ((o).f2)).1) ((o).f1) (((o).f1) + ((o).f2))).1) ((o).f1) ((o).f2)), Sx.row k66 66 (A20) (cp21) (runsOf ((delV ((insV y6 ((o).f1) ((o).f2)).1) ((o).f1) (((o).f1) + ((o).f2))).1).st), Sx.row k66 66 (A10) (cp11) (runsOf (y6).st), Sx.blk b9 [.slice (A4) (((y6).st).length) (cp5), .int .i64 ((y6).base)] 28, Sx.row (Kd.int .i64) 3 (A4) (cp5) ((y6).st), Sx.blk b1 [.int .i64 ((o).f0), .int .i64 ((o).f1), .int .i64 ((o).f2), .int .i64 ((o).f3), .slice (Ao0) (((o).f4).length) (co0)] 55] ++ R) (j := 6) rfl) h) ?_
                      rintro e_ w_ ⟨rfl, h⟩
                      refine ⟨_, rfl, ?_⟩
                      refine Sx.wl_v rfl rfl (Sx.ov_assign _ rfl) ?_
                      refine Sx.wl_nil ?_
                      refine Sx.qn_then ?_
                      refine Sx.wc_ret ?_
                      replace h := Sx.st_selT [false, false, false, false, false, false, false, false, false, false] h
                      refine Sx.qn_ret [_] ⟨rfl, trivial⟩ ?_
                      have b_ : (sameB (runsOf (y6).st) (runsOf (y6).st)) = true := by exact sameB_refl _
                      exact ⟨congrArg (fun z => Ending.returned (Value.bool z)) b_, h⟩
                · refine Sx.wc_skip ?_
                  refine Sx.qn_then ?_
                  refine Sx.wc_seq ?_
                  refine Sx.wc_region ?_
                  refine Sx.wl_v rfl rfl (Sx.ov_move _ rfl) ?_
                  refine Sx.wl_v rfl rfl (Sx.ov_move _ rfl) ?_
                  refine Sx.wl_call _ rfl rfl rfl ent14 (Len_calls g3 ((delV ((insV y6 ((o).f1) ((o).f2)).1) ((o).f1) (((o).f1) + ((o).f2))).1)   h) ?_
                  rintro e_ w_ ⟨rfl, h⟩
                  refine ⟨_, rfl, ?_⟩
                  refine Sx.wl_call _ rfl rfl rfl ent30 (Set_calls g3 ((delV ((insV y6 ((o).f1) ((o).f2)).1) ((o).f1) (((o).f1) + ((o).f2))).1) 0 (((((delV ((insV y6 ((o).f1) ((o).f2)).1) ((o).f1) (((o).f1) + ((o).f2))).1).st.length) : Int)) 7 (by omega) h) ?_
                  rintro e_ w_ ⟨rfl, h⟩
                  refine ⟨_, rfl, ?_⟩
                  have hln35 : ((setV ((delV ((insV y6 ((o).f1) ((o).f2)).1) ((o).f1) (((o).f1) + ((o).f2))).1) 0 (((((delV ((insV y6 ((o).f1) ((o).f2)).1) ((o).f1) (((o).f1) + ((o).f2))).1).st.length) : Int)) 7).1).st.length ≤ 65536 := setV_len (by omega)
                  refine Sx.wl_nil ?_
                  refine Sx.qn_then ?_
                  refine Sx.wc_seq ?_
                  refine Sx.wc_region ?_
                  refine Sx.wl_v rfl rfl (Sx.ov_move _ rfl) ?_
                  replace h := Sx.st_front 3 h
                  refine Sx.wl_call _ rfl rfl rfl ent16 (Runs_calls g12 y6 (by refine Nat.le_trans (m := 65536) ?_ (by decide); omega) h) ?_
                  rintro e_ w_ ⟨A36, cp37, rfl, h⟩
                  refine ⟨_, rfl, ?_⟩
                  refine Sx.wl_v rfl rfl (Sx.ov_move _ rfl) ?_
                  refine Sx.wl_call _ rfl rfl rfl ent15 (rSame_calls (R := [listS g12 (y6), Sx.row k66 66 (A36) (cp37) (runsOf (y6).st), listS g3 ((setV ((delV ((insV y6 ((o).f1) ((o).f2)).1) ((o).f1) (((o).f1) + ((o).f2))).1) 0 (((((delV ((insV y6 ((o).f1) ((o).f2)).1) ((o).f1) (((o).f1) + ((o).f2))).1).st.length) : Int)) 7).1), Sx.row k66 66 (A23) (cp24) (sliceV ((delV ((insV y6 ((o).f1) ((o).f2)).1) ((o).f1) (((o).f1) + ((o).f2))).1) ((o).f1) ((o).f2)), Sx.row k66 66 (A20) (cp21) (runsOf ((delV ((insV y6 ((o).f1) ((o).f2)).1) ((o).f1) (((o).f1) + ((o).f2))).1).st), Sx.row k66 66 (A10) (cp11) (runsOf (y6).st), Sx.blk b9 [.slice (A4) (((y6).st).length) (cp5), .int .i64 ((y6).base)] 28, Sx.row (Kd.int .i64) 3 (A4) (cp5) ((y6).st), Sx.blk b1 [.int .i64 ((o).f0), .int .i64 ((o).f1), .int .i64 ((o).f2), .int .i64 ((o).f3), .slice (Ao0) (((o).f4).length) (co0)] 55] ++ R) (runsOf (y6).st) (runsOf (y6).st) (A36) (A10) (cp37) (cp11) (by refine Nat.le_trans (runs_len _) (Nat.le_trans (m := 65536) ?_ (by decide)); omega) (by refine Nat.le_trans (runs_len _) (Nat.le_trans (m := 65536) ?_ (by decide)); omega) (Sx.row_reads_at (R := [listS g12 (y6), Sx.row k66 66 (A36) (cp37) (runsOf (y6).st), listS g3 ((setV ((delV ((insV y6 ((o).f1) ((o).f2)).1) ((o).f1) (((o).f1) + ((o).f2))).1) 0 (((((delV ((insV y6 ((o).f1) ((o).f2)).1) ((o).f1) (((o).f1) + ((o).f2))).1).st.length) : Int)) 7).1), Sx.row k66 66 (A23) (cp24) (sliceV ((delV ((insV y6 ((o).f1) ((o).f2)).1) ((o).f1) (((o).f1) + ((o).f2))).1) ((o).f1) ((o).f2)), Sx.row k66 66 (A20) (cp21) (runsOf ((delV ((insV y6 ((o).f1) ((o).f2)).1) ((o).f1) (((o).f1) + ((o).f2))).1).st), Sx.row k66 66 (A10) (cp11) (runsOf (y6).st), Sx.blk b9 [.slice (A4) (((y6).st).length) (cp5), .int .i64 ((y6).base)] 28, Sx.row (Kd.int .i64) 3 (A4) (cp5) ((y6).st), Sx.blk b1 [.int .i64 ((o).f0), .int .i64 ((o).f1), .int .i64 ((o).f2), .int .i64 ((o).f3), .slice (Ao0) (((o).f4).length) (co0)] 55] ++ R) (j := 1) rfl) (Sx.row_reads_at (R := [listS g12 (y6), Sx.row k66 66 (A36) (cp37) (runsOf (y6).st), listS g3 ((setV ((delV ((insV y6 ((o).f1) ((o).f2)).1) ((o).f1) (((o).f1) + ((o).f2))).1) 0 (((((delV ((insV y6 ((o).f1) ((o).f2)).1) ((o).f1) (((o).f1) + ((o).f2))).1).st.length) : Int)) 7).1), Sx.row k66 66 (A23) (cp24) (sliceV ((delV ((insV y6 ((o).f1) ((o).f2)).1) ((o).f1) (((o).f1) + ((o).f2))).1) ((o).f1) ((o).f2)), Sx.row k66 66 (A20) (cp21) (runsOf ((delV ((insV y6 ((o).f1) ((o).f2)).1) ((o).f1) (((o).f1) + ((o).f2))).1).st), Sx.row k66 66 (A10) (cp11) (runsOf (y6).st), Sx.blk b9 [.slice (A4) (((y6).st).length) (cp5), .int .i64 ((y6).base)] 28, Sx.row (Kd.int .i64) 3 (A4) (cp5) ((y6).st), Sx.blk b1 [.int .i64 ((o).f0), .int .i64 ((o).f1), .int .i64 ((o).f2), .int .i64 ((o).f3), .slice (Ao0) (((o).f4).length) (co0)] 55] ++ R) (j := 5) rfl) h) ?_
                  rintro e_ w_ ⟨rfl, h⟩
                  refine ⟨_, rfl, ?_⟩
                  refine Sx.wl_v rfl rfl (Sx.ov_assign _ rfl) ?_
                  refine Sx.wl_nil ?_
                  refine Sx.qn_then ?_
                  refine Sx.wc_ret ?_
                  replace h := Sx.st_selT [false, false, false, false, false, false, false, false, false] h
                  refine Sx.qn_ret [_] ⟨rfl, trivial⟩ ?_
                  have b_ : (sameB (runsOf (y6).st) (runsOf (y6).st)) = true := by exact sameB_refl _
                  exact ⟨congrArg (fun z => Ending.returned (Value.bool z)) b_, h⟩
        · have e_ : (insV y6 ((o).f1) ((o).f2)).1 = y6 := by exact ins_err c16
          replace h := Sx.st_cast (congrArg (fun z_ => ([listS g3 (z_), listS g12 (y6), Sx.row k66 66 (A10) (cp11) (runsOf (y6).st), Sx.blk b9 [.slice (A4) (((y6).st).length) (cp5), .int .i64 ((y6).base)] 28, Sx.row (Kd.int .i64) 3 (A4) (cp5) ((y6).st), Sx.blk b1 [.int .i64 ((o).f0), .int .i64 ((o).f1), .int .i64 ((o).f2), .int .i64 ((o).f3), .slice (Ao0) (((o).f4).length) (co0)] 55] ++ R)) e_) h
          clear e_
          have hst_ := hok_.2
          have hXy_ : y6.st = y6.st := rfl
          refine Sx.wc_skip ?_
          refine Sx.qn_then ?_
          refine Sx.wc_seq ?_
          refine Sx.wc_region ?_
          refine Sx.wl_v rfl rfl (Sx.ov_move _ rfl) ?_
          refine Sx.wl_v rfl rfl (Sx.ov_fieldAddr _ ⟨b1, 1, none⟩ _ rfl fo55_1 rfl) ?_
          refine Sx.wl_v rfl rfl (Sx.ov_loadb 5 _ h rfl rfl sh3 rfl) ?_
          refine Sx.wl_v rfl rfl (Sx.ov_fieldAddr _ ⟨b1, 2, none⟩ _ rfl fo55_2 rfl) ?_
          refine Sx.wl_v rfl rfl (Sx.ov_loadb 5 _ h rfl rfl sh3 rfl) ?_
          refine Sx.wl_call _ rfl rfl rfl ent19 (Slice_calls g3 y6 ((o).f1) ((o).f2) (by omega) h) ?_
          rintro e_ w_ ⟨A38, cp39, rfl, h⟩
          refine ⟨_, rfl, ?_⟩
          refine Sx.wl_v rfl rfl (Sx.ov_move _ rfl) ?_
          refine Sx.wl_v rfl rfl (Sx.ov_extract [.slice (A38) ((sliceV y6 ((o).f1) ((o).f2)).length) (cp39), .int .i64 (spanV y6 ((o).f1) ((o).f2))] _ rfl rfl) ?_
          refine Sx.wl_v rfl rfl (Sx.ov_extract [.slice (A38) ((sliceV y6 ((o).f1) ((o).f2)).length) (cp39), .int .i64 (spanV y6 ((o).f1) ((o).f2))] _ rfl rfl) ?_
          refine Sx.wl_v rfl rfl (Sx.ov_assign _ rfl) ?_
          refine Sx.wl_v rfl rfl (Sx.ov_assign _ rfl) ?_
          refine Sx.wl_nil ?_
          refine Sx.qn_then ?_
          refine Sx.wc_seq ?_
          refine Sx.wc_seq ?_
          refine Sx.wc_region ?_
          refine Sx.wl_v rfl rfl (Sx.ov_move _ rfl) ?_
          refine Sx.wl_v rfl rfl (Sx.ov_bin _ rfl rfl (Sx.binR_eql)) ?_
          refine Sx.wl_nil ?_
          refine Sx.qn_then ?_
          refine Sx.wc_cond (by rfl) (fun c40 => ?_) (fun c40 => ?_)
          · refine Sx.wc_seq ?_
            refine Sx.wc_region ?_
            refine Sx.wl_v rfl rfl (Sx.ov_move _ rfl) ?_
            refine Sx.wl_v rfl rfl (Sx.ov_fieldAddr _ ⟨b1, 1, none⟩ _ rfl fo55_1 rfl) ?_
            refine Sx.wl_v rfl rfl (Sx.ov_loadb 6 _ h rfl rfl sh3 rfl) ?_
            refine Sx.wl_v rfl rfl (Sx.ov_fieldAddr _ ⟨b1, 2, none⟩ _ rfl fo55_2 rfl) ?_
            refine Sx.wl_v rfl rfl (Sx.ov_loadb 6 _ h rfl rfl sh3 rfl) ?_
            refine Sx.wl_call _ rfl rfl rfl ent30 (Set_calls g3 y6 ((o).f1) ((o).f2) 5 (by omega) h) ?_
            rintro e_ w_ ⟨rfl, h⟩
            refine ⟨_, rfl, ?_⟩
            have hln41 : ((setV y6 ((o).f1) ((o).f2) 5).1).st.length ≤ 65536 := setV_len (by omega)
            refine Sx.wl_nil ?_
            refine Sx.qn_then ?_
            refine Sx.wc_seq ?_
            refine Sx.wc_region ?_
            refine Sx.wl_v rfl rfl (Sx.ov_move _ rfl) ?_
            refine Sx.wl_v rfl rfl (Sx.ov_fieldAddr _ ⟨b1, 1, none⟩ _ rfl fo55_1 rfl) ?_
            refine Sx.wl_v rfl rfl (Sx.ov_loadb 6 _ h rfl rfl sh3 rfl) ?_
            refine Sx.wl_v rfl rfl (Sx.ov_move _ rfl) ?_
            refine Sx.wl_call _ rfl rfl rfl ent31 (Lay_calls (R := [Sx.row k66 66 (A38) (cp39) (sliceV y6 ((o).f1) ((o).f2)), listS g12 (y6), Sx.row k66 66 (A10) (cp11) (runsOf (y6).st), Sx.blk b9 [.slice (A4) (((y6).st).length) (cp5), .int .i64 ((y6).base)] 28, Sx.row (Kd.int .i64) 3 (A4) (cp5) ((y6).st), Sx.blk b1 [.int .i64 ((o).f0), .int .i64 ((o).f1), .int .i64 ((o).f2), .int .i64 ((o).f3), .slice (Ao0) (((o).f4).length) (co0)] 55] ++ R) g3 ((setV y6 ((o).f1) ((o).f2) 5).1) ((o).f1) (sliceV y6 ((o).f1) ((o).f2)) (A38) (cp39) (by omega) (by exact slice_le2 _ _ _ (by omega)) (Sx.row_reads_at (R := [Sx.row k66 66 (A38) (cp39) (sliceV y6 ((o).f1) ((o).f2)), listS g12 (y6), Sx.row k66 66 (A10) (cp11) (runsOf (y6).st), Sx.blk b9 [.slice (A4) (((y6).st).length) (cp5), .int .i64 ((y6).base)] 28, Sx.row (Kd.int .i64) 3 (A4) (cp5) ((y6).st), Sx.blk b1 [.int .i64 ((o).f0), .int .i64 ((o).f1), .int .i64 ((o).f2), .int .i64 ((o).f3), .slice (Ao0) (((o).f4).length) (co0)] 55] ++ R) (j := 0) rfl) h) ?_
            rintro e_ w_ ⟨rfl, h⟩
            refine ⟨_, rfl, ?_⟩
            have hln42 : ((layV ((setV y6 ((o).f1) ((o).f2) 5).1) ((o).f1) (sliceV y6 ((o).f1) ((o).f2))).1).st.length ≤ 65536 := layV_len (by omega)
            refine Sx.wl_v rfl rfl (Sx.ov_bin _ rfl rfl (Sx.binR_neq)) ?_
            refine Sx.wl_v rfl rfl (Sx.ov_move _ rfl) ?_
            refine Sx.wl_split 99 rfl (fun c43 => ?_) (fun c43 => ?_)
            · exfalso
              exact c43 (back2 hst_ (by omega)).1
            · refine Sx.wl_v rfl rfl (Sx.ov_move _ rfl) ?_
              refine Sx.wl_call _ rfl rfl rfl ent16 (Runs_calls g3 ((layV ((setV y6 ((o).f1) ((o).f2) 5).1) ((o).f1) (sliceV y6 ((o).f1) ((o).f2))).1) (by refine Nat.le_trans (m := 65536) ?_ (by decide); omega) h) ?_
              rintro e_ w_ ⟨A44, cp45, rfl, h⟩
              refine ⟨_, rfl, ?_⟩
              refine Sx.wl_v rfl rfl (Sx.ov_move _ rfl) ?_
              refine Sx.wl_call _ rfl rfl rfl ent15 (rSame_calls (R := [listS g3 ((layV ((setV y6 ((o).f1) ((o).f2) 5).1) ((o).f1) (sliceV y6 ((o).f1) ((o).f2))).1), Sx.row k66 66 (A44) (cp45) (runsOf ((layV ((setV y6 ((o).f1) ((o).f2) 5).1) ((o).f1) (sliceV y6 ((o).f1) ((o).f2))).1).st), Sx.row k66 66 (A38) (cp39) (sliceV y6 ((o).f1) ((o).f2)), listS g12 (y6), Sx.row k66 66 (A10) (cp11) (runsOf (y6).st), Sx.blk b9 [.slice (A4) (((y6).st).length) (cp5), .int .i64 ((y6).base)] 28, Sx.row (Kd.int .i64) 3 (A4) (cp5) ((y6).st), Sx.blk b1 [.int .i64 ((o).f0), .int .i64 ((o).f1), .int .i64 ((o).f2), .int .i64 ((o).f3), .slice (Ao0) (((o).f4).length) (co0)] 55] ++ R) (runsOf ((layV ((setV y6 ((o).f1) ((o).f2) 5).1) ((o).f1) (sliceV y6 ((o).f1) ((o).f2))).1).st) (runsOf (y6).st) (A44) (A10) (cp45) (cp11) (by refine Nat.le_trans (runs_len _) (Nat.le_trans (m := 65536) ?_ (by decide)); omega) (by refine Nat.le_trans (runs_len _) (Nat.le_trans (m := 65536) ?_ (by decide)); omega) (Sx.row_reads_at (R := [listS g3 ((layV ((setV y6 ((o).f1) ((o).f2) 5).1) ((o).f1) (sliceV y6 ((o).f1) ((o).f2))).1), Sx.row k66 66 (A44) (cp45) (runsOf ((layV ((setV y6 ((o).f1) ((o).f2) 5).1) ((o).f1) (sliceV y6 ((o).f1) ((o).f2))).1).st), Sx.row k66 66 (A38) (cp39) (sliceV y6 ((o).f1) ((o).f2)), listS g12 (y6), Sx.row k66 66 (A10) (cp11) (runsOf (y6).st), Sx.blk b9 [.slice (A4) (((y6).st).length) (cp5), .int .i64 ((y6).base)] 28, Sx.row (Kd.int .i64) 3 (A4) (cp5) ((y6).st), Sx.blk b1 [.int .i64 ((o).f0), .int .i64 ((o).f1), .int .i64 ((o).f2), .int .i64 ((o).f3), .slice (Ao0) (((o).f4).length) (co0)] 55] ++ R) (j := 1) rfl) (Sx.row_reads_at (R := [listS g3 ((layV ((setV y6 ((o).f1) ((o).f2) 5).1) ((o).f1) (sliceV y6 ((o).f1) ((o).f2))).1), Sx.row k66 66 (A44) (cp45) (runsOf ((layV ((setV y6 ((o).f1) ((o).f2) 5).1) ((o).f1) (sliceV y6 ((o).f1) ((o).f2))).1).st), Sx.row k66 66 (A38) (cp39) (sliceV y6 ((o).f1) ((o).f2)), listS g12 (y6), Sx.row k66 66 (A10) (cp11) (runsOf (y6).st), Sx.blk b9 [.slice (A4) (((y6).st).length) (cp5), .int .i64 ((y6).base)] 28, Sx.row (Kd.int .i64) 3 (A4) (cp5) ((y6).st), Sx.blk b1 [.int .i64 ((o).f0), .int .i64 ((o).f1), .int .i64 ((o).f2), .int .i64 ((o).f3), .slice (Ao0) (((o).f4).length) (co0)] 55] ++ R) (j := 4) rfl) h) ?_
              rintro e_ w_ ⟨rfl, h⟩
              refine ⟨_, rfl, ?_⟩
              refine Sx.wl_v rfl rfl (Sx.ov_notb _ rfl) ?_
              refine Sx.wl_v rfl rfl (Sx.ov_pick_false _ rfl rfl) ?_
              refine Sx.wl_nil ?_
              refine Sx.qn_then ?_
              refine Sx.wc_condb (by rfl) (fun c46 => ?_) (fun c46 => ?_)
              · exfalso
                refine sameB_false (by simpa using c46) ?_
                exact (back2 hst_ (by omega)).2.trans hXy_
              · refine Sx.wc_skip ?_
                refine Sx.qn_then ?_
                refine Sx.wc_seq ?_
                refine Sx.wc_region ?_
                refine Sx.wl_v rfl rfl (Sx.ov_move _ rfl) ?_
                refine Sx.wl_v rfl rfl (Sx.ov_move _ rfl) ?_
                refine Sx.wl_call _ rfl rfl rfl ent14 (Len_calls g3 ((layV ((setV y6 ((o).f1) ((o).f2) 5).1) ((o).f1) (sliceV y6 ((o).f1) ((o).f2))).1)   h) ?_
                rintro e_ w_ ⟨rfl, h⟩
                refine ⟨_, rfl, ?_⟩
                refine Sx.wl_call _ rfl rfl rfl ent30 (Set_calls g3 ((layV ((setV y6 ((o).f1) ((o).f2) 5).1) ((o).f1) (sliceV y6 ((o).f1) ((o).f2))).1) 0 (((((layV ((setV y6 ((o).f1) ((o).f2) 5).1) ((o).f1) (sliceV y6 ((o).f1) ((o).f2))).1).st.length) : Int)) 7 (by omega) h) ?_
                rintro e_ w_ ⟨rfl, h⟩
                refine ⟨_, rfl, ?_⟩
                have hln47 : ((setV ((layV ((setV y6 ((o).f1) ((o).f2) 5).1) ((o).f1) (sliceV y6 ((o).f1) ((o).f2))).1) 0 (((((layV ((setV y6 ((o).f1) ((o).f2) 5).1) ((o).f1) (sliceV y6 ((o).f1) ((o).f2))).1).st.length) : Int)) 7).1).st.length ≤ 65536 := setV_len (by omega)
                refine Sx.wl_nil ?_
                refine Sx.qn_then ?_
                refine Sx.wc_seq ?_
                refine Sx.wc_region ?_
                refine Sx.wl_v rfl rfl (Sx.ov_move _ rfl) ?_
                replace h := Sx.st_front 3 h
                refine Sx.wl_call _ rfl rfl rfl ent16 (Runs_calls g12 y6 (by refine Nat.le_trans (m := 65536) ?_ (by decide); omega) h) ?_
                rintro e_ w_ ⟨A48, cp49, rfl, h⟩
                refine ⟨_, rfl, ?_⟩
                refine Sx.wl_v rfl rfl (Sx.ov_move _ rfl) ?_
                refine Sx.wl_call _ rfl rfl rfl ent15 (rSame_calls (R := [listS g12 (y6), Sx.row k66 66 (A48) (cp49) (runsOf (y6).st), listS g3 ((setV ((layV ((setV y6 ((o).f1) ((o).f2) 5).1) ((o).f1) (sliceV y6 ((o).f1) ((o).f2))).1) 0 (((((layV ((setV y6 ((o).f1) ((o).f2) 5).1) ((o).f1) (sliceV y6 ((o).f1) ((o).f2))).1).st.length) : Int)) 7).1), Sx.row k66 66 (A44) (cp45) (runsOf ((layV ((setV y6 ((o).f1) ((o).f2) 5).1) ((o).f1) (sliceV y6 ((o).f1) ((o).f2))).1).st), Sx.row k66 66 (A38) (cp39) (sliceV y6 ((o).f1) ((o).f2)), Sx.row k66 66 (A10) (cp11) (runsOf (y6).st), Sx.blk b9 [.slice (A4) (((y6).st).length) (cp5), .int .i64 ((y6).base)] 28, Sx.row (Kd.int .i64) 3 (A4) (cp5) ((y6).st), Sx.blk b1 [.int .i64 ((o).f0), .int .i64 ((o).f1), .int .i64 ((o).f2), .int .i64 ((o).f3), .slice (Ao0) (((o).f4).length) (co0)] 55] ++ R) (runsOf (y6).st) (runsOf (y6).st) (A48) (A10) (cp49) (cp11) (by refine Nat.le_trans (runs_len _) (Nat.le_trans (m := 65536) ?_ (by decide)); omega) (by refine Nat.le_trans (runs_len _) (Nat.le_trans (m := 65536) ?_ (by decide)); omega) (Sx.row_reads_at (R := [listS g12 (y6), Sx.row k66 66 (A48) (cp49) (runsOf (y6).st), listS g3 ((setV ((layV ((setV y6 ((o).f1) ((o).f2) 5).1) ((o).f1) (sliceV y6 ((o).f1) ((o).f2))).1) 0 (((((layV ((setV y6 ((o).f1) ((o).f2) 5).1) ((o).f1) (sliceV y6 ((o).f1) ((o).f2))).1).st.length) : Int)) 7).1), Sx.row k66 66 (A44) (cp45) (runsOf ((layV ((setV y6 ((o).f1) ((o).f2) 5).1) ((o).f1) (sliceV y6 ((o).f1) ((o).f2))).1).st), Sx.row k66 66 (A38) (cp39) (sliceV y6 ((o).f1) ((o).f2)), Sx.row k66 66 (A10) (cp11) (runsOf (y6).st), Sx.blk b9 [.slice (A4) (((y6).st).length) (cp5), .int .i64 ((y6).base)] 28, Sx.row (Kd.int .i64) 3 (A4) (cp5) ((y6).st), Sx.blk b1 [.int .i64 ((o).f0), .int .i64 ((o).f1), .int .i64 ((o).f2), .int .i64 ((o).f3), .slice (Ao0) (((o).f4).length) (co0)] 55] ++ R) (j := 1) rfl) (Sx.row_reads_at (R := [listS g12 (y6), Sx.row k66 66 (A48) (cp49) (runsOf (y6).st), listS g3 ((setV ((layV ((setV y6 ((o).f1) ((o).f2) 5).1) ((o).f1) (sliceV y6 ((o).f1) ((o).f2))).1) 0 (((((layV ((setV y6 ((o).f1) ((o).f2) 5).1) ((o).f1) (sliceV y6 ((o).f1) ((o).f2))).1).st.length) : Int)) 7).1), Sx.row k66 66 (A44) (cp45) (runsOf ((layV ((setV y6 ((o).f1) ((o).f2) 5).1) ((o).f1) (sliceV y6 ((o).f1) ((o).f2))).1).st), Sx.row k66 66 (A38) (cp39) (sliceV y6 ((o).f1) ((o).f2)), Sx.row k66 66 (A10) (cp11) (runsOf (y6).st), Sx.blk b9 [.slice (A4) (((y6).st).length) (cp5), .int .i64 ((y6).base)] 28, Sx.row (Kd.int .i64) 3 (A4) (cp5) ((y6).st), Sx.blk b1 [.int .i64 ((o).f0), .int .i64 ((o).f1), .int .i64 ((o).f2), .int .i64 ((o).f3), .slice (Ao0) (((o).f4).length) (co0)] 55] ++ R) (j := 5) rfl) h) ?_
                rintro e_ w_ ⟨rfl, h⟩
                refine ⟨_, rfl, ?_⟩
                refine Sx.wl_v rfl rfl (Sx.ov_assign _ rfl) ?_
                refine Sx.wl_nil ?_
                refine Sx.qn_then ?_
                refine Sx.wc_ret ?_
                replace h := Sx.st_selT [false, false, false, false, false, false, false, false, false] h
                refine Sx.qn_ret [_] ⟨rfl, trivial⟩ ?_
                have b_ : (sameB (runsOf (y6).st) (runsOf (y6).st)) = true := by exact sameB_refl _
                exact ⟨congrArg (fun z => Ending.returned (Value.bool z)) b_, h⟩
          · refine Sx.wc_skip ?_
            refine Sx.qn_then ?_
            refine Sx.wc_seq ?_
            refine Sx.wc_region ?_
            refine Sx.wl_v rfl rfl (Sx.ov_move _ rfl) ?_
            refine Sx.wl_v rfl rfl (Sx.ov_move _ rfl) ?_
            refine Sx.wl_call _ rfl rfl rfl ent14 (Len_calls g3 y6   h) ?_
            rintro e_ w_ ⟨rfl, h⟩
            refine ⟨_, rfl, ?_⟩
            refine Sx.wl_call _ rfl rfl rfl ent30 (Set_calls g3 y6 0 ((((y6).st.length) : Int)) 7 (by omega) h) ?_
            rintro e_ w_ ⟨rfl, h⟩
            refine ⟨_, rfl, ?_⟩
            have hln50 : ((setV y6 0 ((((y6).st.length) : Int)) 7).1).st.length ≤ 65536 := setV_len (by omega)
            refine Sx.wl_nil ?_
            refine Sx.qn_then ?_
            refine Sx.wc_seq ?_
            refine Sx.wc_region ?_
            refine Sx.wl_v rfl rfl (Sx.ov_move _ rfl) ?_
            replace h := Sx.st_front 2 h
            refine Sx.wl_call _ rfl rfl rfl ent16 (Runs_calls g12 y6 (by refine Nat.le_trans (m := 65536) ?_ (by decide); omega) h) ?_
            rintro e_ w_ ⟨A51, cp52, rfl, h⟩
            refine ⟨_, rfl, ?_⟩
            refine Sx.wl_v rfl rfl (Sx.ov_move _ rfl) ?_
            refine Sx.wl_call _ rfl rfl rfl ent15 (rSame_calls (R := [listS g12 (y6), Sx.row k66 66 (A51) (cp52) (runsOf (y6).st), listS g3 ((setV y6 0 ((((y6).st.length) : Int)) 7).1), Sx.row k66 66 (A38) (cp39) (sliceV y6 ((o).f1) ((o).f2)), Sx.row k66 66 (A10) (cp11) (runsOf (y6).st), Sx.blk b9 [.slice (A4) (((y6).st).length) (cp5), .int .i64 ((y6).base)] 28, Sx.row (Kd.int .i64) 3 (A4) (cp5) ((y6).st), Sx.blk b1 [.int .i64 ((o).f0), .int .i64 ((o).f1), .int .i64 ((o).f2), .int .i64 ((o).f3), .slice (Ao0) (((o).f4).length) (co0)] 55] ++ R) (runsOf (y6).st) (runsOf (y6).st) (A51) (A10) (cp52) (cp11) (by refine Nat.le_trans (runs_len _) (Nat.le_trans (m := 65536) ?_ (by decide)); omega) (by refine Nat.le_trans (runs_len _) (Nat.le_trans (m := 65536) ?_ (by decide)); omega) (Sx.row_reads_at (R := [listS g12 (y6), Sx.row k66 66 (A51) (cp52) (runsOf (y6).st), listS g3 ((setV y6 0 ((((y6).st.length) : Int)) 7).1), Sx.row k66 66 (A38) (cp39) (sliceV y6 ((o).f1) ((o).f2)), Sx.row k66 66 (A10) (cp11) (runsOf (y6).st), Sx.blk b9 [.slice (A4) (((y6).st).length) (cp5), .int .i64 ((y6).base)] 28, Sx.row (Kd.int .i64) 3 (A4) (cp5) ((y6).st), Sx.blk b1 [.int .i64 ((o).f0), .int .i64 ((o).f1), .int .i64 ((o).f2), .int .i64 ((o).f3), .slice (Ao0) (((o).f4).length) (co0)] 55] ++ R) (j := 1) rfl) (Sx.row_reads_at (R := [listS g12 (y6), Sx.row k66 66 (A51) (cp52) (runsOf (y6).st), listS g3 ((setV y6 0 ((((y6).st.length) : Int)) 7).1), Sx.row k66 66 (A38) (cp39) (sliceV y6 ((o).f1) ((o).f2)), Sx.row k66 66 (A10) (cp11) (runsOf (y6).st), Sx.blk b9 [.slice (A4) (((y6).st).length) (cp5), .int .i64 ((y6).base)] 28, Sx.row (Kd.int .i64) 3 (A4) (cp5) ((y6).st), Sx.blk b1 [.int .i64 ((o).f0), .int .i64 ((o).f1), .int .i64 ((o).f2), .int .i64 ((o).f3), .slice (Ao0) (((o).f4).length) (co0)] 55] ++ R) (j := 4) rfl) h) ?_
            rintro e_ w_ ⟨rfl, h⟩
            refine ⟨_, rfl, ?_⟩
            refine Sx.wl_v rfl rfl (Sx.ov_assign _ rfl) ?_
            refine Sx.wl_nil ?_
            refine Sx.qn_then ?_
            refine Sx.wc_ret ?_
            replace h := Sx.st_selT [false, false, false, false, false, false, false, false] h
            refine Sx.qn_ret [_] ⟨rfl, trivial⟩ ?_
            have b_ : (sameB (runsOf (y6).st) (runsOf (y6).st)) = true := by exact sameB_refl _
            exact ⟨congrArg (fun z => Ending.returned (Value.bool z)) b_, h⟩
      · have hst_ := hok_.2
        have hXy_ : y6.st = y6.st := rfl
        refine Sx.wl_skip rfl rfl ?_
        refine Sx.wl_skip rfl rfl ?_
        refine Sx.wl_skip rfl rfl ?_
        refine Sx.wl_skip rfl rfl ?_
        refine Sx.wl_skip rfl rfl ?_
        refine Sx.wl_skip rfl rfl ?_
        refine Sx.wl_skip rfl rfl ?_
        refine Sx.wl_v rfl rfl (Sx.ov_pick_false _ rfl rfl) ?_
        refine Sx.wl_nil ?_
        refine Sx.qn_then ?_
        refine Sx.wc_cond_false rfl ?_
        refine Sx.wc_skip ?_
        refine Sx.qn_then ?_
        refine Sx.wc_seq ?_
        refine Sx.wc_region ?_
        refine Sx.wl_v rfl rfl (Sx.ov_move _ rfl) ?_
        refine Sx.wl_v rfl rfl (Sx.ov_fieldAddr _ ⟨b1, 1, none⟩ _ rfl fo55_1 rfl) ?_
        refine Sx.wl_v rfl rfl (Sx.ov_loadb 5 _ h rfl rfl sh3 rfl) ?_
        refine Sx.wl_v rfl rfl (Sx.ov_fieldAddr _ ⟨b1, 2, none⟩ _ rfl fo55_2 rfl) ?_
        refine Sx.wl_v rfl rfl (Sx.ov_loadb 5 _ h rfl rfl sh3 rfl) ?_
        refine Sx.wl_call _ rfl rfl rfl ent19 (Slice_calls g3 y6 ((o).f1) ((o).f2) (by omega) h) ?_
        rintro e_ w_ ⟨A53, cp54, rfl, h⟩
        refine ⟨_, rfl, ?_⟩
        refine Sx.wl_v rfl rfl (Sx.ov_move _ rfl) ?_
        refine Sx.wl_v rfl rfl (Sx.ov_extract [.slice (A53) ((sliceV y6 ((o).f1) ((o).f2)).length) (cp54), .int .i64 (spanV y6 ((o).f1) ((o).f2))] _ rfl rfl) ?_
        refine Sx.wl_v rfl rfl (Sx.ov_extract [.slice (A53) ((sliceV y6 ((o).f1) ((o).f2)).length) (cp54), .int .i64 (spanV y6 ((o).f1) ((o).f2))] _ rfl rfl) ?_
        refine Sx.wl_v rfl rfl (Sx.ov_assign _ rfl) ?_
        refine Sx.wl_v rfl rfl (Sx.ov_assign _ rfl) ?_
        refine Sx.wl_nil ?_
        refine Sx.qn_then ?_
        refine Sx.wc_seq ?_
        refine Sx.wc_seq ?_
        refine Sx.wc_region ?_
        refine Sx.wl_v rfl rfl (Sx.ov_move _ rfl) ?_
        refine Sx.wl_v rfl rfl (Sx.ov_bin _ rfl rfl (Sx.binR_eql)) ?_
        refine Sx.wl_nil ?_
        refine Sx.qn_then ?_
        refine Sx.wc_cond (by rfl) (fun c55 => ?_) (fun c55 => ?_)
        · refine Sx.wc_seq ?_
          refine Sx.wc_region ?_
          refine Sx.wl_v rfl rfl (Sx.ov_move _ rfl) ?_
          refine Sx.wl_v rfl rfl (Sx.ov_fieldAddr _ ⟨b1, 1, none⟩ _ rfl fo55_1 rfl) ?_
          refine Sx.wl_v rfl rfl (Sx.ov_loadb 6 _ h rfl rfl sh3 rfl) ?_
          refine Sx.wl_v rfl rfl (Sx.ov_fieldAddr _ ⟨b1, 2, none⟩ _ rfl fo55_2 rfl) ?_
          refine Sx.wl_v rfl rfl (Sx.ov_loadb 6 _ h rfl rfl sh3 rfl) ?_
          refine Sx.wl_call _ rfl rfl rfl ent30 (Set_calls g3 y6 ((o).f1) ((o).f2) 5 (by omega) h) ?_
          rintro e_ w_ ⟨rfl, h⟩
          refine ⟨_, rfl, ?_⟩
          have hln56 : ((setV y6 ((o).f1) ((o).f2) 5).1).st.length ≤ 65536 := setV_len (by omega)
          refine Sx.wl_nil ?_
          refine Sx.qn_then ?_
          refine Sx.wc_seq ?_
          refine Sx.wc_region ?_
          refine Sx.wl_v rfl rfl (Sx.ov_move _ rfl) ?_
          refine Sx.wl_v rfl rfl (Sx.ov_fieldAddr _ ⟨b1, 1, none⟩ _ rfl fo55_1 rfl) ?_
          refine Sx.wl_v rfl rfl (Sx.ov_loadb 6 _ h rfl rfl sh3 rfl) ?_
          refine Sx.wl_v rfl rfl (Sx.ov_move _ rfl) ?_
          refine Sx.wl_call _ rfl rfl rfl ent31 (Lay_calls (R := [Sx.row k66 66 (A53) (cp54) (sliceV y6 ((o).f1) ((o).f2)), listS g12 (y6), Sx.row k66 66 (A10) (cp11) (runsOf (y6).st), Sx.blk b9 [.slice (A4) (((y6).st).length) (cp5), .int .i64 ((y6).base)] 28, Sx.row (Kd.int .i64) 3 (A4) (cp5) ((y6).st), Sx.blk b1 [.int .i64 ((o).f0), .int .i64 ((o).f1), .int .i64 ((o).f2), .int .i64 ((o).f3), .slice (Ao0) (((o).f4).length) (co0)] 55] ++ R) g3 ((setV y6 ((o).f1) ((o).f2) 5).1) ((o).f1) (sliceV y6 ((o).f1) ((o).f2)) (A53) (cp54) (by omega) (by exact slice_le2 _ _ _ (by omega)) (Sx.row_reads_at (R := [Sx.row k66 66 (A53) (cp54) (sliceV y6 ((o).f1) ((o).f2)), listS g12 (y6), Sx.row k66 66 (A10) (cp11) (runsOf (y6).st), Sx.blk b9 [.slice (A4) (((y6).st).length) (cp5), .int .i64 ((y6).base)] 28, Sx.row (Kd.int .i64) 3 (A4) (cp5) ((y6).st), Sx.blk b1 [.int .i64 ((o).f0), .int .i64 ((o).f1), .int .i64 ((o).f2), .int .i64 ((o).f3), .slice (Ao0) (((o).f4).length) (co0)] 55] ++ R) (j := 0) rfl) h) ?_
          rintro e_ w_ ⟨rfl, h⟩
          refine ⟨_, rfl, ?_⟩
          have hln57 : ((layV ((setV y6 ((o).f1) ((o).f2) 5).1) ((o).f1) (sliceV y6 ((o).f1) ((o).f2))).1).st.length ≤ 65536 := layV_len (by omega)
          refine Sx.wl_v rfl rfl (Sx.ov_bin _ rfl rfl (Sx.binR_neq)) ?_
          refine Sx.wl_v rfl rfl (Sx.ov_move _ rfl) ?_
          refine Sx.wl_split 99 rfl (fun c58 => ?_) (fun c58 => ?_)
          · exfalso
            exact c58 (back2 hst_ (by omega)).1
          · refine Sx.wl_v rfl rfl (Sx.ov_move _ rfl) ?_
            refine Sx.wl_call _ rfl rfl rfl ent16 (Runs_calls g3 ((layV ((setV y6 ((o).f1) ((o).f2) 5).1) ((o).f1) (sliceV y6 ((o).f1) ((o).f2))).1) (by refine Nat.le_trans (m := 65536) ?_ (by decide); omega) h) ?_
            rintro e_ w_ ⟨A59, cp60, rfl, h⟩
            refine ⟨_, rfl, ?_⟩
            refine Sx.wl_v rfl rfl (Sx.ov_move _ rfl) ?_
            refine Sx.wl_call _ rfl rfl rfl ent15 (rSame_calls (R := [listS g3 ((layV ((setV y6 ((o).f1) ((o).f2) 5).1) ((o).f1) (sliceV y6 ((o).f1) ((o).f2))).1), Sx.row k66 66 (A59) (cp60) (runsOf ((layV ((setV y6 ((o).f1) ((o).f2) 5).1) ((o).f1) (sliceV y6 ((o).f1) ((o).f2))).1).st), Sx.row k66 66 (A53) (cp54) (sliceV y6 ((o).f1) ((o).f2)), listS g12 (y6), Sx.row k66 66 (A10) (cp11) (runsOf (y6).st), Sx.blk b9 [.slice (A4) (((y6).st).length) (cp5), .int .i64 ((y6).base)] 28, Sx.row (Kd.int .i64) 3 (A4) (cp5) ((y6).st), Sx.blk b1 [.int .i64 ((o).f0), .int .i64 ((o).f1), .int .i64 ((o).f2), .int .i64 ((o).f3), .slice (Ao0) (((o).f4).length) (co0)] 55] ++ R) (runsOf ((layV ((setV y6 ((o).f1) ((o).f2) 5).1) ((o).f1) (sliceV y6 ((o).f1) ((o).f2))).1).st) (runsOf (y6).st) (A59) (A10) (cp60) (cp11) (by refine Nat.le_trans (runs_len _) (Nat.le_trans (m := 65536) ?_ (by decide)); omega) (by refine Nat.le_trans (runs_len _) (Nat.le_trans (m := 65536) ?_ (by decide)); omega) (Sx.row_reads_at (R := [listS g3 ((layV ((setV y6 ((o).f1) ((o).f2) 5).1) ((o).f1) (sliceV y6 ((o).f1) ((o).f2))).1), Sx.row k66 66 (A59) (cp60) (runsOf ((layV ((setV y6 ((o).f1) ((o).f2) 5).1) ((o).f1) (sliceV y6 ((o).f1) ((o).f2))).1).st), Sx.row k66 66 (A53) (cp54) (sliceV y6 ((o).f1) ((o).f2)), listS g12 (y6), Sx.row k66 66 (A10) (cp11) (runsOf (y6).st), Sx.blk b9 [.slice (A4) (((y6).st).length) (cp5), .int .i64 ((y6).base)] 28, Sx.row (Kd.int .i64) 3 (A4) (cp5) ((y6).st), Sx.blk b1 [.int .i64 ((o).f0), .int .i64 ((o).f1), .int .i64 ((o).f2), .int .i64 ((o).f3), .slice (Ao0) (((o).f4).length) (co0)] 55] ++ R) (j := 1) rfl) (Sx.row_reads_at (R := [listS g3 ((layV ((setV y6 ((o).f1) ((o).f2) 5).1) ((o).f1) (sliceV y6 ((o).f1) ((o).f2))).1), Sx.row k66 66 (A59) (cp60) (runsOf ((layV ((setV y6 ((o).f1) ((o).f2) 5).1) ((o).f1) (sliceV y6 ((o).f1) ((o).f2))).1).st), Sx.row k66 66 (A53) (cp54) (sliceV y6 ((o).f1) ((o).f2)), listS g12 (y6), Sx.row k66 66 (A10) (cp11) (runsOf (y6).st), Sx.blk b9 [.slice (A4) (((y6).st).length) (cp5), .int .i64 ((y6).base)] 28, Sx.row (Kd.int .i64) 3 (A4) (cp5) ((y6).st), Sx.blk b1 [.int .i64 ((o).f0), .int .i64 ((o).f1), .int .i64 ((o).f2), .int .i64 ((o).f3), .slice (Ao0) (((o).f4).length) (co0)] 55] ++ R) (j := 4) rfl) h) ?_
            rintro e_ w_ ⟨rfl, h⟩
            refine ⟨_, rfl, ?_⟩
            refine Sx.wl_v rfl rfl (Sx.ov_notb _ rfl) ?_
            refine Sx.wl_v rfl rfl (Sx.ov_pick_false _ rfl rfl) ?_
            refine Sx.wl_nil ?_
            refine Sx.qn_then ?_
            refine Sx.wc_condb (by rfl) (fun c61 => ?_) (fun c61 => ?_)
            · exfalso
              refine sameB_false (by simpa using c61) ?_
              exact (back2 hst_ (by omega)).2.trans hXy_
            · refine Sx.wc_skip ?_
              refine Sx.qn_then ?_
              refine Sx.wc_seq ?_
              refine Sx.wc_region ?_
              refine Sx.wl_v rfl rfl (Sx.ov_move _ rfl) ?_
              refine Sx.wl_v rfl rfl (Sx.ov_move _ rfl) ?_
              refine Sx.wl_call _ rfl rfl rfl ent14 (Len_calls g3 ((layV ((setV y6 ((o).f1) ((o).f2) 5).1) ((o).f1) (sliceV y6 ((o).f1) ((o).f2))).1)   h) ?_
              rintro e_ w_ ⟨rfl, h⟩
              refine ⟨_, rfl, ?_⟩
              refine Sx.wl_call _ rfl rfl rfl ent30 (Set_calls g3 ((layV ((setV y6 ((o).f1) ((o).f2) 5).1) ((o).f1) (sliceV y6 ((o).f1) ((o).f2))).1) 0 (((((layV ((setV y6 ((o).f1) ((o).f2) 5).1) ((o).f1) (sliceV y6 ((o).f1) ((o).f2))).1).st.length) : Int)) 7 (by omega) h) ?_
              rintro e_ w_ ⟨rfl, h⟩
              refine ⟨_, rfl, ?_⟩
              have hln62 : ((setV ((layV ((setV y6 ((o).f1) ((o).f2) 5).1) ((o).f1) (sliceV y6 ((o).f1) ((o).f2))).1) 0 (((((layV ((setV y6 ((o).f1) ((o).f2) 5).1) ((o).f1) (sliceV y6 ((o).f1) ((o).f2))).1).st.length) : Int)) 7).1).st.length ≤ 65536 := setV_len (by omega)
              refine Sx.wl_nil ?_
              refine Sx.qn_then ?_
              refine Sx.wc_seq ?_
              refine Sx.wc_region ?_
              refine Sx.wl_v rfl rfl (Sx.ov_move _ rfl) ?_
              replace h := Sx.st_front 3 h
              refine Sx.wl_call _ rfl rfl rfl ent16 (Runs_calls g12 y6 (by refine Nat.le_trans (m := 65536) ?_ (by decide); omega) h) ?_
              rintro e_ w_ ⟨A63, cp64, rfl, h⟩
              refine ⟨_, rfl, ?_⟩
              refine Sx.wl_v rfl rfl (Sx.ov_move _ rfl) ?_
              refine Sx.wl_call _ rfl rfl rfl ent15 (rSame_calls (R := [listS g12 (y6), Sx.row k66 66 (A63) (cp64) (runsOf (y6).st), listS g3 ((setV ((layV ((setV y6 ((o).f1) ((o).f2) 5).1) ((o).f1) (sliceV y6 ((o).f1) ((o).f2))).1) 0 (((((layV ((setV y6 ((o).f1) ((o).f2) 5).1) ((o).f1) (sliceV y6 ((o).f1) ((o).f2))).1).st.length) : Int)) 7).1), Sx.row k66 66 (A59) (cp60) (runsOf ((layV ((setV y6 ((o).f1) ((o).f2) 5).1) ((o).f1) (sliceV y6 ((o).f1) ((o).f2))).1).st), Sx.row k66 66 (A53) (cp54) (sliceV y6 ((o).f1) ((o).f2)), Sx.row k66 66 (A10) (cp11) (runsOf (y6).st), Sx.blk b9 [.slice (A4) (((y6).st).length) (cp5), .int .i64 ((y6).base)] 28, Sx.row (Kd.int .i64) 3 (A4) (cp5) ((y6).st), Sx.blk b1 [.int .i64 ((o).f0), .int .i64 ((o).f1), .int .i64 ((o).f2), .int .i64 ((o).f3), .slice (Ao0) (((o).f4).length) (co0)] 55] ++ R) (runsOf (y6).st) (runsOf (y6).st) (A63) (A10) (cp64) (cp11) (by refine Nat.le_trans (runs_len _) (Nat.le_trans (m := 65536) ?_ (by decide)); omega) (by refine Nat.le_trans (runs_len _) (Nat.le_trans (m := 65536) ?_ (by decide)); omega) (Sx.row_reads_at (R := [listS g12 (y6), Sx.row k66 66 (A63) (cp64) (runsOf (y6).st), listS g3 ((setV ((layV ((setV y6 ((o).f1) ((o).f2) 5).1) ((o).f1) (sliceV y6 ((o).f1) ((o).f2))).1) 0 (((((layV ((setV y6 ((o).f1) ((o).f2) 5).1) ((o).f1) (sliceV y6 ((o).f1) ((o).f2))).1).st.length) : Int)) 7).1), Sx.row k66 66 (A59) (cp60) (runsOf ((layV ((setV y6 ((o).f1) ((o).f2) 5).1) ((o).f1) (sliceV y6 ((o).f1) ((o).f2))).1).st), Sx.row k66 66 (A53) (cp54) (sliceV y6 ((o).f1) ((o).f2)), Sx.row k66 66 (A10) (cp11) (runsOf (y6).st), Sx.blk b9 [.slice (A4) (((y6).st).length) (cp5), .int .i64 ((y6).base)] 28, Sx.row (Kd.int .i64) 3 (A4) (cp5) ((y6).st), Sx.blk b1 [.int .i64 ((o).f0), .int .i64 ((o).f1), .int .i64 ((o).f2), .int .i64 ((o).f3), .slice (Ao0) (((o).f4).length) (co0)] 55] ++ R) (j := 1) rfl) (Sx.row_reads_at (R := [listS g12 (y6), Sx.row k66 66 (A63) (cp64) (runsOf (y6).st), listS g3 ((setV ((layV ((setV y6 ((o).f1) ((o).f2) 5).1) ((o).f1) (sliceV y6 ((o).f1) ((o).f2))).1) 0 (((((layV ((setV y6 ((o).f1) ((o).f2) 5).1) ((o).f1) (sliceV y6 ((o).f1) ((o).f2))).1).st.length) : Int)) 7).1), Sx.row k66 66 (A59) (cp60) (runsOf ((layV ((setV y6 ((o).f1) ((o).f2) 5).1) ((o).f1) (sliceV y6 ((o).f1) ((o).f2))).1).st), Sx.row k66 66 (A53) (cp54) (sliceV y6 ((o).f1) ((o).f2)), Sx.row k66 66 (A10) (cp11) (runsOf (y6).st), Sx.blk b9 [.slice (A4) (((y6).st).length) (cp5), .int .i64 ((y6).base)] 28, Sx.row (Kd.int .i64) 3 (A4) (cp5) ((y6).st), Sx.blk b1 [.int .i64 ((o).f0), .int .i64 ((o).f1), .int .i64 ((o).f2), .int .i64 ((o).f3), .slice (Ao0) (((o).f4).length) (co0)] 55] ++ R) (j := 5) rfl) h) ?_
              rintro e_ w_ ⟨rfl, h⟩
              refine ⟨_, rfl, ?_⟩
              refine Sx.wl_v rfl rfl (Sx.ov_assign _ rfl) ?_
              refine Sx.wl_nil ?_
              refine Sx.qn_then ?_
              refine Sx.wc_ret ?_
              replace h := Sx.st_selT [false, false, false, false, false, false, false, false, false] h
              refine Sx.qn_ret [_] ⟨rfl, trivial⟩ ?_
              have b_ : (sameB (runsOf (y6).st) (runsOf (y6).st)) = true := by exact sameB_refl _
              exact ⟨congrArg (fun z => Ending.returned (Value.bool z)) b_, h⟩
        · refine Sx.wc_skip ?_
          refine Sx.qn_then ?_
          refine Sx.wc_seq ?_
          refine Sx.wc_region ?_
          refine Sx.wl_v rfl rfl (Sx.ov_move _ rfl) ?_
          refine Sx.wl_v rfl rfl (Sx.ov_move _ rfl) ?_
          refine Sx.wl_call _ rfl rfl rfl ent14 (Len_calls g3 y6   h) ?_
          rintro e_ w_ ⟨rfl, h⟩
          refine ⟨_, rfl, ?_⟩
          refine Sx.wl_call _ rfl rfl rfl ent30 (Set_calls g3 y6 0 ((((y6).st.length) : Int)) 7 (by omega) h) ?_
          rintro e_ w_ ⟨rfl, h⟩
          refine ⟨_, rfl, ?_⟩
          have hln65 : ((setV y6 0 ((((y6).st.length) : Int)) 7).1).st.length ≤ 65536 := setV_len (by omega)
          refine Sx.wl_nil ?_
          refine Sx.qn_then ?_
          refine Sx.wc_seq ?_
          refine Sx.wc_region ?_
          refine Sx.wl_v rfl rfl (Sx.ov_move _ rfl) ?_
          replace h := Sx.st_front 2 h
          refine Sx.wl_call _ rfl rfl rfl ent16 (Runs_calls g12 y6 (by refine Nat.le_trans (m := 65536) ?_ (by decide); omega) h) ?_
          rintro e_ w_ ⟨A66, cp67, rfl, h⟩
          refine ⟨_, rfl, ?_⟩
          refine Sx.wl_v rfl rfl (Sx.ov_move _ rfl) ?_
          refine Sx.wl_call _ rfl rfl rfl ent15 (rSame_calls (R := [listS g12 (y6), Sx.row k66 66 (A66) (cp67) (runsOf (y6).st), listS g3 ((setV y6 0 ((((y6).st.length) : Int)) 7).1), Sx.row k66 66 (A53) (cp54) (sliceV y6 ((o).f1) ((o).f2)), Sx.row k66 66 (A10) (cp11) (runsOf (y6).st), Sx.blk b9 [.slice (A4) (((y6).st).length) (cp5), .int .i64 ((y6).base)] 28, Sx.row (Kd.int .i64) 3 (A4) (cp5) ((y6).st), Sx.blk b1 [.int .i64 ((o).f0), .int .i64 ((o).f1), .int .i64 ((o).f2), .int .i64 ((o).f3), .slice (Ao0) (((o).f4).length) (co0)] 55] ++ R) (runsOf (y6).st) (runsOf (y6).st) (A66) (A10) (cp67) (cp11) (by refine Nat.le_trans (runs_len _) (Nat.le_trans (m := 65536) ?_ (by decide)); omega) (by refine Nat.le_trans (runs_len _) (Nat.le_trans (m := 65536) ?_ (by decide)); omega) (Sx.row_reads_at (R := [listS g12 (y6), Sx.row k66 66 (A66) (cp67) (runsOf (y6).st), listS g3 ((setV y6 0 ((((y6).st.length) : Int)) 7).1), Sx.row k66 66 (A53) (cp54) (sliceV y6 ((o).f1) ((o).f2)), Sx.row k66 66 (A10) (cp11) (runsOf (y6).st), Sx.blk b9 [.slice (A4) (((y6).st).length) (cp5), .int .i64 ((y6).base)] 28, Sx.row (Kd.int .i64) 3 (A4) (cp5) ((y6).st), Sx.blk b1 [.int .i64 ((o).f0), .int .i64 ((o).f1), .int .i64 ((o).f2), .int .i64 ((o).f3), .slice (Ao0) (((o).f4).length) (co0)] 55] ++ R) (j := 1) rfl) (Sx.row_reads_at (R := [listS g12 (y6), Sx.row k66 66 (A66) (cp67) (runsOf (y6).st), listS g3 ((setV y6 0 ((((y6).st.length) : Int)) 7).1), Sx.row k66 66 (A53) (cp54) (sliceV y6 ((o).f1) ((o).f2)), Sx.row k66 66 (A10) (cp11) (runsOf (y6).st), Sx.blk b9 [.slice (A4) (((y6).st).length) (cp5), .int .i64 ((y6).base)] 28, Sx.row (Kd.int .i64) 3 (A4) (cp5) ((y6).st), Sx.blk b1 [.int .i64 ((o).f0), .int .i64 ((o).f1), .int .i64 ((o).f2), .int .i64 ((o).f3), .slice (Ao0) (((o).f4).length) (co0)] 55] ++ R) (j := 4) rfl) h) ?_
          rintro e_ w_ ⟨rfl, h⟩
          refine ⟨_, rfl, ?_⟩
          refine Sx.wl_v rfl rfl (Sx.ov_assign _ rfl) ?_
          refine Sx.wl_nil ?_
          refine Sx.qn_then ?_
          refine Sx.wc_ret ?_
          replace h := Sx.st_selT [false, false, false, false, false, false, false, false] h
          refine Sx.qn_ret [_] ⟨rfl, trivial⟩ ?_
          have b_ : (sameB (runsOf (y6).st) (runsOf (y6).st)) = true := by exact sameB_refl _
          exact ⟨congrArg (fun z => Ending.returned (Value.bool z)) b_, h⟩
    · have hst_ := hok_.2
      have hXy_ : y6.st = y6.st := rfl
      refine Sx.wl_skip rfl rfl ?_
      refine Sx.wl_skip rfl rfl ?_
      refine Sx.wl_skip rfl rfl ?_
      refine Sx.wl_v rfl rfl (Sx.ov_pick_false _ rfl rfl) ?_
      refine Sx.wl_v rfl rfl (Sx.ov_move _ rfl) ?_
      refine Sx.wl_skip rfl rfl ?_
      refine Sx.wl_skip rfl rfl ?_
      refine Sx.wl_skip rfl rfl ?_
      refine Sx.wl_skip rfl rfl ?_
      refine Sx.wl_skip rfl rfl ?_
      refine Sx.wl_skip rfl rfl ?_
      refine Sx.wl_skip rfl rfl ?_
      refine Sx.wl_v rfl rfl (Sx.ov_pick_false _ rfl rfl) ?_
      refine Sx.wl_nil ?_
      refine Sx.qn_then ?_
      refine Sx.wc_cond_false rfl ?_
      refine Sx.wc_skip ?_
      refine Sx.qn_then ?_
      refine Sx.wc_seq ?_
      refine Sx.wc_region ?_
      refine Sx.wl_v rfl rfl (Sx.ov_move _ rfl) ?_
      refine Sx.wl_v rfl rfl (Sx.ov_fieldAddr _ ⟨b1, 1, none⟩ _ rfl fo55_1 rfl) ?_
      refine Sx.wl_v rfl rfl (Sx.ov_loadb 5 _ h rfl rfl sh3 rfl) ?_
      refine Sx.wl_v rfl rfl (Sx.ov_fieldAddr _ ⟨b1, 2, none⟩ _ rfl fo55_2 rfl) ?_
      refine Sx.wl_v rfl rfl (Sx.ov_loadb 5 _ h rfl rfl sh3 rfl) ?_
      refine Sx.wl_call _ rfl rfl rfl ent19 (Slice_calls g3 y6 ((o).f1) ((o).f2) (by omega) h) ?_
      rintro e_ w_ ⟨A68, cp69, rfl, h⟩
      refine ⟨_, rfl, ?_⟩
      refine Sx.wl_v rfl rfl (Sx.ov_move _ rfl) ?_
      refine Sx.wl_v rfl rfl (Sx.ov_extract [.slice (A68) ((sliceV y6 ((o).f1) ((o).f2)).length) (cp69), .int .i64 (spanV y6 ((o).f1) ((o).f2))] _ rfl rfl) ?_
      refine Sx.wl_v rfl rfl (Sx.ov_extract [.slice (A68) ((sliceV y6 ((o).f1) ((o).f2)).length) (cp69), .int .i64 (spanV y6 ((o).f1) ((o).f2))] _ rfl rfl) ?_
      refine Sx.wl_v rfl rfl (Sx.ov_assign _ rfl) ?_
      refine Sx.wl_v rfl rfl (Sx.ov_assign _ rfl) ?_
      refine Sx.wl_nil ?_
      refine Sx.qn_then ?_
      refine Sx.wc_seq ?_
      refine Sx.wc_seq ?_
      refine Sx.wc_region ?_
      refine Sx.wl_v rfl rfl (Sx.ov_move _ rfl) ?_
      refine Sx.wl_v rfl rfl (Sx.ov_bin _ rfl rfl (Sx.binR_eql)) ?_
      refine Sx.wl_nil ?_
      refine Sx.qn_then ?_
      refine Sx.wc_cond (by rfl) (fun c70 => ?_) (fun c70 => ?_)
      · refine Sx.wc_seq ?_
        refine Sx.wc_region ?_
        refine Sx.wl_v rfl rfl (Sx.ov_move _ rfl) ?_
        refine Sx.wl_v rfl rfl (Sx.ov_fieldAddr _ ⟨b1, 1, none⟩ _ rfl fo55_1 rfl) ?_
        refine Sx.wl_v rfl rfl (Sx.ov_loadb 6 _ h rfl rfl sh3 rfl) ?_
        refine Sx.wl_v rfl rfl (Sx.ov_fieldAddr _ ⟨b1, 2, none⟩ _ rfl fo55_2 rfl) ?_
        refine Sx.wl_v rfl rfl (Sx.ov_loadb 6 _ h rfl rfl sh3 rfl) ?_
        refine Sx.wl_call _ rfl rfl rfl ent30 (Set_calls g3 y6 ((o).f1) ((o).f2) 5 (by omega) h) ?_
        rintro e_ w_ ⟨rfl, h⟩
        refine ⟨_, rfl, ?_⟩
        have hln71 : ((setV y6 ((o).f1) ((o).f2) 5).1).st.length ≤ 65536 := setV_len (by omega)
        refine Sx.wl_nil ?_
        refine Sx.qn_then ?_
        refine Sx.wc_seq ?_
        refine Sx.wc_region ?_
        refine Sx.wl_v rfl rfl (Sx.ov_move _ rfl) ?_
        refine Sx.wl_v rfl rfl (Sx.ov_fieldAddr _ ⟨b1, 1, none⟩ _ rfl fo55_1 rfl) ?_
        refine Sx.wl_v rfl rfl (Sx.ov_loadb 6 _ h rfl rfl sh3 rfl) ?_
        refine Sx.wl_v rfl rfl (Sx.ov_move _ rfl) ?_
        refine Sx.wl_call _ rfl rfl rfl ent31 (Lay_calls (R := [Sx.row k66 66 (A68) (cp69) (sliceV y6 ((o).f1) ((o).f2)), listS g12 (y6), Sx.row k66 66 (A10) (cp11) (runsOf (y6).st), Sx.blk b9 [.slice (A4) (((y6).st).length) (cp5), .int .i64 ((y6).base)] 28, Sx.row (Kd.int .i64) 3 (A4) (cp5) ((y6).st), Sx.blk b1 [.int .i64 ((o).f0), .int .i64 ((o).f1), .int .i64 ((o).f2), .int .i64 ((o).f3), .slice (Ao0) (((o).f4).length) (co0)] 55] ++ R) g3 ((setV y6 ((o).f1) ((o).f2) 5).1) ((o).f1) (sliceV y6 ((o).f1) ((o).f2)) (A68) (cp69) (by omega) (by exact slice_le2 _ _ _ (by omega)) (Sx.row_reads_at (R := [Sx.row k66 66 (A68) (cp69) (sliceV y6 ((o).f1) ((o).f2)), listS g12 (y6), Sx.row k66 66 (A10) (cp11) (runsOf (y6).st), Sx.blk b9 [.slice (A4) (((y6).st).length) (cp5), .int .i64 ((y6).base)] 28, Sx.row (Kd.int .i64) 3 (A4) (cp5) ((y6).st), Sx.blk b1 [.int .i64 ((o).f0), .int .i64 ((o).f1), .int .i64 ((o).f2), .int .i64 ((o).f3), .slice (Ao0) (((o).f4).length) (co0)] 55] ++ R) (j := 0) rfl) h) ?_
        rintro e_ w_ ⟨rfl, h⟩
        refine ⟨_, rfl, ?_⟩
        have hln72 : ((layV ((setV y6 ((o).f1) ((o).f2) 5).1) ((o).f1) (sliceV y6 ((o).f1) ((o).f2))).1).st.length ≤ 65536 := layV_len (by omega)
        refine Sx.wl_v rfl rfl (Sx.ov_bin _ rfl rfl (Sx.binR_neq)) ?_
        refine Sx.wl_v rfl rfl (Sx.ov_move _ rfl) ?_
        refine Sx.wl_split 99 rfl (fun c73 => ?_) (fun c73 => ?_)
        · exfalso
          exact c73 (back2 hst_ (by omega)).1
        · refine Sx.wl_v rfl rfl (Sx.ov_move _ rfl) ?_
          refine Sx.wl_call _ rfl rfl rfl ent16 (Runs_calls g3 ((layV ((setV y6 ((o).f1) ((o).f2) 5).1) ((o).f1) (sliceV y6 ((o).f1) ((o).f2))).1) (by refine Nat.le_trans (m := 65536) ?_ (by decide); omega) h) ?_
          rintro e_ w_ ⟨A74, cp75, rfl, h⟩
          refine ⟨_, rfl, ?_⟩
          refine Sx.wl_v rfl rfl (Sx.ov_move _ rfl) ?_
          refine Sx.wl_call _ rfl rfl rfl ent15 (rSame_calls (R := [listS g3 ((layV ((setV y6 ((o).f1) ((o).f2) 5).1) ((o).f1) (sliceV y6 ((o).f1) ((o).f2))).1), Sx.row k66 66 (A74) (cp75) (runsOf ((layV ((setV y6 ((o).f1) ((o).f2) 5).1) ((o).f1) (sliceV y6 ((o).f1) ((o).f2))).1).st), Sx.row k66 66 (A68) (cp69) (sliceV y6 ((o).f1) ((o).f2)), listS g12 (y6), Sx.row k66 66 (A10) (cp11) (runsOf (y6).st), Sx.blk b9 [.slice (A4) (((y6).st).length) (cp5), .int .i64 ((y6).base)] 28, Sx.row (Kd.int .i64) 3 (A4) (cp5) ((y6).st), Sx.blk b1 [.int .i64 ((o).f0), .int .i64 ((o).f1), .int .i64 ((o).f2), .int .i64 ((o).f3), .slice (Ao0) (((o).f4).length) (co0)] 55] ++ R) (runsOf ((layV ((setV y6 ((o).f1) ((o).f2) 5).1) ((o).f1) (sliceV y6 ((o).f1) ((o).f2))).1).st) (runsOf (y6).st) (A74) (A10) (cp75) (cp11) (by refine Nat.le_trans (runs_len _) (Nat.le_trans (m := 65536) ?_ (by decide)); omega) (by refine Nat.le_trans (runs_len _) (Nat.le_trans (m := 65536) ?_ (by decide)); omega) (Sx.row_reads_at (R := [listS g3 ((layV ((setV y6 ((o).f1) ((o).f2) 5).1) ((o).f1) (sliceV y6 ((o).f1) ((o).f2))).1), Sx.row k66 66 (A74) (cp75) (runsOf ((layV ((setV y6 ((o).f1) ((o).f2) 5).1) ((o).f1) (sliceV y6 ((o).f1) ((o).f2))).1).st), Sx.row k66 66 (A68) (cp69) (sliceV y6 ((o).f1) ((o).f2)), listS g12 (y6), Sx.row k66 66 (A10) (cp11) (runsOf (y6).st), Sx.blk b9 [.slice (A4) (((y6).st).length) (cp5), .int .i64 ((y6).base)] 28, Sx.row (Kd.int .i64) 3 (A4) (cp5) ((y6).st), Sx.blk b1 [.int .i64 ((o).f0), .int .i64 ((o).f1), .int .i64 ((o).f2), .int .i64 ((o).f3), .slice (Ao0) (((o).f4).length) (co0)] 55] ++ R) (j := 1) rfl) (Sx.row_reads_at (R := [listS g3 ((layV ((setV y6 ((o).f1) ((o).f2) 5).1) ((o).f1) (sliceV y6 ((o).f1) ((o).f2))).1), Sx.row k66 66 (A74) (cp75) (runsOf ((layV ((setV y6 ((o).f1) ((o).f2) 5).1) ((o).f1) (sliceV y6 ((o).f1) ((o).f2))).1).st), Sx.row k66 66 (A68) (cp69) (sliceV y6 ((o).f1) ((o).f2)), listS g12 (y6), Sx.row k66 66 (A10) (cp11) (runsOf (y6).st), Sx.blk b9 [.slice (A4) (((y6).st).length) (cp5), .int .i64 ((y6).base)] 28, Sx.row (Kd.int .i64) 3 (A4) (cp5) ((y6).st), Sx.blk b1 [.int .i64 ((o).f0), .int .i64 ((o).f1), .int .i64 ((o).f2), .int .i64 ((o).f3), .slice (Ao0) (((o).f4).length) (co0)] 55] ++ R) (j := 4) rfl) h) ?_
          rintro e_ w_ ⟨rfl, h⟩
          refine ⟨_, rfl, ?_⟩
          refine Sx.wl_v rfl rfl (Sx.ov_notb _ rfl) ?_
          refine Sx.wl_v rfl rfl (Sx.ov_pick_false _ rfl rfl) ?_
          refine Sx.wl_nil ?_
          refine Sx.qn_then ?_
          refine Sx.wc_condb (by rfl) (fun c76 => ?_) (fun c76 => ?_)
          · exfalso
            refine sameB_false (by simpa using c76) ?_
            exact (back2 hst_ (by omega)).2.trans hXy_
          · refine Sx.wc_skip ?_
            refine Sx.qn_then ?_
            refine Sx.wc_seq ?_
            refine Sx.wc_region ?_
            refine Sx.wl_v rfl rfl (Sx.ov_move _ rfl) ?_
            refine Sx.wl_v rfl rfl (Sx.ov_move _ rfl) ?_
            refine Sx.wl_call _ rfl rfl rfl ent14 (Len_calls g3 ((layV ((setV y6 ((o).f1) ((o).f2) 5).1) ((o).f1) (sliceV y6 ((o).f1) ((o).f2))).1)   h) ?_
            rintro e_ w_ ⟨rfl, h⟩
            refine ⟨_, rfl, ?_⟩
            refine Sx.wl_call _ rfl rfl rfl ent30 (Set_calls g3 ((layV ((setV y6 ((o).f1) ((o).f2) 5).1) ((o).f1) (sliceV y6 ((o).f1) ((o).f2))).1) 0 (((((layV ((setV y6 ((o).f1) ((o).f2) 5).1) ((o).f1) (sliceV y6 ((o).f1) ((o).f2))).1).st.length) : Int)) 7 (by omega) h) ?_
            rintro e_ w_ ⟨rfl, h⟩
            refine ⟨_, rfl, ?_⟩
            have hln77 : ((setV ((layV ((setV y6 ((o).f1) ((o).f2) 5).1) ((o).f1) (sliceV y6 ((o).f1) ((o).f2))).1) 0 (((((layV ((setV y6 ((o).f1) ((o).f2) 5).1) ((o).f1) (sliceV y6 ((o).f1) ((o).f2))).1).st.length) : Int)) 7).1).st.length ≤ 65536 := setV_len (by omega)
            refine Sx.wl_nil ?_
            refine Sx.qn_then ?_
            refine Sx.wc_seq ?_
            refine Sx.wc_region ?_
            refine Sx.wl_v rfl rfl (Sx.ov_move _ rfl) ?_
            replace h := Sx.st_front 3 h
            refine Sx.wl_call _ rfl rfl rfl ent16 (Runs_calls g12 y6 (by refine Nat.le_trans (m := 65536) ?_ (by decide); omega) h) ?_
            rintro e_ w_ ⟨A78, cp79, rfl, h⟩
            refine ⟨_, rfl, ?_⟩
            refine Sx.wl_v rfl rfl (Sx.ov_move _ rfl) ?_
            refine Sx.wl_call _ rfl rfl rfl ent15 (rSame_calls (R := [listS g12 (y6), Sx.row k66 66 (A78) (cp79) (runsOf (y6).st), listS g3 ((setV ((layV ((setV y6 ((o).f1) ((o).f2) 5).1) ((o).f1) (sliceV y6 ((o).f1) ((o).f2))).1) 0 (((((layV ((setV y6 ((o).f1) ((o).f2) 5).1) ((o).f1) (sliceV y6 ((o).f1) ((o).f2))).1).st.length) : Int)) 7).1), Sx.row k66 66 (A74) (cp75) (runsOf ((layV ((setV y6 ((o).f1) ((o).f2) 5).1) ((o).f1) (sliceV y6 ((o).f1) ((o).f2))).1).st), Sx.row k66 66 (A68) (cp69) (sliceV y6 ((o).f1) ((o).f2)), Sx.row k66 66 (A10) (cp11) (runsOf (y6).st), Sx.blk b9 [.slice (A4) (((y6).st).length) (cp5), .int .i64 ((y6).base)] 28, Sx.row (Kd.int .i64) 3 (A4) (cp5) ((y6).st), Sx.blk b1 [.int .i64 ((o).f0), .int .i64 ((o).f1), .int .i64 ((o).f2), .int .i64 ((o).f3), .slice (Ao0) (((o).f4).length) (co0)] 55] ++ R) (runsOf (y6).st) (runsOf (y6).st) (A78) (A10) (cp79) (cp11) (by refine Nat.le_trans (runs_len _) (Nat.le_trans (m := 65536) ?_ (by decide)); omega) (by refine Nat.le_trans (runs_len _) (Nat.le_trans (m := 65536) ?_ (by decide)); omega) (Sx.row_reads_at (R := [listS g12 (y6), Sx.row k66 66 (A78) (cp79) (runsOf (y6).st), listS g3 ((setV ((layV ((setV y6 ((o).f1) ((o).f2) 5).1) ((o).f1) (sliceV y6 ((o).f1) ((o).f2))).1) 0 (((((layV ((setV y6 ((o).f1) ((o).f2) 5).1) ((o).f1) (sliceV y6 ((o).f1) ((o).f2))).1).st.length) : Int)) 7).1), Sx.row k66 66 (A74) (cp75) (runsOf ((layV ((setV y6 ((o).f1) ((o).f2) 5).1) ((o).f1) (sliceV y6 ((o).f1) ((o).f2))).1).st), Sx.row k66 66 (A68) (cp69) (sliceV y6 ((o).f1) ((o).f2)), Sx.row k66 66 (A10) (cp11) (runsOf (y6).st), Sx.blk b9 [.slice (A4) (((y6).st).length) (cp5), .int .i64 ((y6).base)] 28, Sx.row (Kd.int .i64) 3 (A4) (cp5) ((y6).st), Sx.blk b1 [.int .i64 ((o).f0), .int .i64 ((o).f1), .int .i64 ((o).f2), .int .i64 ((o).f3), .slice (Ao0) (((o).f4).length) (co0)] 55] ++ R) (j := 1) rfl) (Sx.row_reads_at (R := [listS g12 (y6), Sx.row k66 66 (A78) (cp79) (runsOf (y6).st), listS g3 ((setV ((layV ((setV y6 ((o).f1) ((o).f2) 5).1) ((o).f1) (sliceV y6 ((o).f1) ((o).f2))).1) 0 (((((layV ((setV y6 ((o).f1) ((o).f2) 5).1) ((o).f1) (sliceV y6 ((o).f1) ((o).f2))).1).st.length) : Int)) 7).1), Sx.row k66 66 (A74) (cp75) (runsOf ((layV ((setV y6 ((o).f1) ((o).f2) 5).1) ((o).f1) (sliceV y6 ((o).f1) ((o).f2))).1).st), Sx.row k66 66 (A68) (cp69) (sliceV y6 ((o).f1) ((o).f2)), Sx.row k66 66 (A10) (cp11) (runsOf (y6).st), Sx.blk b9 [.slice (A4) (((y6).st).length) (cp5), .int .i64 ((y6).base)] 28, Sx.row (Kd.int .i64) 3 (A4) (cp5) ((y6).st), Sx.blk b1 [.int .i64 ((o).f0), .int .i64 ((o).f1), .int .i64 ((o).f2), .int .i64 ((o).f3), .slice (Ao0) (((o).f4).length) (co0)] 55] ++ R) (j := 5) rfl) h) ?_
            rintro e_ w_ ⟨rfl, h⟩
            refine ⟨_, rfl, ?_⟩
            refine Sx.wl_v rfl rfl (Sx.ov_assign _ rfl) ?_
            refine Sx.wl_nil ?_
            refine Sx.qn_then ?_
            refine Sx.wc_ret ?_
            replace h := Sx.st_selT [false, false, false, false, false, false, false, false, false] h
            refine Sx.qn_ret [_] ⟨rfl, trivial⟩ ?_
            have b_ : (sameB (runsOf (y6).st) (runsOf (y6).st)) = true := by exact sameB_refl _
            exact ⟨congrArg (fun z => Ending.returned (Value.bool z)) b_, h⟩
      · refine Sx.wc_skip ?_
        refine Sx.qn_then ?_
        refine Sx.wc_seq ?_
        refine Sx.wc_region ?_
        refine Sx.wl_v rfl rfl (Sx.ov_move _ rfl) ?_
        refine Sx.wl_v rfl rfl (Sx.ov_move _ rfl) ?_
        refine Sx.wl_call _ rfl rfl rfl ent14 (Len_calls g3 y6   h) ?_
        rintro e_ w_ ⟨rfl, h⟩
        refine ⟨_, rfl, ?_⟩
        refine Sx.wl_call _ rfl rfl rfl ent30 (Set_calls g3 y6 0 ((((y6).st.length) : Int)) 7 (by omega) h) ?_
        rintro e_ w_ ⟨rfl, h⟩
        refine ⟨_, rfl, ?_⟩
        have hln80 : ((setV y6 0 ((((y6).st.length) : Int)) 7).1).st.length ≤ 65536 := setV_len (by omega)
        refine Sx.wl_nil ?_
        refine Sx.qn_then ?_
        refine Sx.wc_seq ?_
        refine Sx.wc_region ?_
        refine Sx.wl_v rfl rfl (Sx.ov_move _ rfl) ?_
        replace h := Sx.st_front 2 h
        refine Sx.wl_call _ rfl rfl rfl ent16 (Runs_calls g12 y6 (by refine Nat.le_trans (m := 65536) ?_ (by decide); omega) h) ?_
        rintro e_ w_ ⟨A81, cp82, rfl, h⟩
        refine ⟨_, rfl, ?_⟩
        refine Sx.wl_v rfl rfl (Sx.ov_move _ rfl) ?_
        refine Sx.wl_call _ rfl rfl rfl ent15 (rSame_calls (R := [listS g12 (y6), Sx.row k66 66 (A81) (cp82) (runsOf (y6).st), listS g3 ((setV y6 0 ((((y6).st.length) : Int)) 7).1), Sx.row k66 66 (A68) (cp69) (sliceV y6 ((o).f1) ((o).f2)), Sx.row k66 66 (A10) (cp11) (runsOf (y6).st), Sx.blk b9 [.slice (A4) (((y6).st).length) (cp5), .int .i64 ((y6).base)] 28, Sx.row (Kd.int .i64) 3 (A4) (cp5) ((y6).st), Sx.blk b1 [.int .i64 ((o).f0), .int .i64 ((o).f1), .int .i64 ((o).f2), .int .i64 ((o).f3), .slice (Ao0) (((o).f4).length) (co0)] 55] ++ R) (runsOf (y6).st) (runsOf (y6).st) (A81) (A10) (cp82) (cp11) (by refine Nat.le_trans (runs_len _) (Nat.le_trans (m := 65536) ?_ (by decide)); omega) (by refine Nat.le_trans (runs_len _) (Nat.le_trans (m := 65536) ?_ (by decide)); omega) (Sx.row_reads_at (R := [listS g12 (y6), Sx.row k66 66 (A81) (cp82) (runsOf (y6).st), listS g3 ((setV y6 0 ((((y6).st.length) : Int)) 7).1), Sx.row k66 66 (A68) (cp69) (sliceV y6 ((o).f1) ((o).f2)), Sx.row k66 66 (A10) (cp11) (runsOf (y6).st), Sx.blk b9 [.slice (A4) (((y6).st).length) (cp5), .int .i64 ((y6).base)] 28, Sx.row (Kd.int .i64) 3 (A4) (cp5) ((y6).st), Sx.blk b1 [.int .i64 ((o).f0), .int .i64 ((o).f1), .int .i64 ((o).f2), .int .i64 ((o).f3), .slice (Ao0) (((o).f4).length) (co0)] 55] ++ R) (j := 1) rfl) (Sx.row_reads_at (R := [listS g12 (y6), Sx.row k66 66 (A81) (cp82) (runsOf (y6).st), listS g3 ((setV y6 0 ((((y6).st.length) : Int)) 7).1), Sx.row k66 66 (A68) (cp69) (sliceV y6 ((o).f1) ((o).f2)), Sx.row k66 66 (A10) (cp11) (runsOf (y6).st), Sx.blk b9 [.slice (A4) (((y6).st).length) (cp5), .int .i64 ((y6).base)] 28, Sx.row (Kd.int .i64) 3 (A4) (cp5) ((y6).st), Sx.blk b1 [.int .i64 ((o).f0), .int .i64 ((o).f1), .int .i64 ((o).f2), .int .i64 ((o).f3), .slice (Ao0) (((o).f4).length) (co0)] 55] ++ R) (j := 4) rfl) h) ?_
        rintro e_ w_ ⟨rfl, h⟩
        refine ⟨_, rfl, ?_⟩
        refine Sx.wl_v rfl rfl (Sx.ov_assign _ rfl) ?_
        refine Sx.wl_nil ?_
        refine Sx.qn_then ?_
        refine Sx.wc_ret ?_
        replace h := Sx.st_selT [false, false, false, false, false, false, false, false] h
        refine Sx.qn_ret [_] ⟨rfl, trivial⟩ ?_
        have b_ : (sameB (runsOf (y6).st) (runsOf (y6).st)) = true := by exact sameB_refl _
        exact ⟨congrArg (fun z => Ending.returned (Value.bool z)) b_, h⟩
end Go.Proofs.Ytkliboeebookeaa.Runs.L
