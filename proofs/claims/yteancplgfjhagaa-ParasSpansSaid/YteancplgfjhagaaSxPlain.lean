/- The walks of the plain answers. -/
import Derived.Test.YteancplgfjhagaaProg
import Derived.Test.YteancplgfjhagaaSxGlue
import Derived.Test.YteancplgfjhagaaSxKinds
import Derived.Test.YteancplgfjhagaaParasTh
import Derived.Test.YteancplgfjhagaaSxParas
import Derived.Test.YteancplgfjhagaaSxParasB
namespace Go.Proofs.Yteancplgfjhagaa.Paras.C
open Go Go.RowKit Go.Proofs.YteancplgfjhagaaW.PrintWords Go.Proofs.Yteancplgfjhagaa.Kinds Go.Proofs.Yteancplgfjhagaa.Paras Go.Proofs.Yteancplgfjhagaa.Paras.B
set_option linter.unusedVariables false
set_option linter.unusedSimpArgs false
theorem infb3 : (Try.prog.info? 3).map (fun i => (i.zero, i.size)) = some (some (.int .i64 (0)), 1) := by kernel_rfl
theorem inf3 : (Try.prog.info? 3).map (fun i => (i.zero, i.size, i.bytes)) = some (some (.int .i64 (0)), 1, 8) := by kernel_rfl
theorem ent13 : Sx.Ent Try.prog 13 := ⟨Try.f13, Try.func13, by kernel_rfl, by kernel_rfl⟩
theorem es23 : Sx.elemSz Try.prog 23 = some (3, 1) := by kernel_rfl
theorem ent28 : Sx.Ent Try.prog 28 := ⟨Try.f28, Try.func28, by kernel_rfl, by kernel_rfl⟩
theorem ent32 : Sx.Ent Try.prog 32 := ⟨Try.f32, Try.func32, by kernel_rfl, by kernel_rfl⟩
theorem ent29 : Sx.Ent Try.prog 29 := ⟨Try.f29, Try.func29, by kernel_rfl, by kernel_rfl⟩
theorem ent14 : Sx.Ent Try.prog 14 := ⟨Try.f14, Try.func14, by kernel_rfl, by kernel_rfl⟩
theorem ent17 : Sx.Ent Try.prog 17 := ⟨Try.f17, Try.func17, by kernel_rfl, by kernel_rfl⟩
theorem sh3 : Sx.shapeOf Try.prog 3 = some (false, 1) := by kernel_rfl
theorem ent15 : Sx.Ent Try.prog 15 := ⟨Try.f15, Try.func15, by kernel_rfl, by kernel_rfl⟩
theorem ent26 : Sx.Ent Try.prog 26 := ⟨Try.f26, Try.func26, by kernel_rfl, by kernel_rfl⟩
theorem zo41 : Sx.zeroOf Try.prog 41 = some (.agg #[.int .i64 (0), .int .i64 (0), .int .i64 (0)]) := by kernel_rfl
theorem sh41 : Sx.shapeOf Try.prog 41 = some (true, 3) := by kernel_rfl
theorem eqs41 : (Try.prog.stoodInHeld 41 || Try.prog.eqGuardType Try.prog.depth 41) = false := by kernel_rfl
theorem eqf41 : Try.prog.underlying 41 = some (.struct (Try.prog.fieldsOf 41)) := by kernel_rfl
set_option maxRecDepth 100000 in
theorem Starts_calls {w0 w : World} {F0 : Nat → Prop} {R : List Sx.HP} (s : ByteArray) (hs : s.size ≤ 1099511627776) (h : Sx.St w0 F0 ([] ++ R) w) : Calls Try.prog 13 #[.string (s)] w (fun e w1 => ∃ A c, e = .returned (.slice A (startsOf s).length c) ∧ Sx.St w0 F0 (Sx.row (Kd.int .i64) 3 A c (startsOf s) :: R) w1) := by
 refine Sx.calls_fn (vs := [.string (s)]) Try.func13 rfl Try.ntmps13 rfl ?_
 refine Sx.wc_seq ?_
 refine Sx.wc_region ?_
 refine Sx.wl_v rfl rfl (Sx.ov_assign _ rfl) ?_
 refine Sx.wl_nil ?_
 refine Sx.qn_then ?_
 refine Sx.wc_seq ?_
 refine Sx.wc_region ?_
 refine Sx.wl_lit (d := (Kd.int .i64)) [] _ [] ([]) h rfl rfl rfl rfl Try.underlying23 infb3 rfl (by decide) (by kernel_rfl) rfl (fun _ _ _ => (Reps.none _ _)) (fun A1 cp2 _ h => ?_)
 refine Sx.wl_v rfl rfl (Sx.ov_assign _ rfl) ?_
 refine Sx.wl_nil ?_
 refine Sx.qn_then ?_
 refine Sx.wc_seq ?_
 refine Sx.wc_seq ?_
 refine Sx.wc_region ?_
 refine Sx.wl_v rfl rfl (Sx.ov_assign _ rfl) ?_
 refine Sx.wl_nil ?_
 refine Sx.qn_then ?_
 refine Sx.wc_block ?_
 have e_ : [] = starts s 0 := by rfl
 replace h := Sx.st_cast (congrArg (fun z_ => ([Sx.row (Kd.int .i64) 3 (A1) (cp2) (z_)] ++ R)) e_) h
 clear e_
 refine Sx.wc_loop (fun (x_ : Nat × (Option Addr) × Nat) => [(0, .string (s)), (3, .slice (x_.2.1) ((starts s x_.1).length) (x_.2.2)), (4, .int .i64 ((x_.1 : Int)))]) (fun (x_ : Nat × (Option Addr) × Nat) (w : World) => (x_.1 ≤ s.size ∧ (starts s x_.1).length ≤ x_.1) ∧ Sx.St w0 F0 ([Sx.row (Kd.int .i64) 3 (x_.2.1) (x_.2.2) (starts s x_.1)] ++ R) w) (fun (x_ : Nat × (Option Addr) × Nat) => s.size - x_.1) (0, A1, cp2) ?_ ?_ ?_
 · exact ⟨rfl, rfl, (congrArg (fun z_ => some (Value.int .i64 z_)) (show (0 : Int) = (0 : Int) by omega)), trivial⟩
 · exact ⟨⟨Nat.zero_le _, Nat.le_refl _⟩, h⟩
 rintro ⟨k, A, c⟩ w h
 obtain ⟨hJ, h⟩ := h
 replace hJ : k ≤ s.size ∧ (starts s k).length ≤ k := hJ
 replace h : Sx.St w0 F0 ([Sx.row (Kd.int .i64) 3 (A) (c) (starts s k)] ++ R) w := h
 show Sx.WC _ _ _ _ [(0, .string (s)), (3, .slice (A) ((starts s k).length) (c)), (4, .int .i64 ((k : Int)))] _
 refine Sx.wc_seq ?_
 refine Sx.wc_seq ?_
 refine Sx.wc_region ?_
 refine Sx.wl_v rfl rfl (Sx.ov_move _ rfl) ?_
 refine Sx.wl_v rfl rfl (Sx.ov_move _ rfl) ?_
 refine Sx.wl_v rfl rfl (Sx.ov_lens _ rfl Try.underlying9) ?_
 refine Sx.wl_v rfl rfl (Sx.ov_bin _ rfl rfl (Sx.binR_lss)) ?_
 refine Sx.wl_nil ?_
 refine Sx.qn_then ?_
 refine Sx.wc_cond (by rfl) (fun c3 => ?_) (fun c3 => ?_)
 ·
  have hk : k < s.size := by omega
  refine Sx.wc_skip ?_
  refine Sx.qn_then ?_
  refine Sx.wc_seq ?_
  refine Sx.wc_block ?_
  refine Sx.wc_seq ?_
  refine Sx.wc_region ?_
  refine Sx.wl_v rfl rfl (Sx.ov_move _ rfl) ?_
  refine Sx.wl_v rfl rfl (Sx.ov_bin _ rfl rfl (Sx.binR_eql)) ?_
  refine Sx.wl_v rfl rfl (Sx.ov_move _ rfl) ?_
  refine Sx.wl_split 14 rfl (fun c4 => ?_) (fun c4 => ?_)
  ·
   refine Sx.wl_skip rfl rfl ?_
   refine Sx.wl_skip rfl rfl ?_
   refine Sx.wl_skip rfl rfl ?_
   refine Sx.wl_skip rfl rfl ?_
   refine Sx.wl_skip rfl rfl ?_
   refine Sx.wl_v rfl rfl (Sx.ov_pick_true _ rfl rfl) ?_
   refine Sx.wl_nil ?_
   refine Sx.qn_then ?_
   refine Sx.wc_cond_true rfl ?_
   refine Sx.wc_region ?_
   refine Sx.wl_v rfl rfl (Sx.ov_move _ rfl) ?_
   refine Sx.wl_v rfl rfl (Sx.ov_move _ rfl) ?_
   refine Sx.wl_lit (d := (Kd.int .i64)) [(0, .int .i64 ((k : Int)))] _ [.int .i64 ((k : Int))] ([(k : Int)]) h rfl rfl rfl rfl Try.underlying23 infb3 rfl (by decide) (by kernel_rfl) rfl (fun _ _ _ => ((Reps.none _ _).snoc ((Sx.mkInt .i64 ((k : Int)))) rfl)) (fun A5 cp6 _ h => ?_)
   refine Sx.wl_append (d := (Kd.int .i64)) (L := starts s k) 1 _ 8 _ _ _ ([(k : Int)]) (Sx.flat_int _) h rfl rfl rfl rfl rfl ((Sx.row_reads h (i := 0) rfl).2) Try.underlying23 inf3 rfl (by decide) (by decide) (by simp only [List.length_cons, List.length_nil, List.length_append]; omega) (by first | rfl | simp) (fun A7 cp8 _ h => ?_)
   replace h := Sx.st_selT [false, true] h
   refine Sx.wl_v rfl rfl (Sx.ov_assign _ rfl) ?_
   refine Sx.wl_nil ?_
   refine Sx.qn_block_normal ?_
   refine Sx.qn_then ?_
   refine Sx.wc_region ?_
   refine Sx.wl_v rfl rfl (Sx.ov_move _ rfl) ?_
   refine Sx.wl_v rfl rfl (Sx.ov_bin _ rfl rfl (Sx.binR_add (r := ((k : Int)) + 1) (Sx.w64 (by omega)))) ?_
   refine Sx.wl_v rfl rfl (Sx.ov_assign _ rfl) ?_
   refine Sx.wl_nil ?_
   have hst : starts s (k + 1) = (starts s k) ++ ([(k : Int)]) := by
     rw [starts]
     first
     | rw [if_pos (Or.inl (by omega))]
     | rw [if_pos (Or.inr (by assumption))]
     | rw [if_neg (fun e => e.elim (fun e1 => by omega) (fun e2 => by contradiction))]
   have e_ : (starts s k) ++ ([(k : Int)]) = starts s (k + 1) := by exact hst.symm
   replace h := Sx.st_cast (congrArg (fun z_ => ([Sx.row (Kd.int .i64) 3 (A7) (cp8) (z_)] ++ R)) e_) h
   clear e_
   refine Sx.qn_next ((k + 1), A7, cp8) (by show s.size - (k + 1) < s.size - k; omega) ⟨rfl, (congrArg (fun z_ => some (Value.slice (A7) z_ (cp8))) (by rw [hst])), (congrArg (fun z_ => some (Value.int .i64 z_)) (show (((k : Int)) + 1 : Int) = ((k + 1) : Int) by omega)), trivial⟩ ?_
   show ((k + 1) ≤ s.size ∧ (starts s (k + 1)).length ≤ (k + 1)) ∧ _
   exact ⟨⟨by omega, by rw [hst]; first | (simp only [List.length_append, List.length_cons, List.length_nil]; omega) | omega⟩, h⟩
  ·
   refine Sx.wl_v rfl rfl (Sx.ov_move _ rfl) ?_
   refine Sx.wl_v rfl rfl (Sx.ov_move _ rfl) ?_
   refine Sx.wl_v rfl rfl (Sx.ov_bin _ rfl rfl (Sx.binR_sub (r := ((k : Int)) - 1) (Sx.w64 (by omega)))) ?_
   refine Sx.wl_v rfl rfl (Sx.ov_indexs _ (k - 1) rfl rfl Try.underlying9 (by omega) (by first | assumption | omega)) ?_
   refine Sx.wl_v rfl rfl (Sx.ov_bin _ rfl rfl (Sx.binR_eql)) ?_
   refine Sx.wl_v rfl rfl (Sx.ov_pick_false _ rfl rfl) ?_
   refine Sx.wl_nil ?_
   refine Sx.qn_then ?_
   refine Sx.wc_cond (by rfl) (fun c9 => ?_) (fun c9 => ?_)
   ·
    refine Sx.wc_region ?_
    refine Sx.wl_v rfl rfl (Sx.ov_move _ rfl) ?_
    refine Sx.wl_v rfl rfl (Sx.ov_move _ rfl) ?_
    refine Sx.wl_lit (d := (Kd.int .i64)) [(0, .int .i64 ((k : Int)))] _ [.int .i64 ((k : Int))] ([(k : Int)]) h rfl rfl rfl rfl Try.underlying23 infb3 rfl (by decide) (by kernel_rfl) rfl (fun _ _ _ => ((Reps.none _ _).snoc ((Sx.mkInt .i64 ((k : Int)))) rfl)) (fun A10 cp11 _ h => ?_)
    refine Sx.wl_append (d := (Kd.int .i64)) (L := starts s k) 1 _ 8 _ _ _ ([(k : Int)]) (Sx.flat_int _) h rfl rfl rfl rfl rfl ((Sx.row_reads h (i := 0) rfl).2) Try.underlying23 inf3 rfl (by decide) (by decide) (by simp only [List.length_cons, List.length_nil, List.length_append]; omega) (by first | rfl | simp) (fun A12 cp13 _ h => ?_)
    replace h := Sx.st_selT [false, true] h
    refine Sx.wl_v rfl rfl (Sx.ov_assign _ rfl) ?_
    refine Sx.wl_nil ?_
    refine Sx.qn_block_normal ?_
    refine Sx.qn_then ?_
    refine Sx.wc_region ?_
    refine Sx.wl_v rfl rfl (Sx.ov_move _ rfl) ?_
    refine Sx.wl_v rfl rfl (Sx.ov_bin _ rfl rfl (Sx.binR_add (r := ((k : Int)) + 1) (Sx.w64 (by omega)))) ?_
    refine Sx.wl_v rfl rfl (Sx.ov_assign _ rfl) ?_
    refine Sx.wl_nil ?_
    have hst : starts s (k + 1) = (starts s k) ++ ([(k : Int)]) := by
      rw [starts]
      first
      | rw [if_pos (Or.inl (by omega))]
      | rw [if_pos (Or.inr (by assumption))]
      | rw [if_neg (fun e => e.elim (fun e1 => by omega) (fun e2 => by contradiction))]
    have e_ : (starts s k) ++ ([(k : Int)]) = starts s (k + 1) := by exact hst.symm
    replace h := Sx.st_cast (congrArg (fun z_ => ([Sx.row (Kd.int .i64) 3 (A12) (cp13) (z_)] ++ R)) e_) h
    clear e_
    refine Sx.qn_next ((k + 1), A12, cp13) (by show s.size - (k + 1) < s.size - k; omega) ⟨rfl, (congrArg (fun z_ => some (Value.slice (A12) z_ (cp13))) (by rw [hst])), (congrArg (fun z_ => some (Value.int .i64 z_)) (show (((k : Int)) + 1 : Int) = ((k + 1) : Int) by omega)), trivial⟩ ?_
    show ((k + 1) ≤ s.size ∧ (starts s (k + 1)).length ≤ (k + 1)) ∧ _
    exact ⟨⟨by omega, by rw [hst]; first | (simp only [List.length_append, List.length_cons, List.length_nil]; omega) | omega⟩, h⟩
   ·
    refine Sx.wc_skip ?_
    refine Sx.qn_block_normal ?_
    refine Sx.qn_then ?_
    refine Sx.wc_region ?_
    refine Sx.wl_v rfl rfl (Sx.ov_move _ rfl) ?_
    refine Sx.wl_v rfl rfl (Sx.ov_bin _ rfl rfl (Sx.binR_add (r := ((k : Int)) + 1) (Sx.w64 (by omega)))) ?_
    refine Sx.wl_v rfl rfl (Sx.ov_assign _ rfl) ?_
    refine Sx.wl_nil ?_
    have hst : starts s (k + 1) = starts s k := by
      rw [starts]
      first
      | rw [if_pos (Or.inl (by omega))]
      | rw [if_pos (Or.inr (by assumption))]
      | rw [if_neg (fun e => e.elim (fun e1 => by omega) (fun e2 => by contradiction))]
    have e_ : starts s k = starts s (k + 1) := by exact hst.symm
    replace h := Sx.st_cast (congrArg (fun z_ => ([Sx.row (Kd.int .i64) 3 (A) (c) (z_)] ++ R)) e_) h
    clear e_
    refine Sx.qn_next ((k + 1), A, c) (by show s.size - (k + 1) < s.size - k; omega) ⟨rfl, (congrArg (fun z_ => some (Value.slice (A) z_ (c))) (by rw [hst])), (congrArg (fun z_ => some (Value.int .i64 z_)) (show (((k : Int)) + 1 : Int) = ((k + 1) : Int) by omega)), trivial⟩ ?_
    show ((k + 1) ≤ s.size ∧ (starts s (k + 1)).length ≤ (k + 1)) ∧ _
    exact ⟨⟨by omega, by rw [hst]; first | (simp only [List.length_append, List.length_cons, List.length_nil]; omega) | omega⟩, h⟩
 ·
  have hke : k = s.size := by omega
  refine Sx.wc_exit ?_
  refine Sx.qn_then_exit ?_
  refine Sx.qn_then_exit ?_
  refine Sx.qn_block_exit ?_
  refine Sx.qn_then ?_
  refine Sx.wc_seq ?_
  refine Sx.wc_region ?_
  refine Sx.wl_v rfl rfl (Sx.ov_move _ rfl) ?_
  refine Sx.wl_v rfl rfl (Sx.ov_move _ rfl) ?_
  refine Sx.wl_v rfl rfl (Sx.ov_lens _ rfl Try.underlying9) ?_
  refine Sx.wl_lit (d := (Kd.int .i64)) [(0, .int .i64 (((s).size : Int)))] _ [.int .i64 (((s).size : Int))] ([((s).size : Int)]) h rfl rfl rfl rfl Try.underlying23 infb3 rfl (by decide) (by kernel_rfl) rfl (fun _ _ _ => ((Reps.none _ _).snoc ((Sx.mkInt .i64 (((s).size : Int)))) rfl)) (fun A14 cp15 _ h => ?_)
  refine Sx.wl_append (d := (Kd.int .i64)) (L := starts s k) 1 _ 8 _ _ _ ([((s).size : Int)]) (Sx.flat_int _) h rfl rfl rfl rfl rfl ((Sx.row_reads h (i := 0) rfl).2) Try.underlying23 inf3 rfl (by decide) (by decide) (by simp only [List.length_cons, List.length_nil, List.length_append]; omega) (by first | rfl | simp) (fun A16 cp17 _ h => ?_)
  replace h := Sx.st_selT [false, true] h
  refine Sx.wl_v rfl rfl (Sx.ov_assign _ rfl) ?_
  refine Sx.wl_nil ?_
  refine Sx.qn_then ?_
  refine Sx.wc_ret ?_
  have e_ : (starts s k) ++ ([((s).size : Int)]) = startsOf s := by rw [hke]; rfl
  replace h := Sx.st_cast (congrArg (fun z_ => ([Sx.row (Kd.int .i64) 3 (A16) (cp17) (z_)] ++ R)) e_) h
  clear e_
  refine Sx.qn_ret [_] ⟨rfl, trivial⟩ ?_
  exact ⟨_, _, congrArg (fun z => Ending.returned (Value.slice (A16) z (cp17))) (by rw [hke]; rfl), h⟩

theorem starts_len (s : ByteArray) : (startsOf s).length = (lensOf s).length + 1 := by rw [starts_bounds, bounds_len]
theorem starts_at (s : ByteArray) (k : Nat) (hk : k ≤ (lensOf s).length) : (startsOf s).getD k 0 = ((lensOf s).take k).sum := by rw [starts_bounds, bounds_getD _ _ hk]
theorem ix_lens (s : ByteArray) : (ixOf s).lens = lensOf s := rfl
theorem ix_size (s : ByteArray) : (ixOf s).size = (s.size : Int) := rfl
theorem ix_open (s : ByteArray) : (ixOf s).open_ = openOf s := rfl
theorem ix_hop (s : ByteArray) (h : (ixOf s).open_ = true) : 0 < (ixOf s).lens.length := by
  rw [ix_open, open_eq] at h
  exact lens_pos (of_decide_eq_true h).1
theorem ix_span (s : ByteArray) (k : Nat) (hk : k < (lensOf s).length) : (spanI (ixOf s) (k : Int)).1 = ((lensOf s).take k).sum ∧ (spanI (ixOf s) (k : Int)).2.1 = ((lensOf s).take (k + 1)).sum ∧ (spanI (ixOf s) (k : Int)).2.2 = true := by
  have e : spanI (ixOf s) (k : Int) = (((lensOf s).take k).sum, ((lensOf s).take (k + 1)).sum, true) := by
    unfold spanI
    rw [ix_lens, if_neg (by omega), Int.toNat_natCast]
  rw [e]; exact ⟨rfl, rfl, rfl⟩

set_option maxRecDepth 100000 in
theorem rCount_calls {w0 w : World} {F0 : Nat → Prop} {R : List Sx.HP} (s : ByteArray) (hs : s.size ≤ 1099511627776) (h : Sx.St w0 F0 ([] ++ R) w) : Calls Try.prog 18 #[.string (s)] w (fun e w1 => e = .returned (.int .i64 ((lensOf s).length : Int)) ∧ Sx.St w0 F0 R w1) := by
 have hsl := starts_len s
 have hlo := lensOf_ok s
 refine Sx.calls_fn (vs := [.string (s)]) Try.func18 rfl Try.ntmps18 rfl ?_
 refine Sx.wc_seq ?_
 refine Sx.wc_region ?_
 refine Sx.wl_v rfl rfl (Sx.ov_assign _ rfl) ?_
 refine Sx.wl_nil ?_
 refine Sx.qn_then ?_
 refine Sx.wc_seq ?_
 refine Sx.wc_region ?_
 refine Sx.wl_v rfl rfl (Sx.ov_move _ rfl) ?_
 refine Sx.wl_call _ rfl rfl rfl ent13 (Starts_calls (R := [] ++ R) s (by omega) h) ?_
 rintro e_ w_ ⟨A1, cp2, rfl, h⟩
 refine ⟨_, rfl, ?_⟩
 refine Sx.wl_v rfl rfl (Sx.ov_len _ _ _ _ _ rfl es23) ?_
 refine Sx.wl_v rfl rfl (Sx.ov_bin _ rfl rfl (Sx.binR_sub (r := ((((startsOf s).length : Nat) : Int)) - 1) (Sx.w64 (by omega)))) ?_
 refine Sx.wl_v rfl rfl (Sx.ov_assign _ rfl) ?_
 refine Sx.wl_nil ?_
 refine Sx.qn_then ?_
 refine Sx.wc_ret ?_
 replace h := Sx.st_selT [false] h
 refine Sx.qn_ret [_] ⟨rfl, trivial⟩ ?_
 exact ⟨congrArg (fun z => Ending.returned (Value.int .i64 z)) (by omega), h⟩
set_option maxRecDepth 100000 in
theorem rOpen_calls {w0 w : World} {F0 : Nat → Prop} {R : List Sx.HP} (s : ByteArray) (hs : s.size ≤ 1099511627776) (h : Sx.St w0 F0 ([] ++ R) w) : Calls Try.prog 14 #[.string (s)] w (fun e w1 => e = .returned (.bool (decide (openP s))) ∧ Sx.St w0 F0 R w1) := by
 refine Sx.calls_fn (vs := [.string (s)]) Try.func14 rfl Try.ntmps14 rfl ?_
 refine Sx.wc_seq ?_
 refine Sx.wc_region ?_
 refine Sx.wl_v rfl rfl (Sx.ov_assign _ rfl) ?_
 refine Sx.wl_nil ?_
 refine Sx.qn_then ?_
 refine Sx.wc_seq ?_
 refine Sx.wc_region ?_
 refine Sx.wl_v rfl rfl (Sx.ov_move _ rfl) ?_
 refine Sx.wl_v rfl rfl (Sx.ov_lens _ rfl Try.underlying9) ?_
 refine Sx.wl_v rfl rfl (Sx.ov_bin _ rfl rfl (Sx.binR_gtr)) ?_
 refine Sx.wl_v rfl rfl (Sx.ov_move _ rfl) ?_
 refine Sx.wl_split 6 rfl (fun c1 => ?_) (fun c1 => ?_)
 ·
  refine Sx.wl_v rfl rfl (Sx.ov_move _ rfl) ?_
  refine Sx.wl_v rfl rfl (Sx.ov_move _ rfl) ?_
  refine Sx.wl_v rfl rfl (Sx.ov_lens _ rfl Try.underlying9) ?_
  refine Sx.wl_v rfl rfl (Sx.ov_bin _ rfl rfl (Sx.binR_sub (r := (((s).size : Int)) - 1) (Sx.w64 (by omega)))) ?_
  refine Sx.wl_v rfl rfl (Sx.ov_indexs _ (((s).size) - 1) rfl rfl Try.underlying9 (by omega) (by first | assumption | omega)) ?_
  refine Sx.wl_v rfl rfl (Sx.ov_bin _ rfl rfl (Sx.binR_neq)) ?_
  refine Sx.wl_v rfl rfl (Sx.ov_pick_true _ rfl rfl) ?_
  refine Sx.wl_v rfl rfl (Sx.ov_assign _ rfl) ?_
  refine Sx.wl_nil ?_
  refine Sx.qn_then ?_
  refine Sx.wc_ret ?_
  refine Sx.qn_ret [_] ⟨rfl, trivial⟩ ?_
  exact ⟨congrArg (fun b => Ending.returned (Value.bool b)) (decide_eq_decide.2 ⟨fun e => ⟨by omega, e⟩, fun e => e.2⟩), h⟩
 ·
  refine Sx.wl_skip rfl rfl ?_
  refine Sx.wl_skip rfl rfl ?_
  refine Sx.wl_skip rfl rfl ?_
  refine Sx.wl_skip rfl rfl ?_
  refine Sx.wl_skip rfl rfl ?_
  refine Sx.wl_skip rfl rfl ?_
  refine Sx.wl_v rfl rfl (Sx.ov_pick_false _ rfl rfl) ?_
  refine Sx.wl_v rfl rfl (Sx.ov_assign _ rfl) ?_
  refine Sx.wl_nil ?_
  refine Sx.qn_then ?_
  refine Sx.wc_ret ?_
  refine Sx.qn_ret [_] ⟨rfl, trivial⟩ ?_
  exact ⟨congrArg (fun b => Ending.returned (Value.bool b)) ((decide_eq_false (fun e => by have := e.1; omega)).symm), h⟩
set_option maxRecDepth 100000 in
theorem rFind_calls {w0 w : World} {F0 : Nat → Prop} {R : List Sx.HP} (s : ByteArray) (a : Int) (hs : s.size ≤ 1099511627776) (ha : 0 ≤ a) (ha2 : a ≤ s.size) (h : Sx.St w0 F0 ([] ++ R) w) : Calls Try.prog 19 #[.string (s), .int .i64 (a)] w (fun e w1 => e = .returned (.int .i64 ((nlc s a.toNat : Nat) : Int)) ∧ Sx.St w0 F0 R w1) := by
 refine Sx.calls_fn (vs := [.string (s), .int .i64 (a)]) Try.func19 rfl Try.ntmps19 rfl ?_
 refine Sx.wc_seq ?_
 refine Sx.wc_region ?_
 refine Sx.wl_v rfl rfl (Sx.ov_assign _ rfl) ?_
 refine Sx.wl_nil ?_
 refine Sx.qn_then ?_
 refine Sx.wc_seq ?_
 refine Sx.wc_region ?_
 refine Sx.wl_v rfl rfl (Sx.ov_assign _ rfl) ?_
 refine Sx.wl_nil ?_
 refine Sx.qn_then ?_
 refine Sx.wc_seq ?_
 refine Sx.wc_seq ?_
 refine Sx.wc_region ?_
 refine Sx.wl_v rfl rfl (Sx.ov_assign _ rfl) ?_
 refine Sx.wl_nil ?_
 refine Sx.qn_then ?_
 refine Sx.wc_block ?_
 refine Sx.wc_loop (fun (x_ : Nat) => [(0, .string (s)), (1, .int .i64 (a)), (5, .int .i64 ((nlc s x_ : Int))), (6, .int .i64 ((x_ : Int)))]) (fun (x_ : Nat) (w : World) => (x_ ≤ s.size ∧ (x_ : Int) ≤ a) ∧ Sx.St w0 F0 ([] ++ R) w) (fun (x_ : Nat) => s.size - x_) (0) ?_ ?_ ?_
 · exact ⟨rfl, rfl, (congrArg (fun z_ => some (Value.int .i64 z_)) (show (0 : Int) = (nlc s 0 : Int) by rfl)), (congrArg (fun z_ => some (Value.int .i64 z_)) (show (0 : Int) = (0 : Int) by omega)), trivial⟩
 · exact ⟨⟨Nat.zero_le _, by omega⟩, h⟩
 intro k w h
 obtain ⟨hJ, h⟩ := h
 replace hJ : k ≤ s.size ∧ (k : Int) ≤ a := hJ
 replace h : Sx.St w0 F0 ([] ++ R) w := h
 show Sx.WC _ _ _ _ [(0, .string (s)), (1, .int .i64 (a)), (5, .int .i64 ((nlc s k : Int))), (6, .int .i64 ((k : Int)))] _
 refine Sx.wc_seq ?_
 refine Sx.wc_seq ?_
 refine Sx.wc_region ?_
 refine Sx.wl_v rfl rfl (Sx.ov_move _ rfl) ?_
 refine Sx.wl_v rfl rfl (Sx.ov_move _ rfl) ?_
 refine Sx.wl_v rfl rfl (Sx.ov_bin _ rfl rfl (Sx.binR_lss)) ?_
 refine Sx.wl_nil ?_
 refine Sx.qn_then ?_
 refine Sx.wc_cond (by rfl) (fun c1 => ?_) (fun c1 => ?_)
 ·
  have hk : k < s.size := by omega
  have hnl : nlc s k ≤ k := by rw [nlc_cut]; exact (cut_le s k).2.1
  refine Sx.wc_skip ?_
  refine Sx.qn_then ?_
  refine Sx.wc_seq ?_
  refine Sx.wc_block ?_
  refine Sx.wc_seq ?_
  refine Sx.wc_region ?_
  refine Sx.wl_v rfl rfl (Sx.ov_move _ rfl) ?_
  refine Sx.wl_v rfl rfl (Sx.ov_move _ rfl) ?_
  refine Sx.wl_v rfl rfl (Sx.ov_indexs _ k rfl rfl Try.underlying9 rfl (by first | assumption | omega)) ?_
  refine Sx.wl_v rfl rfl (Sx.ov_bin _ rfl rfl (Sx.binR_eql)) ?_
  refine Sx.wl_nil ?_
  refine Sx.qn_then ?_
  refine Sx.wc_cond (by rfl) (fun c2 => ?_) (fun c2 => ?_)
  ·
   refine Sx.wc_region ?_
   refine Sx.wl_v rfl rfl (Sx.ov_move _ rfl) ?_
   refine Sx.wl_v rfl rfl (Sx.ov_bin _ rfl rfl (Sx.binR_add (r := ((nlc s k : Int)) + 1) (Sx.w64 (by omega)))) ?_
   refine Sx.wl_v rfl rfl (Sx.ov_assign _ rfl) ?_
   refine Sx.wl_nil ?_
   refine Sx.qn_block_normal ?_
   refine Sx.qn_then ?_
   refine Sx.wc_region ?_
   refine Sx.wl_v rfl rfl (Sx.ov_move _ rfl) ?_
   refine Sx.wl_v rfl rfl (Sx.ov_bin _ rfl rfl (Sx.binR_add (r := ((k : Int)) + 1) (Sx.w64 (by omega)))) ?_
   refine Sx.wl_v rfl rfl (Sx.ov_assign _ rfl) ?_
   refine Sx.wl_nil ?_
   refine Sx.qn_next ((k + 1)) (by show s.size - (k + 1) < s.size - k; omega) ⟨rfl, rfl, (congrArg (fun z_ => some (Value.int .i64 z_)) (show (((nlc s k : Int)) + 1 : Int) = (nlc s (k + 1) : Int) by rw [nlc]; first | (rw [if_pos (by assumption)]; omega) | rw [if_neg (by assumption)])), (congrArg (fun z_ => some (Value.int .i64 z_)) (show (((k : Int)) + 1 : Int) = ((k + 1) : Int) by omega)), trivial⟩ ?_
   show ((k + 1) ≤ s.size ∧ ((k + 1) : Int) ≤ a) ∧ _
   exact ⟨by first | omega | simp, h⟩
  ·
   refine Sx.wc_skip ?_
   refine Sx.qn_block_normal ?_
   refine Sx.qn_then ?_
   refine Sx.wc_region ?_
   refine Sx.wl_v rfl rfl (Sx.ov_move _ rfl) ?_
   refine Sx.wl_v rfl rfl (Sx.ov_bin _ rfl rfl (Sx.binR_add (r := ((k : Int)) + 1) (Sx.w64 (by omega)))) ?_
   refine Sx.wl_v rfl rfl (Sx.ov_assign _ rfl) ?_
   refine Sx.wl_nil ?_
   refine Sx.qn_next ((k + 1)) (by show s.size - (k + 1) < s.size - k; omega) ⟨rfl, rfl, (congrArg (fun z_ => some (Value.int .i64 z_)) (show ((nlc s k : Int) : Int) = (nlc s (k + 1) : Int) by rw [nlc]; first | (rw [if_pos (by assumption)]; omega) | rw [if_neg (by assumption)])), (congrArg (fun z_ => some (Value.int .i64 z_)) (show (((k : Int)) + 1 : Int) = ((k + 1) : Int) by omega)), trivial⟩ ?_
   show ((k + 1) ≤ s.size ∧ ((k + 1) : Int) ≤ a) ∧ _
   exact ⟨by first | omega | simp, h⟩
 ·
  have hke : k = a.toNat := by omega
  refine Sx.wc_exit ?_
  refine Sx.qn_then_exit ?_
  refine Sx.qn_then_exit ?_
  refine Sx.qn_block_exit ?_
  refine Sx.qn_then ?_
  refine Sx.wc_seq ?_
  refine Sx.wc_region ?_
  refine Sx.wl_v rfl rfl (Sx.ov_move _ rfl) ?_
  refine Sx.wl_v rfl rfl (Sx.ov_assign _ rfl) ?_
  refine Sx.wl_nil ?_
  refine Sx.qn_then ?_
  refine Sx.wc_ret ?_
  refine Sx.qn_ret [_] ⟨rfl, trivial⟩ ?_
  rw [← hke]
  exact ⟨rfl, h⟩
set_option maxRecDepth 100000 in
theorem rSpan_calls {w0 w : World} {F0 : Nat → Prop} {R : List Sx.HP} (s : ByteArray) (a b : Int)  (h : Sx.St w0 F0 ([] ++ R) w) : Calls Try.prog 22 #[.string (s), .int .i64 (a), .int .i64 (b)] w (fun e w1 => e = .returned (.int .i64 (errI (ixOf s) a b)) ∧ Sx.St w0 F0 R w1) := by
 have hz_ := ix_size s
 refine Sx.calls_fn (vs := [.string (s), .int .i64 (a), .int .i64 (b)]) Try.func22 rfl Try.ntmps22 rfl ?_
 refine Sx.wc_seq ?_
 refine Sx.wc_region ?_
 refine Sx.wl_v rfl rfl (Sx.ov_assign _ rfl) ?_
 refine Sx.wl_nil ?_
 refine Sx.qn_then ?_
 refine Sx.wc_seq ?_
 refine Sx.wc_seq ?_
 refine Sx.wc_region ?_
 refine Sx.wl_v rfl rfl (Sx.ov_move _ rfl) ?_
 refine Sx.wl_v rfl rfl (Sx.ov_bin _ rfl rfl (Sx.binR_lss)) ?_
 refine Sx.wl_v rfl rfl (Sx.ov_move _ rfl) ?_
 refine Sx.wl_split 9 rfl (fun c1 => ?_) (fun c1 => ?_)
 ·
  refine Sx.wl_skip rfl rfl ?_
  refine Sx.wl_skip rfl rfl ?_
  refine Sx.wl_skip rfl rfl ?_
  refine Sx.wl_skip rfl rfl ?_
  refine Sx.wl_v rfl rfl (Sx.ov_pick_true _ rfl rfl) ?_
  refine Sx.wl_v rfl rfl (Sx.ov_move _ rfl) ?_
  refine Sx.wl_skip rfl rfl ?_
  refine Sx.wl_skip rfl rfl ?_
  refine Sx.wl_skip rfl rfl ?_
  refine Sx.wl_v rfl rfl (Sx.ov_pick_true _ rfl rfl) ?_
  refine Sx.wl_nil ?_
  refine Sx.qn_then ?_
  refine Sx.wc_cond_true rfl ?_
  refine Sx.wc_seq ?_
  refine Sx.wc_region ?_
  refine Sx.wl_v rfl rfl (Sx.ov_assign _ rfl) ?_
  refine Sx.wl_nil ?_
  refine Sx.qn_then ?_
  refine Sx.wc_ret ?_
  refine Sx.qn_then_ret ?_
  refine Sx.qn_ret [_] ⟨rfl, trivial⟩ ?_
  exact ⟨congrArg (fun z => Ending.returned (Value.int .i64 z)) (by unfold errI; first | rw [if_pos (by omega)] | rw [if_neg (by omega)]), h⟩
 ·
  refine Sx.wl_v rfl rfl (Sx.ov_move _ rfl) ?_
  refine Sx.wl_v rfl rfl (Sx.ov_move _ rfl) ?_
  refine Sx.wl_v rfl rfl (Sx.ov_lens _ rfl Try.underlying9) ?_
  refine Sx.wl_v rfl rfl (Sx.ov_bin _ rfl rfl (Sx.binR_gtr)) ?_
  refine Sx.wl_v rfl rfl (Sx.ov_pick_false _ rfl rfl) ?_
  refine Sx.wl_v rfl rfl (Sx.ov_move _ rfl) ?_
  refine Sx.wl_split 15 rfl (fun c2 => ?_) (fun c2 => ?_)
  ·
   refine Sx.wl_skip rfl rfl ?_
   refine Sx.wl_skip rfl rfl ?_
   refine Sx.wl_skip rfl rfl ?_
   refine Sx.wl_v rfl rfl (Sx.ov_pick_true _ rfl rfl) ?_
   refine Sx.wl_nil ?_
   refine Sx.qn_then ?_
   refine Sx.wc_cond_true rfl ?_
   refine Sx.wc_seq ?_
   refine Sx.wc_region ?_
   refine Sx.wl_v rfl rfl (Sx.ov_assign _ rfl) ?_
   refine Sx.wl_nil ?_
   refine Sx.qn_then ?_
   refine Sx.wc_ret ?_
   refine Sx.qn_then_ret ?_
   refine Sx.qn_ret [_] ⟨rfl, trivial⟩ ?_
   exact ⟨congrArg (fun z => Ending.returned (Value.int .i64 z)) (by unfold errI; first | rw [if_pos (by omega)] | rw [if_neg (by omega)]), h⟩
  ·
   refine Sx.wl_v rfl rfl (Sx.ov_move _ rfl) ?_
   refine Sx.wl_v rfl rfl (Sx.ov_move _ rfl) ?_
   refine Sx.wl_v rfl rfl (Sx.ov_bin _ rfl rfl (Sx.binR_gtr)) ?_
   refine Sx.wl_v rfl rfl (Sx.ov_pick_false _ rfl rfl) ?_
   refine Sx.wl_nil ?_
   refine Sx.qn_then ?_
   refine Sx.wc_cond (by rfl) (fun c3 => ?_) (fun c3 => ?_)
   ·
    refine Sx.wc_seq ?_
    refine Sx.wc_region ?_
    refine Sx.wl_v rfl rfl (Sx.ov_assign _ rfl) ?_
    refine Sx.wl_nil ?_
    refine Sx.qn_then ?_
    refine Sx.wc_ret ?_
    refine Sx.qn_then_ret ?_
    refine Sx.qn_ret [_] ⟨rfl, trivial⟩ ?_
    exact ⟨congrArg (fun z => Ending.returned (Value.int .i64 z)) (by unfold errI; first | rw [if_pos (by omega)] | rw [if_neg (by omega)]), h⟩
   ·
    refine Sx.wc_skip ?_
    refine Sx.qn_then ?_
    refine Sx.wc_seq ?_
    refine Sx.wc_region ?_
    refine Sx.wl_v rfl rfl (Sx.ov_assign _ rfl) ?_
    refine Sx.wl_nil ?_
    refine Sx.qn_then ?_
    refine Sx.wc_ret ?_
    refine Sx.qn_ret [_] ⟨rfl, trivial⟩ ?_
    exact ⟨congrArg (fun z => Ending.returned (Value.int .i64 z)) (by unfold errI; first | rw [if_pos (by omega)] | rw [if_neg (by omega)]), h⟩
set_option maxRecDepth 100000 in
theorem is_calls {w0 w : World} {F0 : Nat → Prop} {R : List Sx.HP} (g : Nat) (s : ByteArray) (hs : s.size ≤ 1099511627776) (h : Sx.St w0 F0 ([ixB g (ixOf s)] ++ R) w) : Calls Try.prog 23 #[.pointer (some ⟨g, 0, none⟩), .string (s)] w (fun e w1 => e = .returned (.bool true) ∧ Sx.St w0 F0 (ixB g (ixOf s) :: R) w1) := by
 have hsl := starts_len s
 have hlo := lensOf_ok s
 have hix := ixOf_ok s hs
 have hxl := congrArg List.length (ix_lens s)
 have hxs := ix_size s
 refine Sx.calls_fn (vs := [.pointer (some ⟨g, 0, none⟩), .string (s)]) Try.func23 rfl Try.ntmps23 rfl ?_
 refine Sx.wc_seq ?_
 refine Sx.wc_region ?_
 refine Sx.wl_v rfl rfl (Sx.ov_assign _ rfl) ?_
 refine Sx.wl_nil ?_
 refine Sx.qn_then ?_
 refine Sx.wc_seq ?_
 refine Sx.wc_region ?_
 refine Sx.wl_v rfl rfl (Sx.ov_move _ rfl) ?_
 refine Sx.wl_call _ rfl rfl rfl ent13 (Starts_calls (R := [ixB g (ixOf s)] ++ R) s (by omega) h) ?_
 rintro e_ w_ ⟨A1, cp2, rfl, h⟩
 refine ⟨_, rfl, ?_⟩
 refine Sx.wl_v rfl rfl (Sx.ov_assign _ rfl) ?_
 refine Sx.wl_nil ?_
 refine Sx.qn_then ?_
 refine Sx.wc_seq ?_
 refine Sx.wc_seq ?_
 refine Sx.wc_region ?_
 refine Sx.wl_v rfl rfl (Sx.ov_move _ rfl) ?_
 replace h := Sx.st_front 1 h
 refine Sx.wl_call _ rfl rfl rfl ent28 (Count_calls (R := [Sx.row (Kd.int .i64) 3 (A1) (cp2) (startsOf s)] ++ R) g (ixOf s)   h) ?_
 rintro e_ w_ ⟨rfl, h⟩
 refine ⟨_, rfl, ?_⟩
 refine Sx.wl_v rfl rfl (Sx.ov_move _ rfl) ?_
 refine Sx.wl_v rfl rfl (Sx.ov_len _ _ _ _ _ rfl es23) ?_
 refine Sx.wl_v rfl rfl (Sx.ov_bin _ rfl rfl (Sx.binR_sub (r := ((((startsOf s).length : Nat) : Int)) - 1) (Sx.w64 (by omega)))) ?_
 refine Sx.wl_v rfl rfl (Sx.ov_bin _ rfl rfl (Sx.binR_neq)) ?_
 refine Sx.wl_v rfl rfl (Sx.ov_move _ rfl) ?_
 refine Sx.wl_split 18 rfl (fun c3 => ?_) (fun c3 => ?_)
 ·
  omega
 ·
  refine Sx.wl_v rfl rfl (Sx.ov_move _ rfl) ?_
  refine Sx.wl_call _ rfl rfl rfl ent32 (Size_calls (R := [Sx.row (Kd.int .i64) 3 (A1) (cp2) (startsOf s)] ++ R) g (ixOf s)   h) ?_
  rintro e_ w_ ⟨rfl, h⟩
  refine ⟨_, rfl, ?_⟩
  refine Sx.wl_v rfl rfl (Sx.ov_move _ rfl) ?_
  refine Sx.wl_v rfl rfl (Sx.ov_lens _ rfl Try.underlying9) ?_
  refine Sx.wl_v rfl rfl (Sx.ov_bin _ rfl rfl (Sx.binR_neq)) ?_
  refine Sx.wl_v rfl rfl (Sx.ov_pick_false _ rfl rfl) ?_
  refine Sx.wl_v rfl rfl (Sx.ov_move _ rfl) ?_
  refine Sx.wl_split 25 rfl (fun c4 => ?_) (fun c4 => ?_)
  ·
   omega
  ·
   refine Sx.wl_v rfl rfl (Sx.ov_move _ rfl) ?_
   refine Sx.wl_call _ rfl rfl rfl ent29 (Open_calls (R := [Sx.row (Kd.int .i64) 3 (A1) (cp2) (startsOf s)] ++ R) g (ixOf s)   h) ?_
   rintro e_ w_ ⟨rfl, h⟩
   refine ⟨_, rfl, ?_⟩
   refine Sx.wl_v rfl rfl (Sx.ov_move _ rfl) ?_
   refine Sx.wl_call _ rfl rfl rfl ent14 (rOpen_calls (R := [ixB g (ixOf s), Sx.row (Kd.int .i64) 3 (A1) (cp2) (startsOf s)] ++ R) s (by omega) h) ?_
   rintro e_ w_ ⟨rfl, h⟩
   refine ⟨_, rfl, ?_⟩
   refine Sx.wl_v rfl rfl (Sx.ov_bin _ rfl rfl (Sx.binR_neb Try.underlying4)) ?_
   refine Sx.wl_v rfl rfl (Sx.ov_pick_false _ rfl rfl) ?_
   refine Sx.wl_nil ?_
   refine Sx.qn_then ?_
   refine Sx.wc_cond (by rfl) (fun c5 => ?_) (fun c5 => ?_)
   ·
    exact absurd ((ix_open s).trans (open_eq s)) c5
   ·
    refine Sx.wc_skip ?_
    refine Sx.qn_then ?_
    refine Sx.wc_seq ?_
    refine Sx.wc_seq ?_
    refine Sx.wc_region ?_
    refine Sx.wl_v rfl rfl (Sx.ov_assign _ rfl) ?_
    refine Sx.wl_nil ?_
    refine Sx.qn_then ?_
    refine Sx.wc_block ?_
    replace h := Sx.st_front 1 h
    replace h := Sx.st_front 1 h
    refine Sx.wc_loop (fun (x_ : Nat × (Option Addr)) => [(0, .pointer (some ⟨g, 0, none⟩)), (1, .string (s)), (5, .slice (x_.2) ((startsOf s).length) (cp2)), (6, .int .i64 ((x_.1 : Int)))]) (fun (x_ : Nat × (Option Addr)) (w : World) => (x_.1 ≤ (lensOf s).length) ∧ Sx.St w0 F0 ([ixB g (ixOf s), Sx.row (Kd.int .i64) 3 (x_.2) (cp2) (startsOf s)] ++ R) w) (fun (x_ : Nat × (Option Addr)) => (lensOf s).length - x_.1) (0, A1) ?_ ?_ ?_
    · exact ⟨rfl, rfl, rfl, (congrArg (fun z_ => some (Value.int .i64 z_)) (show (0 : Int) = (0 : Int) by omega)), trivial⟩
    · exact ⟨by first | omega | simp, h⟩
    rintro ⟨k, A⟩ w h
    obtain ⟨hJ, h⟩ := h
    replace hJ : k ≤ (lensOf s).length := hJ
    replace h : Sx.St w0 F0 ([ixB g (ixOf s), Sx.row (Kd.int .i64) 3 (A) (cp2) (startsOf s)] ++ R) w := h
    show Sx.WC _ _ _ _ [(0, .pointer (some ⟨g, 0, none⟩)), (1, .string (s)), (5, .slice (A) ((startsOf s).length) (cp2)), (6, .int .i64 ((k : Int)))] _
    refine Sx.wc_seq ?_
    refine Sx.wc_seq ?_
    refine Sx.wc_region ?_
    refine Sx.wl_v rfl rfl (Sx.ov_move _ rfl) ?_
    refine Sx.wl_v rfl rfl (Sx.ov_bin _ rfl rfl (Sx.binR_add (r := ((k : Int)) + 1) (Sx.w64 (by omega)))) ?_
    refine Sx.wl_v rfl rfl (Sx.ov_move _ rfl) ?_
    refine Sx.wl_v rfl rfl (Sx.ov_len _ _ _ _ _ rfl es23) ?_
    refine Sx.wl_v rfl rfl (Sx.ov_bin _ rfl rfl (Sx.binR_lss)) ?_
    refine Sx.wl_nil ?_
    refine Sx.qn_then ?_
    refine Sx.wc_cond (by rfl) (fun c6 => ?_) (fun c6 => ?_)
    ·
     have hk : k < (lensOf s).length := by omega
     have hsp := ix_span s k hk
     have hb1 := starts_at s k (by omega)
     have hb2 := starts_at s (k + 1) (by omega)
     refine Sx.wc_skip ?_
     refine Sx.qn_then ?_
     refine Sx.wc_seq ?_
     refine Sx.wc_block ?_
     refine Sx.wc_seq ?_
     refine Sx.wc_region ?_
     refine Sx.wl_v rfl rfl (Sx.ov_move _ rfl) ?_
     refine Sx.wl_v rfl rfl (Sx.ov_move _ rfl) ?_
     refine Sx.wl_call _ rfl rfl rfl ent17 (Span_calls (R := [Sx.row (Kd.int .i64) 3 (A) (cp2) (startsOf s)] ++ R) g (ixOf s) ((k : Int)) (by assumption) h) ?_
     rintro e_ w_ ⟨rfl, h⟩
     refine ⟨_, rfl, ?_⟩
     refine Sx.wl_v rfl rfl (Sx.ov_move _ rfl) ?_
     refine Sx.wl_v rfl rfl (Sx.ov_extract [.int .i64 ((spanI (ixOf s) ((k : Int))).1), .int .i64 ((spanI (ixOf s) ((k : Int))).2.1), .bool ((spanI (ixOf s) ((k : Int))).2.2)] _ rfl rfl) ?_
     refine Sx.wl_v rfl rfl (Sx.ov_extract [.int .i64 ((spanI (ixOf s) ((k : Int))).1), .int .i64 ((spanI (ixOf s) ((k : Int))).2.1), .bool ((spanI (ixOf s) ((k : Int))).2.2)] _ rfl rfl) ?_
     refine Sx.wl_v rfl rfl (Sx.ov_extract [.int .i64 ((spanI (ixOf s) ((k : Int))).1), .int .i64 ((spanI (ixOf s) ((k : Int))).2.1), .bool ((spanI (ixOf s) ((k : Int))).2.2)] _ rfl rfl) ?_
     refine Sx.wl_v rfl rfl (Sx.ov_assign _ rfl) ?_
     refine Sx.wl_v rfl rfl (Sx.ov_assign _ rfl) ?_
     refine Sx.wl_v rfl rfl (Sx.ov_assign _ rfl) ?_
     refine Sx.wl_nil ?_
     refine Sx.qn_then ?_
     refine Sx.wc_seq ?_
     refine Sx.wc_region ?_
     refine Sx.wl_v rfl rfl (Sx.ov_move _ rfl) ?_
     refine Sx.wl_v rfl rfl (Sx.ov_move _ rfl) ?_
     refine Sx.wl_v rfl rfl (Sx.ov_move _ rfl) ?_
     obtain ⟨ad7, rfl⟩ := Sx.C_some ((Sx.row_reads h (i := 1) rfl).2) (k := k) (by first | assumption | omega)
     refine Sx.wl_v rfl rfl (Sx.ov_indexAddrN _ _ _ _ _ k rfl rfl es23 rfl (by first | assumption | omega | (simp only [List.length_take, List.length_drop, List.length_set]; omega))) ?_
     obtain ⟨cl10, _, hk9, hc8⟩ := Sx.C_cells ((Sx.row_reads h (i := 1) rfl).2) (z := (0 : Int)) (k := k) (by first | assumption | omega)
     obtain rfl : cl10 = [.int .i64 _] := hk9
     refine Sx.wl_v rfl rfl (Sx.ov_load1 _ _ rfl sh3 ((hc8 0 _ rfl))) ?_
     refine Sx.wl_v rfl rfl (Sx.ov_bin _ rfl rfl (Sx.binR_neq)) ?_
     refine Sx.wl_v rfl rfl (Sx.ov_move _ rfl) ?_
     refine Sx.wl_split 52 rfl (fun c11 => ?_) (fun c11 => ?_)
     ·
      omega
     ·
      refine Sx.wl_v rfl rfl (Sx.ov_move _ rfl) ?_
      refine Sx.wl_v rfl rfl (Sx.ov_move _ rfl) ?_
      refine Sx.wl_v rfl rfl (Sx.ov_move _ rfl) ?_
      refine Sx.wl_v rfl rfl (Sx.ov_bin _ rfl rfl (Sx.binR_add (r := ((k : Int)) + 1) (Sx.w64 (by omega)))) ?_
      refine Sx.wl_v rfl rfl (Sx.ov_indexAddrN _ _ _ _ _ (k + 1) rfl rfl es23 (by omega) (by first | assumption | omega | (simp only [List.length_take, List.length_drop, List.length_set]; omega))) ?_
      obtain ⟨cl14, _, hk13, hc12⟩ := Sx.C_cells ((Sx.row_reads h (i := 1) rfl).2) (z := (0 : Int)) (k := (k + 1)) (by first | assumption | omega)
      obtain rfl : cl14 = [.int .i64 _] := hk13
      refine Sx.wl_v rfl rfl (Sx.ov_load1 _ _ rfl sh3 ((hc12 0 _ rfl))) ?_
      refine Sx.wl_v rfl rfl (Sx.ov_bin _ rfl rfl (Sx.binR_neq)) ?_
      refine Sx.wl_v rfl rfl (Sx.ov_pick_false _ rfl rfl) ?_
      refine Sx.wl_v rfl rfl (Sx.ov_move _ rfl) ?_
      refine Sx.wl_split 61 rfl (fun c15 => ?_) (fun c15 => ?_)
      ·
       omega
      ·
       refine Sx.wl_v rfl rfl (Sx.ov_move _ rfl) ?_
       refine Sx.wl_v rfl rfl (Sx.ov_notb _ rfl) ?_
       refine Sx.wl_v rfl rfl (Sx.ov_pick_false _ rfl rfl) ?_
       refine Sx.wl_nil ?_
       refine Sx.qn_then ?_
       refine Sx.wc_condb (by rfl) (fun c16 => ?_) (fun c16 => ?_)
       ·
        exact absurd c16 (by rw [hsp.2.2]; decide)
       ·
        refine Sx.wc_skip ?_
        refine Sx.qn_block_normal ?_
        refine Sx.qn_then ?_
        refine Sx.wc_region ?_
        refine Sx.wl_v rfl rfl (Sx.ov_move _ rfl) ?_
        refine Sx.wl_v rfl rfl (Sx.ov_bin _ rfl rfl (Sx.binR_add (r := ((k : Int)) + 1) (Sx.w64 (by omega)))) ?_
        refine Sx.wl_v rfl rfl (Sx.ov_assign _ rfl) ?_
        refine Sx.wl_nil ?_
        replace h := Sx.st_front 1 h
        replace h := Sx.st_front 1 h
        refine Sx.qn_next ((k + 1), some ad7) (by show (lensOf s).length - (k + 1) < (lensOf s).length - k; omega) ⟨rfl, rfl, rfl, (congrArg (fun z_ => some (Value.int .i64 z_)) (show (((k : Int)) + 1 : Int) = ((k + 1) : Int) by omega)), trivial⟩ ?_
        show ((k + 1) ≤ (lensOf s).length) ∧ _
        exact ⟨by first | omega | simp, h⟩
    ·
     refine Sx.wc_exit ?_
     refine Sx.qn_then_exit ?_
     refine Sx.qn_then_exit ?_
     refine Sx.qn_block_exit ?_
     refine Sx.qn_then ?_
     refine Sx.wc_seq ?_
     refine Sx.wc_region ?_
     refine Sx.wl_v rfl rfl (Sx.ov_assign _ rfl) ?_
     refine Sx.wl_nil ?_
     refine Sx.qn_then ?_
     refine Sx.wc_ret ?_
     replace h := Sx.st_selT [true, false] h
     refine Sx.qn_ret [_] ⟨rfl, trivial⟩ ?_
     exact ⟨rfl, h⟩
set_option maxRecDepth 100000 in
theorem awake_calls {w0 w : World} {F0 : Nat → Prop} {R : List Sx.HP}   (h : Sx.St w0 F0 ([] ++ R) w) : Calls Try.prog 11 #[] w (fun e w1 => e = .returned (.bool true) ∧ Sx.St w0 F0 R w1) := by
 refine Sx.calls_fn (vs := []) Try.func11 rfl Try.ntmps11 rfl ?_
 refine Sx.wc_seq ?_
 refine Sx.wc_region ?_
 refine Sx.wl_v rfl rfl (Sx.ov_assign _ rfl) ?_
 refine Sx.wl_nil ?_
 refine Sx.qn_then ?_
 refine Sx.wc_seq ?_
 refine Sx.wc_region ?_
 refine Sx.wl_call _ rfl rfl rfl ent15 (New_calls (R := [] ++ R) (ByteArray.mk #[97, 98, 10, 99, 100]) (by decide) h) ?_
 rintro e_ w_ ⟨g1, rfl, h⟩
 refine ⟨_, rfl, ?_⟩
 refine Sx.wl_v rfl rfl (Sx.ov_assign _ rfl) ?_
 refine Sx.wl_nil ?_
 refine Sx.qn_then ?_
 refine Sx.wc_seq ?_
 refine Sx.wc_seq ?_
 refine Sx.wc_region ?_
 refine Sx.wl_v rfl rfl (Sx.ov_move _ rfl) ?_
 refine Sx.wl_v rfl rfl (Sx.ov_bin (.bool false) rfl rfl (Sx.binR_eqnil Try.underlying28)) ?_
 refine Sx.wl_v rfl rfl (Sx.ov_move _ rfl) ?_
 refine Sx.wl_v rfl rfl (Sx.ov_move _ rfl) ?_
 refine Sx.wl_call _ rfl rfl rfl ent28 (Count_calls (R := [] ++ R) g1 (ixOf (ByteArray.mk #[97, 98, 10, 99, 100]))   h) ?_
 rintro e_ w_ ⟨rfl, h⟩
 refine ⟨_, rfl, ?_⟩
 refine Sx.wl_v rfl rfl (Sx.ov_bin _ rfl rfl (Sx.binR_neq)) ?_
 refine Sx.wl_v rfl rfl (Sx.ov_pick_false _ rfl rfl) ?_
 refine Sx.wl_v rfl rfl (Sx.ov_move _ rfl) ?_
 refine Sx.wl_split 12 rfl (fun c2 => ?_) (fun c2 => ?_)
 ·
  exact absurd c2 (by decide)
 ·
  refine Sx.wl_v rfl rfl (Sx.ov_move _ rfl) ?_
  refine Sx.wl_call _ rfl rfl rfl ent29 (Open_calls (R := [] ++ R) g1 (ixOf (ByteArray.mk #[97, 98, 10, 99, 100]))   h) ?_
  rintro e_ w_ ⟨rfl, h⟩
  refine ⟨_, rfl, ?_⟩
  refine Sx.wl_v rfl rfl (Sx.ov_notb _ rfl) ?_
  refine Sx.wl_v rfl rfl (Sx.ov_pick_false _ rfl rfl) ?_
  refine Sx.wl_nil ?_
  refine Sx.qn_then ?_
  refine Sx.wc_condb (by rfl) (fun c3 => ?_) (fun c3 => ?_)
  ·
   exact absurd c3 (by decide)
  ·
   refine Sx.wc_skip ?_
   refine Sx.qn_then ?_
   refine Sx.wc_seq ?_
   refine Sx.wc_region ?_
   refine Sx.wl_v rfl rfl (Sx.ov_move _ rfl) ?_
   refine Sx.wl_call _ rfl rfl rfl ent26 (Insert_calls (R := [] ++ R) g1 (ixOf (ByteArray.mk #[97, 98, 10, 99, 100])) 1 (ByteArray.mk #[120, 10]) (by exact ixOf_ok _ (by decide)) (by decide) (by exact fun _ => by decide) h) ?_
   rintro e_ w_ ⟨rfl, h⟩
   refine ⟨_, rfl, ?_⟩
   refine Sx.wl_v rfl rfl (Sx.ov_move _ rfl) ?_
   refine Sx.wl_v rfl rfl (Sx.ov_extract [.agg #[.int .i64 ((insI (ixOf (ByteArray.mk #[97, 98, 10, 99, 100])) 1 (ByteArray.mk #[120, 10])).2.1.1), .int .i64 ((insI (ixOf (ByteArray.mk #[97, 98, 10, 99, 100])) 1 (ByteArray.mk #[120, 10])).2.1.2.1), .int .i64 ((insI (ixOf (ByteArray.mk #[97, 98, 10, 99, 100])) 1 (ByteArray.mk #[120, 10])).2.1.2.2)], .int .i64 ((insI (ixOf (ByteArray.mk #[97, 98, 10, 99, 100])) 1 (ByteArray.mk #[120, 10])).2.2)] _ rfl rfl) ?_
   refine Sx.wl_v rfl rfl (Sx.ov_extract [.agg #[.int .i64 ((insI (ixOf (ByteArray.mk #[97, 98, 10, 99, 100])) 1 (ByteArray.mk #[120, 10])).2.1.1), .int .i64 ((insI (ixOf (ByteArray.mk #[97, 98, 10, 99, 100])) 1 (ByteArray.mk #[120, 10])).2.1.2.1), .int .i64 ((insI (ixOf (ByteArray.mk #[97, 98, 10, 99, 100])) 1 (ByteArray.mk #[120, 10])).2.1.2.2)], .int .i64 ((insI (ixOf (ByteArray.mk #[97, 98, 10, 99, 100])) 1 (ByteArray.mk #[120, 10])).2.2)] _ rfl rfl) ?_
   refine Sx.wl_alloc _ h rfl rfl zo41 (fun b4 _ h => ?_)
   replace h : Sx.St _ _ (Sx.blk b4 [.int .i64 (0), .int .i64 (0), .int .i64 (0)] 41 :: _) _ := h
   refine Sx.wl_storebN 0 [.int .i64 ((insI (ixOf (ByteArray.mk #[97, 98, 10, 99, 100])) 1 (ByteArray.mk #[120, 10])).2.1.1), .int .i64 ((insI (ixOf (ByteArray.mk #[97, 98, 10, 99, 100])) 1 (ByteArray.mk #[120, 10])).2.1.2.1), .int .i64 ((insI (ixOf (ByteArray.mk #[97, 98, 10, 99, 100])) 1 (ByteArray.mk #[120, 10])).2.1.2.2)] [.int .i64 ((insI (ixOf (ByteArray.mk #[97, 98, 10, 99, 100])) 1 (ByteArray.mk #[120, 10])).2.1.1), .int .i64 ((insI (ixOf (ByteArray.mk #[97, 98, 10, 99, 100])) 1 (ByteArray.mk #[120, 10])).2.1.2.1), .int .i64 ((insI (ixOf (ByteArray.mk #[97, 98, 10, 99, 100])) 1 (ByteArray.mk #[120, 10])).2.1.2.2)] h rfl rfl rfl rfl (by simp [Value.oneCell']) sh41 rfl rfl (fun _ h => ?_)
   refine Sx.wl_v rfl rfl (Sx.ov_assign _ rfl) ?_
   refine Sx.wl_nil ?_
   refine Sx.qn_then ?_
   refine Sx.wc_seq ?_
   refine Sx.wc_region ?_
   refine Sx.wl_v rfl rfl (Sx.ov_move _ rfl) ?_
   refine Sx.wl_v rfl rfl (Sx.ov_bin _ rfl rfl (Sx.binR_eql)) ?_
   refine Sx.wl_v rfl rfl (Sx.ov_move _ rfl) ?_
   refine Sx.wl_split 24 rfl (fun c5 => ?_) (fun c5 => ?_)
   ·
    refine Sx.wl_v rfl rfl (Sx.ov_loadbN 0 [.int .i64 ((insI (ixOf (ByteArray.mk #[97, 98, 10, 99, 100])) 1 (ByteArray.mk #[120, 10])).2.1.1), .int .i64 ((insI (ixOf (ByteArray.mk #[97, 98, 10, 99, 100])) 1 (ByteArray.mk #[120, 10])).2.1.2.1), .int .i64 ((insI (ixOf (ByteArray.mk #[97, 98, 10, 99, 100])) 1 (ByteArray.mk #[120, 10])).2.1.2.2)] h rfl rfl sh41 rfl) ?_
    refine Sx.wl_v rfl rfl (Sx.ov_build [(0, .int .i64 (0)), (1, .int .i64 (1)), (2, .int .i64 (2))] [.int .i64 (0), .int .i64 (1), .int .i64 (2)] rfl rfl (by kernel_rfl)) ?_
    refine Sx.wl_v rfl rfl (Sx.ov_bin _ rfl rfl (Sx.binR_eqS (((((insI (ixOf (ByteArray.mk #[97, 98, 10, 99, 100])) 1 (ByteArray.mk #[120, 10])).2.1.1 : Int) == 0) && ((((insI (ixOf (ByteArray.mk #[97, 98, 10, 99, 100])) 1 (ByteArray.mk #[120, 10])).2.1.2.1 : Int) == 1) && ((((insI (ixOf (ByteArray.mk #[97, 98, 10, 99, 100])) 1 (ByteArray.mk #[120, 10])).2.1.2.2 : Int) == 2) && true)))) (((insI (ixOf (ByteArray.mk #[97, 98, 10, 99, 100])) 1 (ByteArray.mk #[120, 10])).2.1.1 : Int) = 0 ∧ ((insI (ixOf (ByteArray.mk #[97, 98, 10, 99, 100])) 1 (ByteArray.mk #[120, 10])).2.1.2.1 : Int) = 1 ∧ ((insI (ixOf (ByteArray.mk #[97, 98, 10, 99, 100])) 1 (ByteArray.mk #[120, 10])).2.1.2.2 : Int) = 2) eqf41 eqs41 (by kernel_rfl) (by rw [Bool.eq_iff_iff]; simp))) ?_
    refine Sx.wl_v rfl rfl (Sx.ov_pick_true _ rfl rfl) ?_
    refine Sx.wl_v rfl rfl (Sx.ov_move _ rfl) ?_
    refine Sx.wl_split 29 rfl (fun c6 => ?_) (fun c6 => ?_)
    ·
     refine Sx.wl_v rfl rfl (Sx.ov_move _ rfl) ?_
     replace h := Sx.st_front 1 h
     refine Sx.wl_call _ rfl rfl rfl ent28 (Count_calls (R := [Sx.blk b4 [.int .i64 ((insI (ixOf (ByteArray.mk #[97, 98, 10, 99, 100])) 1 (ByteArray.mk #[120, 10])).2.1.1), .int .i64 ((insI (ixOf (ByteArray.mk #[97, 98, 10, 99, 100])) 1 (ByteArray.mk #[120, 10])).2.1.2.1), .int .i64 ((insI (ixOf (ByteArray.mk #[97, 98, 10, 99, 100])) 1 (ByteArray.mk #[120, 10])).2.1.2.2)] 41] ++ R) g1 ((insI (ixOf (ByteArray.mk #[97, 98, 10, 99, 100])) 1 (ByteArray.mk #[120, 10])).1)   h) ?_
     rintro e_ w_ ⟨rfl, h⟩
     refine ⟨_, rfl, ?_⟩
     refine Sx.wl_v rfl rfl (Sx.ov_bin _ rfl rfl (Sx.binR_eql)) ?_
     refine Sx.wl_v rfl rfl (Sx.ov_pick_true _ rfl rfl) ?_
     refine Sx.wl_v rfl rfl (Sx.ov_assign _ rfl) ?_
     refine Sx.wl_nil ?_
     refine Sx.qn_then ?_
     refine Sx.wc_ret ?_
     replace h := Sx.st_selT [false, false] h
     refine Sx.qn_ret [_] ⟨rfl, trivial⟩ ?_
     have b_ : (decide ((((((insI (ixOf (ByteArray.mk #[97, 98, 10, 99, 100])) 1 (ByteArray.mk #[120, 10])).1).lens.length) : Int) : Int) = 3)) = true := by decide
     exact ⟨congrArg (fun z => Ending.returned (Value.bool z)) b_, h⟩
    ·
     exact absurd c6 (by decide)
   ·
    exact absurd c5 (by decide)
end Go.Proofs.Yteancplgfjhagaa.Paras.C
