/- The walk of ParasSpans. -/
import Derived.Test.YteancplgfjhagaaProg
import Derived.Test.YteancplgfjhagaaSxGlue
import Derived.Test.YteancplgfjhagaaSxKinds
import Derived.Test.YteancplgfjhagaaParasTh
import Derived.Test.YteancplgfjhagaaSxParas
import Derived.Test.YteancplgfjhagaaSxParasB
import Derived.Test.YteancplgfjhagaaSxPlain
import Derived.Test.YteancplgfjhagaaSxRanged
import Derived.Test.YteancplgfjhagaaSxSpans
namespace Go.Proofs.Yteancplgfjhagaa.Paras.L
open Go Go.RowKit Go.Proofs.YteancplgfjhagaaW.PrintWords Go.Proofs.Yteancplgfjhagaa.Kinds Go.Proofs.Yteancplgfjhagaa.Paras Go.Proofs.Yteancplgfjhagaa.Paras.B Go.Proofs.Yteancplgfjhagaa.Paras.C Go.Proofs.Yteancplgfjhagaa.Paras.I
set_option linter.unusedVariables false
set_option linter.unusedSimpArgs false
theorem zo4 : Sx.zeroOf Try.prog 4 = some (.bool false) := by kernel_rfl
theorem ent11 : Sx.Ent Try.prog 11 := ⟨Try.f11, Try.func11, by kernel_rfl, by kernel_rfl⟩
theorem sh4 : Sx.shapeOf Try.prog 4 = some (false, 1) := by kernel_rfl
theorem ent15 : Sx.Ent Try.prog 15 := ⟨Try.f15, Try.func15, by kernel_rfl, by kernel_rfl⟩
theorem ent13 : Sx.Ent Try.prog 13 := ⟨Try.f13, Try.func13, by kernel_rfl, by kernel_rfl⟩
theorem zo23 : Sx.zeroOf Try.prog 23 = some (.slice (none) (0) (0)) := by kernel_rfl
theorem sh23 : Sx.shapeOf Try.prog 23 = some (false, 1) := by kernel_rfl
theorem zo3 : Sx.zeroOf Try.prog 3 = some (.int .i64 (0)) := by kernel_rfl
theorem sh3 : Sx.shapeOf Try.prog 3 = some (false, 1) := by kernel_rfl
theorem ent20 : Sx.Ent Try.prog 20 := ⟨Try.f20, Try.func20, by kernel_rfl, by kernel_rfl⟩
theorem ent30 : Sx.Ent Try.prog 30 := ⟨Try.f30, Try.func30, by kernel_rfl, by kernel_rfl⟩
theorem es23 : Sx.elemSz Try.prog 23 = some (3, 1) := by kernel_rfl
set_option maxRecDepth 100000 in
theorem Spans_calls {w0 w : World} {F0 : Nat → Prop} {R : List Sx.HP} (gl : Nat)  (h : Sx.St w0 F0 ([] ++ R) w) : Calls Try.prog 20 #[.pointer (some ⟨gl, 0, none⟩)] w (fun e w1 => ∃ g, e = .returned (.func (.func 30) #[] #[.pointer (some ⟨g, 0, none⟩)]) ∧ Sx.St w0 F0 (Sx.blk g [.pointer (some ⟨gl, 0, none⟩)] 28 :: R) w1) := by
 refine Sx.calls_fn (vs := [.pointer (some ⟨gl, 0, none⟩)]) Try.func20 rfl Try.ntmps20 rfl ?_
 refine Sx.wc_seq ?_
 refine Sx.wc_region ?_
 refine Sx.wl_box _ h rfl rfl rfl (fun b1 _ h => ?_)
 replace h : Sx.St _ _ (Sx.blk b1 [.pointer (some ⟨gl, 0, none⟩)] 28 :: _) _ := h
 refine Sx.wl_v rfl rfl (Sx.ov_assign _ rfl) ?_
 refine Sx.wl_nil ?_
 refine Sx.qn_then ?_
 refine Sx.wc_seq ?_
 refine Sx.wc_region ?_
 refine Sx.wl_v rfl rfl (Sx.ov_makeFunc _ rfl) ?_
 refine Sx.wl_v rfl rfl (Sx.ov_assign _ rfl) ?_
 refine Sx.wl_nil ?_
 refine Sx.qn_then ?_
 refine Sx.wc_ret ?_
 refine Sx.qn_ret [_] ⟨rfl, trivial⟩ ?_
 exact ⟨_, rfl, h⟩
set_option maxRecDepth 100000 in
theorem ParasSpans_calls {w0 w : World} {F0 : Nat → Prop} {v0 : World} (s : ByteArray) (leave : Int) (hv : Sx.RO v0 w0 F0) (hzs : s.size ≤ 9223372036854775807) (h : Sx.St w0 F0 ([] ++ []) w) : Calls Try.prog 5 #[.string (s), .int .i64 (leave)] w (fun e w1 => e = .returned (.bool true) ∧ Sx.St w0 F0 [] w1) := by
 have hlo := lensOf_ok s
 have hxs := ix_size s
 have hxl := congrArg List.length (ix_lens s)
 have hsl := starts_len s
 refine Sx.calls_fnM (vs := [.string (s), .int .i64 (leave)]) Try.func5 rfl Try.ntmps5 rfl ?_
 refine Sx.wc_seq ?_
 refine Sx.wc_region ?_
 refine Sx.wl_box _ h rfl rfl rfl (fun b1 _ h => ?_)
 replace h : Sx.St _ _ (Sx.blk b1 [.int .i64 (leave)] 3 :: _) _ := h
 refine Sx.wl_alloc _ h rfl rfl zo4 (fun b2 _ h => ?_)
 replace h : Sx.St _ _ (Sx.blk b2 [.bool false] 4 :: _) _ := h
 refine Sx.wl_nil ?_
 refine Sx.qn_then ?_
 refine Sx.wc_seq ?_
 refine Sx.wc_seq ?_
 refine Sx.wc_region ?_
 refine Sx.wl_call _ rfl rfl rfl ent11 (awake_calls (R := [Sx.blk b2 [.bool false] 4, Sx.blk b1 [.int .i64 (leave)] 3] ++ []) h) ?_
 rintro e_ w_ ⟨rfl, h⟩
 refine ⟨_, rfl, ?_⟩
 refine Sx.wl_v rfl rfl (Sx.ov_notb _ rfl) ?_
 refine Sx.wl_nil ?_
 refine Sx.qn_then ?_
 refine Sx.wc_cond_false rfl ?_
 refine Sx.wc_skip ?_
 refine Sx.qn_then ?_
 refine Sx.wc_seq ?_
 refine Sx.wc_seq ?_
 refine Sx.wc_region ?_
 refine Sx.wl_v rfl rfl (Sx.ov_move _ rfl) ?_
 refine Sx.wl_v rfl rfl (Sx.ov_lens _ rfl Try.underlying9) ?_
 refine Sx.wl_v rfl rfl (Sx.ov_bin _ rfl rfl (Sx.binR_gtr)) ?_
 refine Sx.wl_nil ?_
 refine Sx.qn_then ?_
 refine Sx.wc_cond (by rfl) (fun c3 => ?_) (fun c3 => ?_)
 ·
  refine Sx.wc_seq ?_
  refine Sx.wc_region ?_
  refine Sx.wl_storeb 0 _ [.bool true] h rfl rfl rfl rfl rfl rfl sh4 rfl rfl (fun _ h => ?_)
  refine Sx.wl_nil ?_
  refine Sx.qn_then ?_
  refine Sx.wc_ret ?_
  refine Sx.qn_then_ret ?_
  have hend_ := h
  replace h := Sx.st_selT [false, false] h
  refine Sx.qn_retM [_] ⟨⟨_, rfl, Sx.loadVar1 sh4 (by rw [Sx.blk_cell hend_ (i := 0) rfl]; rfl)⟩, trivial⟩ ?_
  exact ⟨rfl, h⟩
 ·
  refine Sx.wc_skip ?_
  refine Sx.qn_then ?_
  refine Sx.wc_seq ?_
  refine Sx.wc_region ?_
  refine Sx.wl_v rfl rfl (Sx.ov_move _ rfl) ?_
  refine Sx.wl_call _ rfl rfl rfl ent15 (New_calls (R := [Sx.blk b2 [.bool false] 4, Sx.blk b1 [.int .i64 (leave)] 3] ++ []) s (by omega) h) ?_
  rintro e_ w_ ⟨g4, rfl, h⟩
  refine ⟨_, rfl, ?_⟩
  refine Sx.wl_v rfl rfl (Sx.ov_assign _ rfl) ?_
  refine Sx.wl_nil ?_
  refine Sx.qn_then ?_
  refine Sx.wc_seq ?_
  refine Sx.wc_seq ?_
  refine Sx.wc_region ?_
  refine Sx.wl_v rfl rfl (Sx.ov_move _ rfl) ?_
  refine Sx.wl_v rfl rfl (Sx.ov_bin (.bool false) rfl rfl (Sx.binR_eqnil Try.underlying28)) ?_
  refine Sx.wl_nil ?_
  refine Sx.qn_then ?_
  refine Sx.wc_cond_false rfl ?_
  refine Sx.wc_skip ?_
  refine Sx.qn_then ?_
  refine Sx.wc_seq ?_
  refine Sx.wc_region ?_
  refine Sx.wl_v rfl rfl (Sx.ov_move _ rfl) ?_
  refine Sx.wl_call _ rfl rfl rfl ent13 (Starts_calls (R := [ixB g4 (ixOf s), Sx.blk b2 [.bool false] 4, Sx.blk b1 [.int .i64 (leave)] 3] ++ []) s (by omega) h) ?_
  rintro e_ w_ ⟨A5, cp6, rfl, h⟩
  refine ⟨_, rfl, ?_⟩
  refine Sx.wl_alloc _ h rfl rfl zo23 (fun b7 _ h => ?_)
  replace h : Sx.St _ _ (Sx.blk b7 [.slice (none) (0) (0)] 23 :: _) _ := h
  refine Sx.wl_storeb 0 _ [.slice (A5) ((startsOf s).length) (cp6)] h rfl rfl rfl rfl rfl rfl sh23 rfl rfl (fun _ h => ?_)
  refine Sx.wl_nil ?_
  refine Sx.qn_then ?_
  refine Sx.wc_seq ?_
  refine Sx.wc_region ?_
  refine Sx.wl_alloc _ h rfl rfl zo3 (fun b8 _ h => ?_)
  replace h : Sx.St _ _ (Sx.blk b8 [.int .i64 (0)] 3 :: _) _ := h
  refine Sx.wl_storeb 0 _ [.int .i64 (0)] h rfl rfl rfl rfl rfl rfl sh3 rfl rfl (fun _ h => ?_)
  refine Sx.wl_nil ?_
  refine Sx.qn_then ?_
  refine Sx.wc_seq ?_
  refine Sx.wc_seq ?_
  refine Sx.wc_region ?_
  refine Sx.wl_v rfl rfl (Sx.ov_move _ rfl) ?_
  replace h := Sx.st_front 3 h
  refine Sx.wl_call _ rfl rfl rfl ent20 (Spans_calls g4 h) ?_
  rintro e_ w_ ⟨g9, rfl, h⟩
  refine ⟨_, rfl, ?_⟩
  refine Sx.wl_nil ?_
  refine Sx.qn_then ?_
  refine Sx.wc_block ?_
  replace h := Sx.st_front 1 h
  obtain ⟨A10, c11, h⟩ := ixB_open h
  replace h := Sx.st_front 5 h
  replace h := Sx.st_front 5 h
  replace h := Sx.st_front 7 h
  replace h := Sx.st_front 4 h
  replace h := Sx.st_front 4 h
  replace h := Sx.st_front 5 h
  replace h := Sx.st_front 6 h
  replace h := Sx.st_front 7 h
  replace h : Sx.St w0 F0 (Sx.pcs [(b2, 4), (b8, 3)] [[.bool false], [.int .i64 ((([] : List YI).length : Int))]] ++ [Sx.blk g9 [.pointer (some ⟨g4, 0, none⟩)] 28, Sx.blk g4 [.slice (A10) (((ixOf s).lens).length) (c11), .int .i64 ((ixOf s).size), .bool ((ixOf s).open_)] 60, Sx.row (Kd.int .i64) 3 (A10) (c11) ((ixOf s).lens), Sx.blk b1 [.int .i64 (leave)] 3, Sx.blk b7 [.slice (A5) ((startsOf s).length) (cp6)] 23, Sx.row (Kd.int .i64) 3 (A5) (cp6) (startsOf s)]) _ := h
  have hgs_ := Sx.gs_lt h rfl
  have hs0_ := Sx.stab_blk (i := 0) h rfl rfl
  have hs1_ := Sx.stab_blk (i := 1) h rfl rfl
  have hs2_ := Sx.stab_row (i := 2) h rfl rfl
  have hs3_ := Sx.stab_blk (i := 3) h rfl rfl
  have hs4_ := Sx.stab_blk (i := 4) h rfl rfl
  have hs5_ := Sx.stab_row (i := 5) h rfl rfl
  have hlb_ : ∀ k_, k_ ≤ ((ixOf s).lens).length → 0 ≤ sumF ((ixOf s).lens) k_ ∧ sumF ((ixOf s).lens) k_ ≤ 1099511627776 := fun k_ _ => by rw [ix_lens]; have := sum_take_le hlo.2.2 k_; unfold sumF; omega
  have hl2_ : ∀ k_, k_ < ((ixOf s).lens).length → 0 ≤ ((ixOf s).lens).getD k_ 0 ∧ ((ixOf s).lens).getD k_ 0 ≤ 1099511627776 := fun k_ hk_ => by have h1_ := sumF_succ _ k_ hk_; have h2_ := hlb_ k_ (by omega); have h3_ := hlb_ (k_ + 1) (by omega); rw [ix_lens] at h1_ h2_ h3_ hk_ ⊢; have h4_ := hlo.2.2 _ (List.getElem_mem hk_); rw [List.getD_eq_getElem?_getD, List.getElem?_eq_getElem hk_] at h1_ ⊢; simp only [Option.getD_some] at h1_ ⊢; omega
  refine Sx.wc_range2 (α := YI) [(b2, 4), (b8, 3)] (fun s_ => [[.bool false], [.int .i64 ((s_.length : Int))]]) (fun c_ s_ => match c_ with | .exit _ => [[.bool false], [.int .i64 ((s_.length : Int))]] | _ => [[.bool false], [.int .i64 ((s_.dropLast.length : Int))]]) [Sx.blk g9 [.pointer (some ⟨g4, 0, none⟩)] 28, Sx.blk g4 [.slice (A10) (((ixOf s).lens).length) (c11), .int .i64 ((ixOf s).size), .bool ((ixOf s).open_)] 60, Sx.row (Kd.int .i64) 3 (A10) (c11) ((ixOf s).lens), Sx.blk b1 [.int .i64 (leave)] 3, Sx.blk b7 [.slice (A5) ((startsOf s).length) (cp6)] 23, Sx.row (Kd.int .i64) 3 (A5) (cp6) (startsOf s)] (e1 := fun x_ => .int .i64 (x_.1)) (e2 := fun x_ => .int .i64 (x_.2)) (fun s_ => s_.length ≤ ((ixOf s).lens).length ∧ s_ = (eachL ((ixOf s).lens)).take s_.length) (fun c_ s_ => (c_ = .exit 0 ∧ ((s_.length : Nat) : Int) = leave) ∨ (c_ = .ret ∧ ¬ s_ = (eachL ((ixOf s).lens)).take s_.length)) h (fun _ => rfl) (fun c_ _ => by cases c_ <;> rfl) rfl ent30 rfl rfl (each_stops hgs_ hs0_ hs1_ hs2_.2 hs2_.1 (by omega) hlb_ hl2_) ⟨Nat.zero_le _, by simp⟩ ?_ ?_ ?_ ?_
  ·
   clear h
   intro l_ D_ oR oB od pre x w0 Qm Qr hngm hngr hnpm hnpr hJ hN hkc hmid hnorm hretr hexitr h
   obtain ⟨F0, hF0_⟩ : ∃ F_ : Nat → Prop, F_ = Sx.FX [(b2, 4), (b8, 3)] l_ D_ := ⟨_, rfl⟩
   rw [← hF0_] at hkc hmid hnorm hretr hexitr h
   obtain ⟨hJ1, hJ2⟩ := hJ
   replace h : Sx.St w0 F0 ([Sx.obj l_ oR, Sx.obj D_ od, Sx.blk b2 [.bool false] 4, Sx.blk b8 [.int .i64 ((pre.length : Int))] 3] ++ []) w0 := h
   obtain ⟨Aw2_, en2_, rb1_⟩ : ∃ A_ : Option Addr, (∀ cs_ w_, Sx.St w0 F0 (cs_ ++ []) w_ → (Kd.int .i64).C w_ (A_) ((ixOf s).lens).length ((ixOf s).lens)) ∧ (∀ cs_ w_, Sx.St w0 F0 cs_ w_ → ∀ j_, w_.cell? ⟨g4, j_, none⟩ = ([.slice (A_) (((ixOf s).lens).length) (c11), .int .i64 ((ixOf s).size), .bool ((ixOf s).open_)] : List Value)[j_]?) := ⟨_, fun cs_ w_ h_ => hs2_.2 w_ (hkc _ w_ h_), fun cs_ w_ h_ => hs1_ w_ (hkc _ w_ h_)⟩
   obtain ⟨Aw5_, en5_, rb4_⟩ : ∃ A_ : Option Addr, (∀ cs_ w_, Sx.St w0 F0 (cs_ ++ []) w_ → (Kd.int .i64).C w_ (A_) (startsOf s).length (startsOf s)) ∧ (∀ cs_ w_, Sx.St w0 F0 cs_ w_ → ∀ j_, w_.cell? ⟨b7, j_, none⟩ = ([.slice (A_) ((startsOf s).length) (cp6)] : List Value)[j_]?) := ⟨_, fun cs_ w_ h_ => hs5_.2 w_ (hkc _ w_ h_), fun cs_ w_ h_ => hs4_ w_ (hkc _ w_ h_)⟩
   have rb0_ : ∀ cs_ w_, Sx.St w0 F0 cs_ w_ → ∀ j_, w_.cell? ⟨g9, j_, none⟩ = ([.pointer (some ⟨g4, 0, none⟩)] : List Value)[j_]? := fun cs_ w_ h_ => hs0_ w_ (hkc _ w_ h_)
   have rb3_ : ∀ cs_ w_, Sx.St w0 F0 cs_ w_ → ∀ j_, w_.cell? ⟨b1, j_, none⟩ = ([.int .i64 (leave)] : List Value)[j_]? := fun cs_ w_ h_ => hs3_ w_ (hkc _ w_ h_)
   have hst1_ := starts_at s pre.length (by omega)
   have hst2_ := starts_at s (pre.length + 1) (by omega)
   have hsn_ := sumF_succ _ pre.length hN
   have hse1_ : sumF ((ixOf s).lens) pre.length = ((lensOf s).take pre.length).sum := by rw [ix_lens]; rfl
   have hse2_ : sumF ((ixOf s).lens) (pre.length + 1) = ((lensOf s).take (pre.length + 1)).sum := by rw [ix_lens]; rfl
   refine Sx.ci_seq ?_
   refine Sx.ci_region (Sx.lax_round l_) (fun a_ w_ h_ => hngm a_ w_ h_) (by kernel_rfl) ?_
   refine Sx.wl_v rfl rfl (Sx.ov_assign _ rfl) ?_
   refine Sx.wl_nil ?_
   refine Sx.qi_then ?_
   refine Sx.ci_region (Sx.lax_round l_) (fun a_ w_ h_ => hngm a_ w_ h_) (by kernel_rfl) ?_
   refine Sx.wl_v rfl rfl (Sx.ov_assign _ rfl) ?_
   refine Sx.wl_nil ?_
   refine hmid _ _ _ h (fun w_ h => ?_)
   replace h : Sx.St w0 F0 ([Sx.obj l_ oB, Sx.obj D_ od, Sx.blk b2 [.bool false] 4, Sx.blk b8 [.int .i64 ((pre.length : Int))] 3] ++ []) w_ := h
   refine Sx.ci_block ?_
   refine Sx.ci_seq ?_
   refine Sx.ci_seq ?_
   refine Sx.ci_region (Sx.lax_round l_) (fun a_ w_ h_ => hngr a_ w_ h_) (by kernel_rfl) ?_
   refine Sx.wl_v rfl rfl (Sx.ov_loadb 3 _ h rfl rfl sh3 rfl) ?_
   refine Sx.wl_v rfl rfl (Sx.ov_bin _ rfl rfl (Sx.binR_add (r := ((pre.length : Int)) + 1) (Sx.w64 (by omega)))) ?_
   refine Sx.wl_v rfl rfl (Sx.ov_load1 ⟨b7, 0, none⟩ _ rfl sh23 ((rb4_ _ _ h 0).trans rfl)) ?_
   refine Sx.wl_v rfl rfl (Sx.ov_len _ _ _ _ _ rfl es23) ?_
   refine Sx.wl_v rfl rfl (Sx.ov_bin _ rfl rfl (Sx.binR_geq)) ?_
   refine Sx.wl_v rfl rfl (Sx.ov_move _ rfl) ?_
   refine Sx.wl_split 30 rfl (fun c12 => ?_) (fun c12 => ?_)
   ·
    exfalso
    omega
   ·
    refine Sx.wl_v rfl rfl (Sx.ov_move _ rfl) ?_
    refine Sx.wl_v rfl rfl (Sx.ov_load1 ⟨b7, 0, none⟩ _ rfl sh23 ((rb4_ _ _ h 0).trans rfl)) ?_
    refine Sx.wl_v rfl rfl (Sx.ov_loadb 3 _ h rfl rfl sh3 rfl) ?_
    obtain ⟨ad13, rfl⟩ := Sx.C_some ((en5_ [_, _, _, _] _ h)) (k := pre.length) (by first | assumption | omega)
    refine Sx.wl_v rfl rfl (Sx.ov_indexAddrN _ _ _ _ _ pre.length rfl rfl es23 rfl (by first | assumption | omega | (simp only [List.length_take, List.length_drop, List.length_set]; omega))) ?_
    obtain ⟨cl16, _, hk15, hc14⟩ := Sx.C_cells ((en5_ [_, _, _, _] _ h)) (z := (0 : Int)) (k := pre.length) (by first | assumption | omega)
    obtain rfl : cl16 = [.int .i64 _] := hk15
    refine Sx.wl_v rfl rfl (Sx.ov_load1 _ _ rfl sh3 ((hc14 0 _ rfl))) ?_
    refine Sx.wl_v rfl rfl (Sx.ov_bin _ rfl rfl (Sx.binR_neq)) ?_
    refine Sx.wl_v rfl rfl (Sx.ov_pick_false _ rfl rfl) ?_
    refine Sx.wl_v rfl rfl (Sx.ov_move _ rfl) ?_
    refine Sx.wl_split 38 rfl (fun c17 => ?_) (fun c17 => ?_)
    ·
     refine Sx.wl_skip rfl rfl ?_
     refine Sx.wl_skip rfl rfl ?_
     refine Sx.wl_skip rfl rfl ?_
     refine Sx.wl_skip rfl rfl ?_
     refine Sx.wl_skip rfl rfl ?_
     refine Sx.wl_skip rfl rfl ?_
     refine Sx.wl_skip rfl rfl ?_
     refine Sx.wl_v rfl rfl (Sx.ov_pick_true _ rfl rfl) ?_
     refine Sx.wl_nil ?_
     refine Sx.qi_then ?_
     refine Sx.ci_cond_true rfl ?_
     refine Sx.ci_seq ?_
     refine Sx.ci_region (Sx.lax_round l_) (fun a_ w_ h_ => hngr a_ w_ h_) (by kernel_rfl) ?_
     refine Sx.wl_storeb 2 _ [.bool false] h rfl rfl rfl rfl rfl rfl sh4 rfl rfl (fun _ h => ?_)
     refine Sx.wl_nil ?_
     refine Sx.qi_then ?_
     refine Sx.ci_ret ?_
     refine Sx.qn_then_ret ?_
     refine Sx.qn_block_ret ?_
     replace h := Sx.st_front 3 h
     replace h := Sx.st_front 3 h
     replace h := Sx.st_front 3 h
     replace h := Sx.st_front 3 h
     replace h : Sx.St w0 F0 ([Sx.obj l_ oB, Sx.obj D_ od, Sx.blk b2 [.bool false] 4, Sx.blk b8 [.int .i64 ((pre.length : Int))] 3] ++ []) _ := h
     refine hretr _ _ (.inr ⟨rfl, fun e_ => ?_⟩) ?_
     · have h_ := each_last hN e_
       have h1_ := congrArg Prod.fst h_
       have h2_ := congrArg Prod.snd h_
       dsimp only at h1_ h2_
       omega
     · show Sx.St w0 F0 [Sx.obj l_ oB, Sx.obj D_ od, Sx.blk b2 [.bool false] 4, Sx.blk b8 [.int .i64 (((pre ++ [x]).dropLast.length : Int))] 3] _
       rw [List.dropLast_concat]
       exact h
    ·
     refine Sx.wl_v rfl rfl (Sx.ov_move _ rfl) ?_
     refine Sx.wl_v rfl rfl (Sx.ov_load1 ⟨b7, 0, none⟩ _ rfl sh23 ((rb4_ _ _ h 0).trans rfl)) ?_
     refine Sx.wl_v rfl rfl (Sx.ov_loadb 3 _ h rfl rfl sh3 rfl) ?_
     refine Sx.wl_v rfl rfl (Sx.ov_bin _ rfl rfl (Sx.binR_add (r := ((pre.length : Int)) + 1) (Sx.w64 (by omega)))) ?_
     refine Sx.wl_v rfl rfl (Sx.ov_indexAddrN _ _ _ _ _ (pre.length + 1) rfl rfl es23 (by omega) (by first | assumption | omega | (simp only [List.length_take, List.length_drop, List.length_set]; omega))) ?_
     obtain ⟨cl20, _, hk19, hc18⟩ := Sx.C_cells ((en5_ [_, _, _, _] _ h)) (z := (0 : Int)) (k := (pre.length + 1)) (by first | assumption | omega)
     obtain rfl : cl20 = [.int .i64 _] := hk19
     refine Sx.wl_v rfl rfl (Sx.ov_load1 _ _ rfl sh3 ((hc18 0 _ rfl))) ?_
     refine Sx.wl_v rfl rfl (Sx.ov_bin _ rfl rfl (Sx.binR_neq)) ?_
     refine Sx.wl_v rfl rfl (Sx.ov_pick_false _ rfl rfl) ?_
     refine Sx.wl_nil ?_
     refine Sx.qi_then ?_
     refine Sx.ci_cond (by rfl) (fun c21 => ?_) (fun c21 => ?_)
     ·
      refine Sx.ci_seq ?_
      refine Sx.ci_region (Sx.lax_round l_) (fun a_ w_ h_ => hngr a_ w_ h_) (by kernel_rfl) ?_
      refine Sx.wl_storeb 2 _ [.bool false] h rfl rfl rfl rfl rfl rfl sh4 rfl rfl (fun _ h => ?_)
      refine Sx.wl_nil ?_
      refine Sx.qi_then ?_
      refine Sx.ci_ret ?_
      refine Sx.qn_then_ret ?_
      refine Sx.qn_block_ret ?_
      replace h := Sx.st_front 3 h
      replace h := Sx.st_front 3 h
      replace h := Sx.st_front 3 h
      replace h := Sx.st_front 3 h
      replace h : Sx.St w0 F0 ([Sx.obj l_ oB, Sx.obj D_ od, Sx.blk b2 [.bool false] 4, Sx.blk b8 [.int .i64 ((pre.length : Int))] 3] ++ []) _ := h
      refine hretr _ _ (.inr ⟨rfl, fun e_ => ?_⟩) ?_
      · have h_ := each_last hN e_
        have h1_ := congrArg Prod.fst h_
        have h2_ := congrArg Prod.snd h_
        dsimp only at h1_ h2_
        omega
      · show Sx.St w0 F0 [Sx.obj l_ oB, Sx.obj D_ od, Sx.blk b2 [.bool false] 4, Sx.blk b8 [.int .i64 (((pre ++ [x]).dropLast.length : Int))] 3] _
        rw [List.dropLast_concat]
        exact h
     ·
      refine Sx.ci_skip ?_
      refine Sx.qi_then ?_
      refine Sx.ci_seq ?_
      refine Sx.ci_region (Sx.lax_round l_) (fun a_ w_ h_ => hngr a_ w_ h_) (by kernel_rfl) ?_
      refine Sx.wl_v rfl rfl (Sx.ov_loadb 3 _ h rfl rfl sh3 rfl) ?_
      refine Sx.wl_v rfl rfl (Sx.ov_bin _ rfl rfl (Sx.binR_add (r := ((pre.length : Int)) + 1) (Sx.w64 (by omega)))) ?_
      refine Sx.wl_storeb 3 _ [.int .i64 (((pre.length : Int)) + 1)] h rfl rfl rfl rfl rfl rfl sh3 rfl rfl (fun _ h => ?_)
      refine Sx.wl_nil ?_
      refine Sx.qi_then ?_
      refine Sx.ci_seq ?_
      refine Sx.ci_region (Sx.lax_round l_) (fun a_ w_ h_ => hngr a_ w_ h_) (by kernel_rfl) ?_
      refine Sx.wl_v rfl rfl (Sx.ov_loadb 3 _ h rfl rfl sh3 rfl) ?_
      refine Sx.wl_v rfl rfl (Sx.ov_load1 ⟨b1, 0, none⟩ _ rfl sh3 ((rb3_ _ _ h 0).trans rfl)) ?_
      refine Sx.wl_v rfl rfl (Sx.ov_bin _ rfl rfl (Sx.binR_eql)) ?_
      refine Sx.wl_nil ?_
      refine Sx.qi_then ?_
      refine Sx.ci_cond (by rfl) (fun c22 => ?_) (fun c22 => ?_)
      ·
       refine Sx.ci_exit ?_
       refine Sx.qn_block_other (by decide) ?_
       have hx_ : x = (sumF ((ixOf s).lens) pre.length, sumF ((ixOf s).lens) pre.length + ((ixOf s).lens).getD pre.length 0) := Prod.ext (by show x.1 = sumF _ _; have := c17; have := c21; omega) (by show x.2 = sumF _ _ + _; have := c17; have := c21; omega)
       have hnx_ := each_next hN hJ2 hx_
       have e1_ : (((pre ++ [x]).length : Nat) : Int) = (pre.length : Int) + 1 := by simp
       replace h := Sx.st_front 3 h
       replace h := Sx.st_front 3 h
       replace h := Sx.st_front 3 h
       replace h := Sx.st_front 3 h
       replace h : Sx.St w0 F0 ([Sx.obj l_ oB, Sx.obj D_ od, Sx.blk b2 [.bool false] 4, Sx.blk b8 [.int .i64 (((pre.length : Int)) + 1)] 3] ++ []) _ := h
       refine hexitr _ _ _ (.inl ⟨rfl, by rw [e1_]; omega⟩) ?_
       show Sx.St w0 F0 [Sx.obj l_ oB, Sx.obj D_ od, Sx.blk b2 [.bool false] 4, Sx.blk b8 [.int .i64 (((pre ++ [x]).length : Int))] 3] _
       rw [e1_]
       exact h
      ·
       refine Sx.ci_skip ?_
       refine Sx.qn_block_normal ?_
       have hx_ : x = (sumF ((ixOf s).lens) pre.length, sumF ((ixOf s).lens) pre.length + ((ixOf s).lens).getD pre.length 0) := Prod.ext (by show x.1 = sumF _ _; have := c17; have := c21; omega) (by show x.2 = sumF _ _ + _; have := c17; have := c21; omega)
       have hnx_ := each_next hN hJ2 hx_
       have e1_ : (((pre ++ [x]).length : Nat) : Int) = (pre.length : Int) + 1 := by simp
       replace h := Sx.st_front 3 h
       replace h := Sx.st_front 3 h
       replace h := Sx.st_front 3 h
       replace h := Sx.st_front 3 h
       replace h : Sx.St w0 F0 ([Sx.obj l_ oB, Sx.obj D_ od, Sx.blk b2 [.bool false] 4, Sx.blk b8 [.int .i64 (((pre.length : Int)) + 1)] 3] ++ []) _ := h
       refine hnorm _ _ (⟨by simp only [List.length_append, List.length_cons, List.length_nil]; omega, hnx_⟩) ?_
       show Sx.St w0 F0 [Sx.obj l_ oB, Sx.obj D_ od, Sx.blk b2 [.bool false] 4, Sx.blk b8 [.int .i64 (((pre ++ [x]).length : Int))] 3] _
       rw [e1_]
       exact h
  ·
   clear h
   intro D_ xs w hS hJ h
   obtain ⟨hJ1, hJ2⟩ := hJ
   replace h : Sx.St w0 F0 ([Sx.obj D_ (.deferred (some [])), Sx.blk b2 [.bool false] 4, Sx.blk b8 [.int .i64 ((xs.length : Int))] 3, Sx.blk g9 [.pointer (some ⟨g4, 0, none⟩)] 28, Sx.blk g4 [.slice (A10) (((ixOf s).lens).length) (c11), .int .i64 ((ixOf s).size), .bool ((ixOf s).open_)] 60, Sx.row (Kd.int .i64) 3 (A10) (c11) ((ixOf s).lens), Sx.blk b1 [.int .i64 (leave)] 3, Sx.blk b7 [.slice (A5) ((startsOf s).length) (cp6)] 23, Sx.row (Kd.int .i64) 3 (A5) (cp6) (startsOf s)] ++ []) w := h
   refine Sx.qd_block_normal ?_
   refine Sx.qd_then ?_
   refine Sx.ci_seq ?_
   refine Sx.ci_region Sx.lax_wide (fun _ _ h_ => by cases (And.left h_)) (by kernel_rfl) ?_
   refine Sx.wl_v rfl rfl (Sx.ov_loadb 2 _ h rfl rfl sh3 rfl) ?_
   refine Sx.wl_v rfl rfl (Sx.ov_loadb 6 _ h rfl rfl sh3 rfl) ?_
   refine Sx.wl_v rfl rfl (Sx.ov_bin _ rfl rfl (Sx.binR_eql)) ?_
   refine Sx.wl_v rfl rfl (Sx.ov_move _ rfl) ?_
   refine Sx.wl_split 55 rfl (fun c23 => ?_) (fun c23 => ?_)
   ·
    refine Sx.wl_skip rfl rfl ?_
    refine Sx.wl_skip rfl rfl ?_
    refine Sx.wl_skip rfl rfl ?_
    refine Sx.wl_skip rfl rfl ?_
    refine Sx.wl_skip rfl rfl ?_
    refine Sx.wl_v rfl rfl (Sx.ov_pick_true _ rfl rfl) ?_
    refine Sx.wl_storeb 1 _ [.bool true] h rfl rfl rfl rfl rfl rfl sh4 rfl rfl (fun _ h => ?_)
    refine Sx.wl_nil ?_
    refine Sx.qi_then ?_
    refine Sx.ci_ret ?_
    have hD_ := Sx.st_obj (i := 0) h rfl
    replace h := Sx.st_putobj (.deferred none) h
    replace h : Sx.St w0 F0 ([Sx.obj D_ (.deferred none), Sx.blk b2 [.bool true] 4, Sx.blk b8 [.int .i64 ((xs.length : Int))] 3, Sx.blk g9 [.pointer (some ⟨g4, 0, none⟩)] 28, Sx.blk g4 [.slice (A10) (((ixOf s).lens).length) (c11), .int .i64 ((ixOf s).size), .bool ((ixOf s).open_)] 60, Sx.row (Kd.int .i64) 3 (A10) (c11) ((ixOf s).lens), Sx.blk b1 [.int .i64 (leave)] 3, Sx.blk b7 [.slice (A5) ((startsOf s).length) (cp6)] 23, Sx.row (Kd.int .i64) 3 (A5) (cp6) (startsOf s)] ++ []) _ := h
    have hend_ := h
    replace h := Sx.st_selT [false, false, false, false, false, false, false, false, false] h
    refine Sx.qn_retD [_] hD_ ⟨⟨_, rfl, Sx.loadVar1 sh4 (by rw [Sx.blk_cell hend_ (i := 1) rfl]; rfl)⟩, trivial⟩ ?_
    exact ⟨rfl, h⟩
   ·
    refine Sx.wl_v rfl rfl (Sx.ov_loadb 2 _ h rfl rfl sh3 rfl) ?_
    refine Sx.wl_v rfl rfl (Sx.ov_loadb 7 _ h rfl rfl sh23 rfl) ?_
    refine Sx.wl_v rfl rfl (Sx.ov_len _ _ _ _ _ rfl es23) ?_
    refine Sx.wl_v rfl rfl (Sx.ov_bin _ rfl rfl (Sx.binR_sub (r := ((((startsOf s).length : Nat) : Int)) - 1) (Sx.w64 (by omega)))) ?_
    refine Sx.wl_v rfl rfl (Sx.ov_bin _ rfl rfl (Sx.binR_eql)) ?_
    refine Sx.wl_v rfl rfl (Sx.ov_pick_false _ rfl rfl) ?_
    refine Sx.wl_storeb 1 _ [.bool (decide (((xs.length : Int) : Int) = (((((startsOf s).length : Nat) : Int)) - 1)))] h rfl rfl rfl rfl rfl rfl sh4 rfl rfl (fun _ h => ?_)
    refine Sx.wl_nil ?_
    refine Sx.qi_then ?_
    refine Sx.ci_ret ?_
    have hD_ := Sx.st_obj (i := 0) h rfl
    replace h := Sx.st_putobj (.deferred none) h
    replace h : Sx.St w0 F0 ([Sx.obj D_ (.deferred none), Sx.blk b2 [.bool (decide (((xs.length : Int) : Int) = (((((startsOf s).length : Nat) : Int)) - 1)))] 4, Sx.blk b8 [.int .i64 ((xs.length : Int))] 3, Sx.blk g9 [.pointer (some ⟨g4, 0, none⟩)] 28, Sx.blk g4 [.slice (A10) (((ixOf s).lens).length) (c11), .int .i64 ((ixOf s).size), .bool ((ixOf s).open_)] 60, Sx.row (Kd.int .i64) 3 (A10) (c11) ((ixOf s).lens), Sx.blk b1 [.int .i64 (leave)] 3, Sx.blk b7 [.slice (A5) ((startsOf s).length) (cp6)] 23, Sx.row (Kd.int .i64) 3 (A5) (cp6) (startsOf s)] ++ []) _ := h
    have hend_ := h
    replace h := Sx.st_selT [false, false, false, false, false, false, false, false, false] h
    refine Sx.qn_retD [_] hD_ ⟨⟨_, rfl, Sx.loadVar1 sh4 (by rw [Sx.blk_cell hend_ (i := 1) rfl]; rfl)⟩, trivial⟩ ?_
    have b_ : (decide (((xs.length : Int) : Int) = (((((startsOf s).length : Nat) : Int)) - 1))) = true := by first | (have hq_ := congrArg List.length hS; rw [eachL_len] at hq_; exact decide_eq_true (by omega)) | exact decide_eq_true (by omega)
    exact ⟨congrArg (fun z => Ending.returned (Value.bool z)) b_, h⟩
  ·
   clear h
   intro D_ pre w hS hx h
   exfalso
   rcases hx with ⟨e_, _⟩ | ⟨_, hx⟩
   · cases e_
   · obtain ⟨k_, hk_, rfl⟩ := hS
     exact hx (by rw [eachL_tl _ _ hk_])
  ·
   clear h
   intro id_ D_ pre w hS hx h
   rcases hx with ⟨e_, hlv⟩ | ⟨e_, _⟩
   · injection e_ with e_
     subst e_
     replace h : Sx.St w0 F0 ([Sx.obj D_ (.deferred (some [])), Sx.blk b2 [.bool false] 4, Sx.blk b8 [.int .i64 ((pre.length : Int))] 3, Sx.blk g9 [.pointer (some ⟨g4, 0, none⟩)] 28, Sx.blk g4 [.slice (A10) (((ixOf s).lens).length) (c11), .int .i64 ((ixOf s).size), .bool ((ixOf s).open_)] 60, Sx.row (Kd.int .i64) 3 (A10) (c11) ((ixOf s).lens), Sx.blk b1 [.int .i64 (leave)] 3, Sx.blk b7 [.slice (A5) ((startsOf s).length) (cp6)] 23, Sx.row (Kd.int .i64) 3 (A5) (cp6) (startsOf s)] ++ []) w := h
     refine Sx.qd_block_exit ?_
     refine Sx.qd_then ?_
     refine Sx.ci_seq ?_
     refine Sx.ci_region Sx.lax_wide (fun _ _ h_ => by cases (And.left h_)) (by kernel_rfl) ?_
     refine Sx.wl_v rfl rfl (Sx.ov_loadb 2 _ h rfl rfl sh3 rfl) ?_
     refine Sx.wl_v rfl rfl (Sx.ov_loadb 6 _ h rfl rfl sh3 rfl) ?_
     refine Sx.wl_v rfl rfl (Sx.ov_bin _ rfl rfl (Sx.binR_eql)) ?_
     refine Sx.wl_v rfl rfl (Sx.ov_move _ rfl) ?_
     refine Sx.wl_split 55 rfl (fun c24 => ?_) (fun c24 => ?_)
     ·
      refine Sx.wl_skip rfl rfl ?_
      refine Sx.wl_skip rfl rfl ?_
      refine Sx.wl_skip rfl rfl ?_
      refine Sx.wl_skip rfl rfl ?_
      refine Sx.wl_skip rfl rfl ?_
      refine Sx.wl_v rfl rfl (Sx.ov_pick_true _ rfl rfl) ?_
      refine Sx.wl_storeb 1 _ [.bool true] h rfl rfl rfl rfl rfl rfl sh4 rfl rfl (fun _ h => ?_)
      refine Sx.wl_nil ?_
      refine Sx.qi_then ?_
      refine Sx.ci_ret ?_
      have hD_ := Sx.st_obj (i := 0) h rfl
      replace h := Sx.st_putobj (.deferred none) h
      replace h : Sx.St w0 F0 ([Sx.obj D_ (.deferred none), Sx.blk b2 [.bool true] 4, Sx.blk b8 [.int .i64 ((pre.length : Int))] 3, Sx.blk g9 [.pointer (some ⟨g4, 0, none⟩)] 28, Sx.blk g4 [.slice (A10) (((ixOf s).lens).length) (c11), .int .i64 ((ixOf s).size), .bool ((ixOf s).open_)] 60, Sx.row (Kd.int .i64) 3 (A10) (c11) ((ixOf s).lens), Sx.blk b1 [.int .i64 (leave)] 3, Sx.blk b7 [.slice (A5) ((startsOf s).length) (cp6)] 23, Sx.row (Kd.int .i64) 3 (A5) (cp6) (startsOf s)] ++ []) _ := h
      have hend_ := h
      replace h := Sx.st_selT [false, false, false, false, false, false, false, false, false] h
      refine Sx.qn_retD [_] hD_ ⟨⟨_, rfl, Sx.loadVar1 sh4 (by rw [Sx.blk_cell hend_ (i := 1) rfl]; rfl)⟩, trivial⟩ ?_
      exact ⟨rfl, h⟩
     ·
      refine Sx.wl_v rfl rfl (Sx.ov_loadb 2 _ h rfl rfl sh3 rfl) ?_
      refine Sx.wl_v rfl rfl (Sx.ov_loadb 7 _ h rfl rfl sh23 rfl) ?_
      refine Sx.wl_v rfl rfl (Sx.ov_len _ _ _ _ _ rfl es23) ?_
      refine Sx.wl_v rfl rfl (Sx.ov_bin _ rfl rfl (Sx.binR_sub (r := ((((startsOf s).length : Nat) : Int)) - 1) (Sx.w64 (by omega)))) ?_
      refine Sx.wl_v rfl rfl (Sx.ov_bin _ rfl rfl (Sx.binR_eql)) ?_
      refine Sx.wl_v rfl rfl (Sx.ov_pick_false _ rfl rfl) ?_
      refine Sx.wl_storeb 1 _ [.bool (decide (((pre.length : Int) : Int) = (((((startsOf s).length : Nat) : Int)) - 1)))] h rfl rfl rfl rfl rfl rfl sh4 rfl rfl (fun _ h => ?_)
      refine Sx.wl_nil ?_
      refine Sx.qi_then ?_
      refine Sx.ci_ret ?_
      have hD_ := Sx.st_obj (i := 0) h rfl
      replace h := Sx.st_putobj (.deferred none) h
      replace h : Sx.St w0 F0 ([Sx.obj D_ (.deferred none), Sx.blk b2 [.bool (decide (((pre.length : Int) : Int) = (((((startsOf s).length : Nat) : Int)) - 1)))] 4, Sx.blk b8 [.int .i64 ((pre.length : Int))] 3, Sx.blk g9 [.pointer (some ⟨g4, 0, none⟩)] 28, Sx.blk g4 [.slice (A10) (((ixOf s).lens).length) (c11), .int .i64 ((ixOf s).size), .bool ((ixOf s).open_)] 60, Sx.row (Kd.int .i64) 3 (A10) (c11) ((ixOf s).lens), Sx.blk b1 [.int .i64 (leave)] 3, Sx.blk b7 [.slice (A5) ((startsOf s).length) (cp6)] 23, Sx.row (Kd.int .i64) 3 (A5) (cp6) (startsOf s)] ++ []) _ := h
      have hend_ := h
      replace h := Sx.st_selT [false, false, false, false, false, false, false, false, false] h
      refine Sx.qn_retD [_] hD_ ⟨⟨_, rfl, Sx.loadVar1 sh4 (by rw [Sx.blk_cell hend_ (i := 1) rfl]; rfl)⟩, trivial⟩ ?_
      have b_ : (decide (((pre.length : Int) : Int) = (((((startsOf s).length : Nat) : Int)) - 1))) = true := by first | (have hq_ := congrArg List.length hS; rw [eachL_len] at hq_; exact decide_eq_true (by omega)) | exact decide_eq_true (by omega)
      exact ⟨congrArg (fun z => Ending.returned (Value.bool z)) b_, h⟩
   · cases e_
end Go.Proofs.Yteancplgfjhagaa.Paras.L
