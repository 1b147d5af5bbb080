/- Pruned by wip/prune.py. -/
import Derived.Test.YtieieindakbpoaaProg
import Derived.Test.YtieieindakbpoaaQSxGlue
import Derived.Test.YtieieindakbpoaaQSxRanged
import Derived.Test.YtieieindakbpoaaQSxRange1
import Derived.Test.YtieieindakbpoaaQSxFlow
import Derived.Test.YtieieindakbpoaaQSxBytes
import Derived.Test.YtieieindakbpoaaQSxKinds
import Derived.Test.YtieieindakbpoaaQPcText
import Derived.Test.YtieieindakbpoaaQPcWalk
import Derived.Test.YtieieindakbpoaaQPcRead
import Derived.Test.YtieieindakbpoaaQSxTree
import Derived.Test.YtieieindakbpoaaQSxRunes
import Derived.Test.YtieieindakbpoaaQSxLast
import Derived.Test.YtieieindakbpoaaQSxWalk
import Derived.Test.YtieieindakbpoaaQSxChunks
import Derived.Test.YtieieindakbpoaaQPcTx
import Derived.Test.YtieieindakbpoaaQSxRead
import Derived.Test.YtieieindakbpoaaQSxSplitR
import Derived.Test.YtieieindakbpoaaQSxString
import Derived.Test.YtieieindakbpoaaQSxText
import Derived.Test.YtieieindakbpoaaQSxEdit
import Derived.Test.YtieieindakbpoaaQSxWhole
import Derived.Test.YtieieindakbpoaaQPcEdit
import Derived.Test.YtieieindakbpoaaQSxPlayed
import Derived.Test.YtieieindakbpoaaQSxAwake
namespace Go.Proofs.Ytieieindakbpoaa.L
open Go Go.RowKit Go.Proofs.YtieieindakbpoaaW.PrintWords Go.Proofs.Ytieieindakbpoaa.Kinds Go.Proofs.Ytieieindakbpoaa.Given Go.Proofs.Ytieieindakbpoaa.Rn Go.Proofs.Ytieieindakbpoaa.Sx Go.Proofs.Ytieieindakbpoaa.Pc 
set_option linter.unusedVariables false
set_option linter.unusedSimpArgs false
theorem zo4 : Sx.zeroOf Try.prog 4 = some (.bool false) := by kernel_rfl
theorem ent12 : Sx.Ent Try.prog 12 := ⟨Try.f12, Try.func12, by kernel_rfl, by kernel_rfl⟩
theorem ent17 : Sx.Ent Try.prog 17 := ⟨Try.f17, Try.func17, by kernel_rfl, by kernel_rfl⟩
theorem sh4 : Sx.shapeOf Try.prog 4 = some (false, 1) := by kernel_rfl
theorem ent18 : Sx.Ent Try.prog 18 := ⟨Try.f18, Try.func18, by kernel_rfl, by kernel_rfl⟩
theorem zo3 : Sx.zeroOf Try.prog 3 = some (.int .i64 (0)) := by kernel_rfl
theorem sh3 : Sx.shapeOf Try.prog 3 = some (false, 1) := by kernel_rfl
theorem zo9 : Sx.zeroOf Try.prog 9 = some (.string (ByteArray.empty)) := by kernel_rfl
theorem sh9 : Sx.shapeOf Try.prog 9 = some (false, 1) := by kernel_rfl
theorem ent19 : Sx.Ent Try.prog 19 := ⟨Try.f19, Try.func19, by kernel_rfl, by kernel_rfl⟩
theorem ent40 : Sx.Ent Try.prog 40 := ⟨Try.f40, Try.func40, by kernel_rfl, by kernel_rfl⟩
theorem ent20 : Sx.Ent Try.prog 20 := ⟨Try.f20, Try.func20, by kernel_rfl, by kernel_rfl⟩
set_option maxHeartbeats 4000000 in
set_option maxRecDepth 100000 in
theorem PiecesChunks_calls {w0 w : World} {F0 : Nat → Prop} {R : List Sx.HP} {v0 : World} (s : ByteArray) (script : List S48) (Ascript : Option Addr) (cscript : Nat) (leave : Int) (hv : Sx.RO v0 w0 F0) (hzs : s.size ≤ 9223372036854775807) (hlscript : script.length ≤ cscript) (hCscript : k48.C v0 Ascript script.length script) (hmscript : script.length ≤ 9223372036854775807) (hlbscript : script.length ≤ 1048576) (hopscript : ∀ o ∈ script, o.f3.size ≤ 17592186044416) (h : Sx.St w0 F0 ([] ++ R) w) : Calls Try.prog 4 #[.string (s), .slice (Ascript) (script.length) (cscript), .int .i64 (leave)] w (fun e w1 => e = .returned (.bool true) ∧ Sx.St w0 F0 R w1) := by
 refine Sx.calls_fnM (vs := [.string (s), .slice (Ascript) (script.length) (cscript), .int .i64 (leave)]) Try.func4 rfl Try.ntmps4 rfl ?_
 refine wc_seq ?_
 refine wc_region ?_
 refine wl_box _ h rfl rfl rfl (fun b1 _ h => ?_)
 replace h : Sx.St _ _ (Sx.blk b1 [.int .i64 (leave)] 3 :: _) _ := h
 refine wl_alloc _ h rfl rfl zo4 (fun b2 _ h => ?_)
 replace h : Sx.St _ _ (Sx.blk b2 [.bool false] 4 :: _) _ := h
 refine wl_nil ?_
 refine qn_then ?_
 refine wc_seq ?_
 refine wc_seq ?_
 refine wc_region ?_
 refine wl_call _ rfl rfl rfl ent12 (AW.awake_calls (R := [Sx.blk b2 [.bool false] 4, Sx.blk b1 [.int .i64 (leave)] 3] ++ R) h) ?_
 rintro e_ w_ ⟨rfl, h⟩
 refine ⟨_, rfl, ?_⟩
 refine wl_v rfl rfl (ov_notb _ rfl) ?_
 refine wl_nil ?_
 refine qn_then ?_
 refine wc_cond_false rfl ?_
 refine wc_skip ?_
 refine qn_then ?_
 refine wc_seq ?_
 refine wc_seq ?_
 refine wc_region ?_
 refine wl_v rfl rfl (ov_move _ rfl) ?_
 refine wl_call _ rfl rfl rfl ent17 (PD.right_calls (R := [Sx.blk b2 [.bool false] 4, Sx.blk b1 [.int .i64 (leave)] 3] ++ R) s h) ?_
 rintro e_ w_ ⟨rfl, h⟩
 refine ⟨_, rfl, ?_⟩
 refine wl_v rfl rfl (ov_not _ (¬ (s.size ≤ 4096 ∧ (refV s).2 < 0)) rfl (by first | exact decide_not.symm | simp)) ?_
 refine wl_nil ?_
 refine qn_then ?_
 refine wc_cond (by rfl) (fun c3 => ?_) (fun c3 => ?_)
 ·
  refine wc_seq ?_
  refine wc_region ?_
  refine wl_storeb 0 _ [.bool true] h rfl rfl rfl rfl rfl rfl sh4 rfl rfl (fun _ h => ?_)
  refine wl_nil ?_
  refine qn_then ?_
  refine wc_ret ?_
  refine qn_then_ret ?_
  have hend_ := h
  replace h := st_selT [false, false] h
  refine qn_retM [_] ⟨⟨_, rfl, Sx.loadVar1 sh4 (by rw [Sx.blk_cell hend_ (i := 0) rfl]; rfl)⟩, trivial⟩ ?_
  exact ⟨rfl, h⟩
 ·
  have hrt_ : s.size ≤ 4096 ∧ (refV s).2 < 0 := Classical.not_not.1 c3
  have hrs_ := hrt_.1
  refine wc_skip ?_
  refine qn_then ?_
  refine wc_seq ?_
  refine wc_region ?_
  refine wl_v rfl rfl (ov_move _ rfl) ?_
  refine wl_v rfl rfl (ov_move _ rfl) ?_
  have hnv0_ : TX.newV s = 0 := by
    rw [TX.newV_fit (by omega)]
    exact PE.right_check (by first | exact hrt_.2 | assumption)
  have hrt0_ : PE.Rt s := ⟨hrt_.2, by omega⟩
  refine wl_call _ rfl rfl rfl ent18 (PD.played_calls (R := [Sx.blk b2 [.bool false] 4, Sx.blk b1 [.int .i64 (leave)] 3] ++ R) s (Ascript) (cscript) (script) (by omega) hnv0_ hopscript (by omega) hlscript (fun _ _ h_ => Sx.ro_C hv h_ hCscript) h) ?_
  rintro e_ w_ ⟨g4, D5, d6, Φ7, rfl, hD8, hDl9, h⟩
  refine ⟨_, rfl, ?_⟩
  replace h : Sx.St w0 F0 ([Pc.tx (Φ7) g4 (D5) (d6), Pc.lib (Φ7), Sx.blk b2 [.bool false] 4, Sx.blk b1 [.int .i64 (leave)] 3] ++ R) _ := h
  have hfc_ := Pc.tx_facts h
  have hfs_ := hfc_.size
  refine wl_v rfl rfl (ov_move _ rfl) ?_
  refine wl_v rfl rfl (ov_extract [.pointer (some ⟨g4, 0, none⟩), .string (Pc.catB D5), .int .i64 (((min (script).length 60 : Nat) : Int))] _ rfl rfl) ?_
  refine wl_v rfl rfl (ov_extract [.pointer (some ⟨g4, 0, none⟩), .string (Pc.catB D5), .int .i64 (((min (script).length 60 : Nat) : Int))] _ rfl rfl) ?_
  refine wl_v rfl rfl (ov_extract [.pointer (some ⟨g4, 0, none⟩), .string (Pc.catB D5), .int .i64 (((min (script).length 60 : Nat) : Int))] _ rfl rfl) ?_
  refine wl_v rfl rfl (ov_assign _ rfl) ?_
  refine wl_v rfl rfl (ov_assign _ rfl) ?_
  refine wl_v rfl rfl (ov_assign _ rfl) ?_
  refine wl_nil ?_
  refine qn_then ?_
  refine wc_seq ?_
  refine wc_seq ?_
  refine wc_region ?_
  refine wl_v rfl rfl (ov_move _ rfl) ?_
  refine wl_v rfl rfl (ov_bin (.bool false) rfl rfl (binR_eqnil Try.underlying23)) ?_
  refine wl_nil ?_
  refine qn_then ?_
  refine wc_cond_false rfl ?_
  refine wc_skip ?_
  refine qn_then ?_
  refine wc_seq ?_
  refine wc_region ?_
  refine wl_alloc _ h rfl rfl zo3 (fun b10 _ h => ?_)
  replace h : Sx.St _ _ (Sx.blk b10 [.int .i64 (0)] 3 :: _) _ := h
  refine wl_storeb 0 _ [.int .i64 (0)] h rfl rfl rfl rfl rfl rfl sh3 rfl rfl (fun _ h => ?_)
  refine wl_nil ?_
  refine qn_then ?_
  refine wc_seq ?_
  refine wc_region ?_
  refine wl_alloc _ h rfl rfl zo9 (fun b11 _ h => ?_)
  replace h : Sx.St _ _ (Sx.blk b11 [.string (ByteArray.empty)] 9 :: _) _ := h
  refine wl_storeb 0 _ [.string (ByteArray.mk #[])] h rfl rfl rfl rfl rfl rfl sh9 rfl rfl (fun _ h => ?_)
  refine wl_nil ?_
  refine qn_then ?_
  refine wc_seq ?_
  refine wc_seq ?_
  refine wc_region ?_
  refine wl_v rfl rfl (ov_move _ rfl) ?_
  refine wl_call _ rfl rfl rfl ent19 (ST.Chunks_calls (R := [Sx.blk b11 [.string (ByteArray.mk #[])] 9, Sx.blk b10 [.int .i64 (0)] 3, Pc.tx (Φ7) g4 (D5) (d6), Pc.lib (Φ7), Sx.blk b2 [.bool false] 4, Sx.blk b1 [.int .i64 (leave)] 3] ++ R) g4 h) ?_
  rintro e_ w_ ⟨gb12, rfl, h⟩
  refine ⟨_, rfl, ?_⟩
  replace h : Sx.St w0 F0 ([Sx.blk gb12 [.pointer (some ⟨g4, 0, none⟩)] 23, Sx.blk b11 [.string (ByteArray.mk #[])] 9, Sx.blk b10 [.int .i64 (0)] 3, Pc.tx (Φ7) g4 (D5) (d6), Pc.lib (Φ7), Sx.blk b2 [.bool false] 4, Sx.blk b1 [.int .i64 (leave)] 3] ++ R) _ := h
  refine wl_nil ?_
  refine qn_then ?_
  refine wc_block ?_
  replace h := st_front 3 h
  obtain ⟨s13_, A13_, c13_, L13_, T13_, ok13_, hl13_, h⟩ := Pc.tx_open h
  have hz13_ := ok13_.z0
  have hy13_ := ok13_.zL
  have hx13_ := ok13_.zc
  have hcz13_ := Pc.cat_size ok13_.wf
  replace h : Sx.St w0 F0 ([Sx.blk g4 [.string (s13_), .slice (A13_) (L13_.length) (c13_), .pointer (Pc.AT.ptr T13_)] 68, Pc.rowl (Φ7) 5 (A13_) (c13_) (L13_), Sx.blk gb12 [.pointer (some ⟨g4, 0, none⟩)] 23, Sx.blk b11 [.string (ByteArray.mk #[])] 9, Sx.blk b10 [.int .i64 (0)] 3, Pc.lib (Φ7), Sx.blk b2 [.bool false] 4, Sx.blk b1 [.int .i64 (leave)] 3] ++ R) _ := h
  replace h := st_front 7 h
  replace h := st_front 6 h
  replace h := st_front 3 h
  replace h := st_front 3 h
  replace h := st_front 4 h
  replace h := st_front 5 h
  replace h := st_front 6 h
  replace h := st_front 7 h
  replace h : Sx.St w0 F0 (Sx.pcs [(b2, 4), (b10, 3), (b11, 9)] [[.bool false], [.int .i64 ((([] : List ByteArray).length : Nat) : Int)], [.string (Pc.catB ([] : List ByteArray))]] ++ ([Sx.blk gb12 [.pointer (some ⟨g4, 0, none⟩)] 23, Sx.blk g4 [.string (s13_), .slice (A13_) (L13_.length) (c13_), .pointer (Pc.AT.ptr T13_)] 68, Pc.rowl (Φ7) 5 (A13_) (c13_) (L13_), Pc.lib (Φ7), Sx.blk b1 [.int .i64 (leave)] 3] ++ R)) _ := h
  have hlv_ := Sx.stab_blk (i := 4) h rfl rfl
  have hch_ : ((Pc.chs s13_ L13_ (Pc.AT.fl T13_))).length ≤ 121 := by rw [← ok13_.eD]; have := hDl9; omega
  refine wc_range1 (α := ByteArray) [(b2, 4), (b10, 3), (b11, 9)] (fun s_ => [[.bool false], [.int .i64 ((s_.length : Nat) : Int)], [.string (Pc.catB s_)]]) (fun c_ s_ => [[.bool false], [.int .i64 ((s_.length : Nat) : Int)], [.string (Pc.catB s_)]]) ([Sx.blk gb12 [.pointer (some ⟨g4, 0, none⟩)] 23, Sx.blk g4 [.string (s13_), .slice (A13_) (L13_.length) (c13_), .pointer (Pc.AT.ptr T13_)] 68, Pc.rowl (Φ7) 5 (A13_) (c13_) (L13_), Pc.lib (Φ7), Sx.blk b1 [.int .i64 (leave)] 3] ++ R) (e1 := fun x_ => .string (x_)) (fun s_ => ∃ suf, (Pc.chs s13_ L13_ (Pc.AT.fl T13_)) = s_ ++ suf) (fun c_ s_ => c_ = .exit 0 ∧ (∃ suf, (Pc.chs s13_ L13_ (Pc.AT.fl T13_)) = s_ ++ suf) ∧ ((s_.length : Nat) : Int) = leave) h (fun _ => rfl) (fun c_ _ => rfl) rfl ent40 rfl (TC.chunks_seq (by omega) (by omega) (Sx.stab_blk (i := 0) h rfl rfl) (Sx.stab_blk (i := 1) h rfl rfl) (Pc.stab_rowl (i := 2) (j := 3) h rfl rfl rfl (fun _ z_ => z_)).2 hl13_ (Pc.stab_at (i := 3) h rfl rfl T13_ ok13_.at_) ok13_.wf) (⟨_, rfl⟩) ?_ ?_ ?_ ?_
  ·
   clear h
   intro l_ D_ oR oB od pre x w0 Qm Qr hngm hngr hnpm hnpr hJ hN hkc hmid hnorm hretr hexitr h
   obtain ⟨F0, hF0_⟩ : ∃ F_ : Nat → Prop, F_ = Sx.FX [(b2, 4), (b10, 3), (b11, 9)] l_ D_ := ⟨_, rfl⟩
   rw [← hF0_] at hkc hmid hnorm hretr hexitr h
   replace h : Sx.St w0 F0 ([Sx.obj l_ oR, Sx.obj D_ od, Sx.blk b2 [.bool false] 4, Sx.blk b10 [.int .i64 ((pre.length : Int))] 3, Sx.blk b11 [.string (Pc.catB pre)] 9] ++ []) w0 := h
   have hpl_ : pre.length < 121 := by
     obtain ⟨suf_, hs_⟩ := hN
     have q_ := congrArg List.length hs_
     rw [List.length_append, List.length_cons] at q_
     omega
   have hpz_ : (Pc.catB pre).size + x.size ≤ 65536 := by
     obtain ⟨suf_, hs_⟩ := hN
     have q_ := congrArg ByteArray.size (congrArg Pc.catB hs_)
     rw [Pc.catB_app, ← ok13_.eD] at q_
     simp only [Pc.catB] at q_
     rw [ByteArray.size_append, ByteArray.size_append] at q_
     omega
   have rlv_ : ∀ cs_ w_, Sx.St w0 F0 cs_ w_ → ∀ j_, w_.cell? ⟨b1, j_, none⟩ = ([.int .i64 (leave)] : List Value)[j_]? := fun cs_ w_ h_ => hlv_ w_ (hkc _ w_ h_)
   refine Sx.ci_region (Sx.lax_round l_) (fun a_ w_ h_ => hngm a_ w_ h_) (by kernel_rfl) ?_
   refine wl_v rfl rfl (ov_assign _ rfl) ?_
   refine wl_nil ?_
   refine hmid _ _ _ h (fun w_ h => ?_)
   replace h : Sx.St w0 F0 ([Sx.obj l_ oB, Sx.obj D_ od, Sx.blk b2 [.bool false] 4, Sx.blk b10 [.int .i64 ((pre.length : Int))] 3, Sx.blk b11 [.string (Pc.catB pre)] 9] ++ []) w_ := h
   refine Sx.ci_block ?_
   refine Sx.ci_seq ?_
   refine Sx.ci_seq ?_
   refine Sx.ci_region (Sx.lax_round l_) (fun a_ w_ h_ => hngr a_ w_ h_) (by kernel_rfl) ?_
   refine wl_v rfl rfl (ov_move _ rfl) ?_
   refine wl_v rfl rfl (ov_bin _ rfl rfl (binR_eqs)) ?_
   refine wl_nil ?_
   refine Sx.qi_then ?_
   refine Sx.ci_cond (by rfl) (fun c14 => ?_) (fun c14 => ?_)
   ·
    exfalso
    obtain ⟨suf_, hs_⟩ := hN
    have hx_ := hfc_.ne x (by rw [ok13_.eD, hs_]; simp)
    rw [c14] at hx_
    exact absurd hx_ (by decide)
   ·
    refine Sx.ci_skip ?_
    refine Sx.qi_then ?_
    refine Sx.ci_seq ?_
    refine Sx.ci_region (Sx.lax_round l_) (fun a_ w_ h_ => hngr a_ w_ h_) (by kernel_rfl) ?_
    refine wl_v rfl rfl (ov_loadb 4 _ h rfl rfl sh9 rfl) ?_
    refine wl_v rfl rfl (ov_move _ rfl) ?_
    refine wl_v rfl rfl (ov_bin _ rfl rfl (binR_adds (by omega))) ?_
    refine wl_storeb 4 _ [.string ((Pc.catB pre) ++ (x))] h rfl rfl rfl rfl rfl rfl sh9 rfl rfl (fun _ h => ?_)
    refine wl_nil ?_
    refine Sx.qi_then ?_
    refine Sx.ci_seq ?_
    refine Sx.ci_region (Sx.lax_round l_) (fun a_ w_ h_ => hngr a_ w_ h_) (by kernel_rfl) ?_
    refine wl_v rfl rfl (ov_loadb 3 _ h rfl rfl sh3 rfl) ?_
    refine wl_v rfl rfl (ov_bin _ rfl rfl (binR_add (r := ((pre.length : Int)) + 1) (Sx.w64 (by omega)))) ?_
    refine wl_storeb 3 _ [.int .i64 (((pre.length : Int)) + 1)] h rfl rfl rfl rfl rfl rfl sh3 rfl rfl (fun _ h => ?_)
    refine wl_nil ?_
    refine Sx.qi_then ?_
    refine Sx.ci_seq ?_
    refine Sx.ci_region (Sx.lax_round l_) (fun a_ w_ h_ => hngr a_ w_ h_) (by kernel_rfl) ?_
    refine wl_v rfl rfl (ov_loadb 3 _ h rfl rfl sh3 rfl) ?_
    refine wl_v rfl rfl (ov_load1 ⟨b1, 0, none⟩ _ rfl sh3 ((rlv_ _ _ h 0).trans rfl)) ?_
    refine wl_v rfl rfl (ov_bin _ rfl rfl (binR_eql)) ?_
    refine wl_nil ?_
    refine Sx.qi_then ?_
    refine Sx.ci_cond (by rfl) (fun c15 => ?_) (fun c15 => ?_)
    ·
     refine Sx.ci_exit ?_
     refine qn_block_other (by decide) ?_
     replace h := st_front 4 h
     replace h := st_front 4 h
     replace h := st_front 4 h
     replace h := st_front 4 h
     replace h := st_front 4 h
     replace h : Sx.St w0 F0 ([Sx.obj l_ oB, Sx.obj D_ od, Sx.blk b2 [.bool false] 4, Sx.blk b10 [.int .i64 (((pre.length : Int)) + 1)] 3, Sx.blk b11 [.string ((Pc.catB pre) ++ (x))] 9] ++ []) _ := h
     obtain ⟨suf_, hs_⟩ := hN
     have hn_ : ∃ suf, (Pc.chs s13_ L13_ (Pc.AT.fl T13_)) = (pre ++ [x]) ++ suf := ⟨suf_, by rw [hs_]; simp⟩
     have ec_ : Pc.catB (pre ++ [x]) = Pc.catB pre ++ x := by rw [Pc.catB_app, Pc.catB_one]
     have el_ : (((pre ++ [x]).length : Nat) : Int) = (pre.length : Int) + 1 := by simp
     refine hexitr _ _ _ ⟨rfl, hn_, by omega⟩ ?_
     show Sx.St w0 F0 [Sx.obj l_ oB, Sx.obj D_ od, Sx.blk b2 [.bool false] 4, Sx.blk b10 [.int .i64 (((pre ++ [x]).length : Int))] 3, Sx.blk b11 [.string (Pc.catB (pre ++ [x]))] 9] _
     rw [ec_, el_]
     exact h
    ·
     refine Sx.ci_skip ?_
     refine qn_block_normal ?_
     replace h := st_front 4 h
     replace h := st_front 4 h
     replace h := st_front 4 h
     replace h := st_front 4 h
     replace h := st_front 4 h
     replace h : Sx.St w0 F0 ([Sx.obj l_ oB, Sx.obj D_ od, Sx.blk b2 [.bool false] 4, Sx.blk b10 [.int .i64 (((pre.length : Int)) + 1)] 3, Sx.blk b11 [.string ((Pc.catB pre) ++ (x))] 9] ++ []) _ := h
     obtain ⟨suf_, hs_⟩ := hN
     have hn_ : ∃ suf, (Pc.chs s13_ L13_ (Pc.AT.fl T13_)) = (pre ++ [x]) ++ suf := ⟨suf_, by rw [hs_]; simp⟩
     have ec_ : Pc.catB (pre ++ [x]) = Pc.catB pre ++ x := by rw [Pc.catB_app, Pc.catB_one]
     have el_ : (((pre ++ [x]).length : Nat) : Int) = (pre.length : Int) + 1 := by simp
     refine hnorm _ _ hn_ ?_
     show Sx.St w0 F0 [Sx.obj l_ oB, Sx.obj D_ od, Sx.blk b2 [.bool false] 4, Sx.blk b10 [.int .i64 (((pre ++ [x]).length : Int))] 3, Sx.blk b11 [.string (Pc.catB (pre ++ [x]))] 9] _
     rw [ec_, el_]
     exact h
  ·
   clear h
   intro D_ xs w hS hJ h
   have hj1_ := hJ
   replace h : Sx.St w0 F0 ([Sx.obj D_ (.deferred (some [])), Sx.blk b2 [.bool false] 4, Sx.blk b10 [.int .i64 ((xs.length : Int))] 3, Sx.blk b11 [.string (Pc.catB xs)] 9, Sx.blk gb12 [.pointer (some ⟨g4, 0, none⟩)] 23, Sx.blk g4 [.string (s13_), .slice (A13_) (L13_.length) (c13_), .pointer (Pc.AT.ptr T13_)] 68, Pc.rowl (Φ7) 5 (A13_) (c13_) (L13_), Pc.lib (Φ7), Sx.blk b1 [.int .i64 (leave)] 3] ++ R) w := h
   refine Sx.qd_block_normal ?_
   refine Sx.qd_then ?_
   refine Sx.ci_seq ?_
   refine Sx.ci_seq ?_
   refine Sx.ci_region Sx.lax_wide (fun _ _ h_ => by cases (And.left h_)) (by kernel_rfl) ?_
   refine wl_v rfl rfl (ov_loadb 2 _ h rfl rfl sh3 rfl) ?_
   refine wl_v rfl rfl (ov_loadb 8 _ h rfl rfl sh3 rfl) ?_
   refine wl_v rfl rfl (ov_bin _ rfl rfl (binR_eql)) ?_
   refine wl_nil ?_
   refine Sx.qi_then ?_
   refine Sx.ci_cond (by rfl) (fun c16 => ?_) (fun c16 => ?_)
   ·
    refine Sx.ci_seq ?_
    refine Sx.ci_drawy Sx.lax_wide (fun _ _ h_ => by cases (And.left h_)) (by kernel_rfl) (by kernel_rfl) ?_
    replace h := st_drew h
    refine Sx.wy_start (l2 := #[false, false, false, false, false, false, false, false, false, false, false, false, false, false, false, false, false, false, false, false]) (by kernel_rfl) ?_
    refine Sx.wy_sub (f2 := [(6, .pointer (some ⟨b2, 0, none⟩)), (7, .pointer (some ⟨g4, 0, none⟩)), (8, .string (Pc.catB D5)), (10, .pointer (some ⟨b10, 0, none⟩)), (11, .pointer (some ⟨b11, 0, none⟩))]) ⟨rfl, rfl, rfl, rfl, rfl, trivial⟩ ?_
    refine Sx.wy_haveS (fun w => Sx.St w0 F0 ([Sx.obj D_ (.deferred (some [])), Sx.blk b2 [.bool false] 4, Sx.blk b10 [.int .i64 ((xs.length : Int))] 3, Sx.blk b11 [.string (Pc.catB xs)] 9, Sx.blk gb12 [.pointer (some ⟨g4, 0, none⟩)] 23, Sx.blk g4 [.string (s13_), .slice (A13_) (L13_.length) (c13_), .pointer (Pc.AT.ptr T13_)] 68, Pc.rowl (Φ7) 5 (A13_) (c13_) (L13_), Pc.lib (Φ7), Sx.blk b1 [.int .i64 (leave)] 3] ++ R) w) 15 #[true, true, true, true, true, false, false, false, false, false, false, false, false, false, false, false, false, false, false, false] [(6, .pointer (some ⟨b2, 0, none⟩)), (7, .pointer (some ⟨g4, 0, none⟩)), (8, .string (Pc.catB D5)), (10, .pointer (some ⟨b10, 0, none⟩)), (11, .pointer (some ⟨b11, 0, none⟩)), (47, .bool (decide (((xs.length : Int) : Int) ≤ ((((Pc.AT.fl T13_).length : Nat) : Int)))))] ?_ (fun nd17 => ?_)
    ·
     clear h
     intro w h
     refine Sx.wy_split 47 rfl (fun c18 => ?_) (fun c18 => ?_)
     ·
      refine Sx.wy_sub (f2 := [(6, .pointer (some ⟨b2, 0, none⟩)), (7, .pointer (some ⟨g4, 0, none⟩)), (8, .string (Pc.catB D5)), (10, .pointer (some ⟨b10, 0, none⟩)), (11, .pointer (some ⟨b11, 0, none⟩)), (47, .bool true)]) ⟨rfl, rfl, rfl, rfl, rfl, rfl, trivial⟩ ?_
      refine Sx.wy_haveS (fun w => Sx.St w0 F0 ([Sx.obj D_ (.deferred (some [])), Sx.blk b2 [.bool false] 4, Sx.blk b10 [.int .i64 ((xs.length : Int))] 3, Sx.blk b11 [.string (Pc.catB xs)] 9, Sx.blk gb12 [.pointer (some ⟨g4, 0, none⟩)] 23, Sx.blk g4 [.string (s13_), .slice (A13_) (L13_.length) (c13_), .pointer (Pc.AT.ptr T13_)] 68, Pc.rowl (Φ7) 5 (A13_) (c13_) (L13_), Pc.lib (Φ7), Sx.blk b1 [.int .i64 (leave)] 3] ++ R) w) 8 #[true, true, true, true, true, true, true, true, true, true, true, true, false, false, false, false, false, false, false, false] [(6, .pointer (some ⟨b2, 0, none⟩)), (7, .pointer (some ⟨g4, 0, none⟩)), (8, .string (Pc.catB D5)), (10, .pointer (some ⟨b10, 0, none⟩)), (11, .pointer (some ⟨b11, 0, none⟩)), (54, .bool (decide ((((Pc.catB xs).size : Int) : Int) ≤ (((Pc.catB D5).size : Int)))))] ?_ (fun nd19 => ?_)
      ·
       clear h
       intro w h
       refine Sx.wy_split 54 rfl (fun c20 => ?_) (fun c20 => ?_)
       ·
        refine Sx.wy_sub (f2 := [(6, .pointer (some ⟨b2, 0, none⟩)), (7, .pointer (some ⟨g4, 0, none⟩)), (8, .string (Pc.catB D5)), (10, .pointer (some ⟨b10, 0, none⟩)), (11, .pointer (some ⟨b11, 0, none⟩)), (54, .bool true)]) ⟨rfl, rfl, rfl, rfl, rfl, rfl, trivial⟩ ?_
        refine Sx.wy_haveS (fun w => Sx.St w0 F0 ([Sx.obj D_ (.deferred (some [])), Sx.blk b2 [.bool (decide ((Pc.catB xs) = ((Pc.catB D5).extract 0 ((Pc.catB xs).size))))] 4, Sx.blk b10 [.int .i64 ((xs.length : Int))] 3, Sx.blk b11 [.string (Pc.catB xs)] 9, Sx.blk gb12 [.pointer (some ⟨g4, 0, none⟩)] 23, Sx.blk g4 [.string (s13_), .slice (A13_) (L13_.length) (c13_), .pointer (Pc.AT.ptr T13_)] 68, Pc.rowl (Φ7) 5 (A13_) (c13_) (L13_), Pc.lib (Φ7), Sx.blk b1 [.int .i64 (leave)] 3] ++ R) w) 0 #[true, true, true, true, true, true, true, true, true, true, true, true, true, true, true, true, true, true, true, true] [(6, .pointer (some ⟨b2, 0, none⟩)), (7, .pointer (some ⟨g4, 0, none⟩)), (8, .string (Pc.catB D5)), (10, .pointer (some ⟨b10, 0, none⟩)), (11, .pointer (some ⟨b11, 0, none⟩))] ?_ (fun nd21 => ?_)
        ·
         clear h
         intro w h
         refine Sx.wy_done (by kernel_rfl) ?_
         refine Sx.qi_then ?_
         refine Sx.ci_ret ?_
         refine qn_then_ret ?_
         have hD_ := st_obj (i := 0) h rfl
         replace h := st_putobj (.deferred none) h
         replace h : Sx.St w0 F0 ([Sx.obj D_ (.deferred none), Sx.blk b2 [.bool (decide ((Pc.catB xs) = ((Pc.catB D5).extract 0 ((Pc.catB xs).size))))] 4, Sx.blk b10 [.int .i64 ((xs.length : Int))] 3, Sx.blk b11 [.string (Pc.catB xs)] 9, Sx.blk gb12 [.pointer (some ⟨g4, 0, none⟩)] 23, Sx.blk g4 [.string (s13_), .slice (A13_) (L13_.length) (c13_), .pointer (Pc.AT.ptr T13_)] 68, Pc.rowl (Φ7) 5 (A13_) (c13_) (L13_), Pc.lib (Φ7), Sx.blk b1 [.int .i64 (leave)] 3] ++ R) _ := h
         have hend_ := h
         replace h := st_selT [false, false, false, false, false, false, false, false, false] h
         refine qn_retD [_] hD_ ⟨⟨_, rfl, Sx.loadVar1 sh4 (by rw [Sx.blk_cell hend_ (i := 1) rfl]; rfl)⟩, trivial⟩ ?_
         have hCD_ : Pc.catB D5 = Pc.catB (Pc.chs s13_ L13_ (Pc.AT.fl T13_)) := by rw [ok13_.eD]
         have hDl_ : D5.length = (Pc.chs s13_ L13_ (Pc.AT.fl T13_)).length := by rw [ok13_.eD]
         have hfl_ := Pc.tok_len ok13_
         have hx1_ : Pc.catB xs = Pc.catB D5 := by rw [hS, hCD_]
         have hx2_ : xs.length = D5.length := by rw [hS, hDl_]
         have b_ : (decide ((Pc.catB xs) = ((Pc.catB D5).extract 0 ((Pc.catB xs).size)))) = true := by first | (apply decide_eq_true; omega) | (apply decide_eq_true; exact hx7_) | (apply decide_eq_true; exact hx1_) | (apply decide_eq_true; rw [hx1_, Pc.ex_all]) | (simp_all; done)
         exact ⟨congrArg (fun z => Ending.returned (Value.bool z)) b_, h⟩
        refine Sx.wy_haveS (fun w => Sx.St w0 F0 ([Sx.obj D_ (.deferred (some [])), Sx.blk b2 [.bool false] 4, Sx.blk b10 [.int .i64 ((xs.length : Int))] 3, Sx.blk b11 [.string (Pc.catB xs)] 9, Sx.blk gb12 [.pointer (some ⟨g4, 0, none⟩)] 23, Sx.blk g4 [.string (s13_), .slice (A13_) (L13_.length) (c13_), .pointer (Pc.AT.ptr T13_)] 68, Pc.rowl (Φ7) 5 (A13_) (c13_) (L13_), Pc.lib (Φ7), Sx.blk b1 [.int .i64 (leave)] 3] ++ R) w) 1 #[true, true, true, true, true, true, true, true, true, true, true, true, true, true, true, true, true, true, true, false] [(6, .pointer (some ⟨b2, 0, none⟩)), (7, .pointer (some ⟨g4, 0, none⟩)), (8, .string (Pc.catB D5)), (10, .pointer (some ⟨b10, 0, none⟩)), (11, .pointer (some ⟨b11, 0, none⟩)), (61, .bool (decide ((Pc.catB xs) = ((Pc.catB D5).extract 0 ((Pc.catB xs).size)))))] ?_ (fun nd22 => ?_)
        ·
         clear h
         intro w h
         refine Sx.wy_one 19 rfl (by kernel_rfl) ?_
         ·
          refine wl_storeb 1 _ [.bool (decide ((Pc.catB xs) = ((Pc.catB D5).extract 0 ((Pc.catB xs).size))))] h rfl rfl rfl rfl rfl rfl sh4 rfl rfl (fun _ h => ?_)
          refine wl_nil ?_
          refine qn_wyl (by kernel_rfl) ?_ (nd21 _ h)
          exact ⟨rfl, rfl, rfl, rfl, rfl, trivial⟩
        refine Sx.wy_haveS (fun w => Sx.St w0 F0 ([Sx.obj D_ (.deferred (some [])), Sx.blk b2 [.bool false] 4, Sx.blk b10 [.int .i64 ((xs.length : Int))] 3, Sx.blk b11 [.string (Pc.catB xs)] 9, Sx.blk gb12 [.pointer (some ⟨g4, 0, none⟩)] 23, Sx.blk g4 [.string (s13_), .slice (A13_) (L13_.length) (c13_), .pointer (Pc.AT.ptr T13_)] 68, Pc.rowl (Φ7) 5 (A13_) (c13_) (L13_), Pc.lib (Φ7), Sx.blk b1 [.int .i64 (leave)] 3] ++ R) w) 2 #[true, true, true, true, true, true, true, true, true, true, true, true, true, true, true, true, true, true, false, false] [(6, .pointer (some ⟨b2, 0, none⟩)), (7, .pointer (some ⟨g4, 0, none⟩)), (8, .string (Pc.catB D5)), (10, .pointer (some ⟨b10, 0, none⟩)), (11, .pointer (some ⟨b11, 0, none⟩)), (54, .bool true), (60, .bool (decide ((Pc.catB xs) = ((Pc.catB D5).extract 0 ((Pc.catB xs).size)))))] ?_ (fun nd23 => ?_)
        ·
         clear h
         intro w h
         refine Sx.wy_one 18 rfl (by kernel_rfl) ?_
         ·
          refine wl_v rfl rfl (ov_pick_true _ rfl rfl) ?_
          refine wl_nil ?_
          refine qn_wyl (by kernel_rfl) ?_ (nd22 _ h)
          exact ⟨rfl, rfl, rfl, rfl, rfl, rfl, trivial⟩
        refine Sx.wy_haveS (fun w => Sx.St w0 F0 ([Sx.obj D_ (.deferred (some [])), Sx.blk b2 [.bool false] 4, Sx.blk b10 [.int .i64 ((xs.length : Int))] 3, Sx.blk b11 [.string (Pc.catB xs)] 9, Sx.blk gb12 [.pointer (some ⟨g4, 0, none⟩)] 23, Sx.blk g4 [.string (s13_), .slice (A13_) (L13_.length) (c13_), .pointer (Pc.AT.ptr T13_)] 68, Pc.rowl (Φ7) 5 (A13_) (c13_) (L13_), Pc.lib (Φ7), Sx.blk b1 [.int .i64 (leave)] 3] ++ R) w) 3 #[true, true, true, true, true, true, true, true, true, true, true, true, true, true, true, true, true, false, false, false] [(6, .pointer (some ⟨b2, 0, none⟩)), (7, .pointer (some ⟨g4, 0, none⟩)), (8, .string (Pc.catB D5)), (10, .pointer (some ⟨b10, 0, none⟩)), (11, .pointer (some ⟨b11, 0, none⟩)), (54, .bool true), (55, .string (Pc.catB xs)), (59, .string ((Pc.catB D5).extract 0 ((Pc.catB xs).size)))] ?_ (fun nd24 => ?_)
        ·
         clear h
         intro w h
         refine Sx.wy_one 17 rfl (by kernel_rfl) ?_
         ·
          refine wl_v rfl rfl (ov_bin _ rfl rfl (binR_eqs)) ?_
          refine wl_nil ?_
          refine qn_wyl (by kernel_rfl) ?_ (nd23 _ h)
          exact ⟨rfl, rfl, rfl, rfl, rfl, rfl, rfl, trivial⟩
        refine Sx.wy_haveS (fun w => Sx.St w0 F0 ([Sx.obj D_ (.deferred (some [])), Sx.blk b2 [.bool false] 4, Sx.blk b10 [.int .i64 ((xs.length : Int))] 3, Sx.blk b11 [.string (Pc.catB xs)] 9, Sx.blk gb12 [.pointer (some ⟨g4, 0, none⟩)] 23, Sx.blk g4 [.string (s13_), .slice (A13_) (L13_.length) (c13_), .pointer (Pc.AT.ptr T13_)] 68, Pc.rowl (Φ7) 5 (A13_) (c13_) (L13_), Pc.lib (Φ7), Sx.blk b1 [.int .i64 (leave)] 3] ++ R) w) 4 #[true, true, true, true, true, true, true, true, true, true, true, true, true, true, true, true, false, false, false, false] [(6, .pointer (some ⟨b2, 0, none⟩)), (7, .pointer (some ⟨g4, 0, none⟩)), (8, .string (Pc.catB D5)), (10, .pointer (some ⟨b10, 0, none⟩)), (11, .pointer (some ⟨b11, 0, none⟩)), (54, .bool true), (55, .string (Pc.catB xs)), (56, .string (Pc.catB D5)), (58, .int .i64 (((Pc.catB xs).size : Int)))] ?_ (fun nd25 => ?_)
        ·
         clear h
         intro w h
         refine Sx.wy_one 16 rfl (by kernel_rfl) ?_
         ·
          refine wl_v rfl rfl (ov_slices _ 0 ((Pc.catB xs).size) (by rfl) (by exact rfl) (by exact ⟨_, _, rfl, rfl⟩) Try.underlying9 (by omega) (by omega)) ?_
          refine wl_nil ?_
          refine qn_wyl (by kernel_rfl) ?_ (nd24 _ h)
          exact ⟨rfl, rfl, rfl, rfl, rfl, rfl, rfl, rfl, trivial⟩
        refine Sx.wy_haveS (fun w => Sx.St w0 F0 ([Sx.obj D_ (.deferred (some [])), Sx.blk b2 [.bool false] 4, Sx.blk b10 [.int .i64 ((xs.length : Int))] 3, Sx.blk b11 [.string (Pc.catB xs)] 9, Sx.blk gb12 [.pointer (some ⟨g4, 0, none⟩)] 23, Sx.blk g4 [.string (s13_), .slice (A13_) (L13_.length) (c13_), .pointer (Pc.AT.ptr T13_)] 68, Pc.rowl (Φ7) 5 (A13_) (c13_) (L13_), Pc.lib (Φ7), Sx.blk b1 [.int .i64 (leave)] 3] ++ R) w) 4 #[true, true, true, true, true, true, true, true, true, true, true, true, false, true, true, true, true, false, false, false] [(6, .pointer (some ⟨b2, 0, none⟩)), (7, .pointer (some ⟨g4, 0, none⟩)), (8, .string (Pc.catB D5)), (10, .pointer (some ⟨b10, 0, none⟩)), (11, .pointer (some ⟨b11, 0, none⟩)), (54, .bool true), (59, .string ((Pc.catB D5).extract 0 ((Pc.catB xs).size)))] ?_ (fun nd26 => ?_)
        ·
         clear h
         intro w h
         refine Sx.wy_one 12 rfl (by kernel_rfl) ?_
         ·
          refine wl_v rfl rfl (ov_loadb 3 _ h rfl rfl sh9 rfl) ?_
          refine wl_nil ?_
          refine qn_wyl (by kernel_rfl) ?_ (nd24 _ h)
          exact ⟨rfl, rfl, rfl, rfl, rfl, rfl, rfl, rfl, trivial⟩
        refine Sx.wy_haveS (fun w => Sx.St w0 F0 ([Sx.obj D_ (.deferred (some [])), Sx.blk b2 [.bool false] 4, Sx.blk b10 [.int .i64 ((xs.length : Int))] 3, Sx.blk b11 [.string (Pc.catB xs)] 9, Sx.blk gb12 [.pointer (some ⟨g4, 0, none⟩)] 23, Sx.blk g4 [.string (s13_), .slice (A13_) (L13_.length) (c13_), .pointer (Pc.AT.ptr T13_)] 68, Pc.rowl (Φ7) 5 (A13_) (c13_) (L13_), Pc.lib (Φ7), Sx.blk b1 [.int .i64 (leave)] 3] ++ R) w) 5 #[true, true, true, true, true, true, true, true, true, true, true, true, true, true, true, false, false, false, false, false] [(6, .pointer (some ⟨b2, 0, none⟩)), (7, .pointer (some ⟨g4, 0, none⟩)), (8, .string (Pc.catB D5)), (10, .pointer (some ⟨b10, 0, none⟩)), (11, .pointer (some ⟨b11, 0, none⟩)), (54, .bool true), (55, .string (Pc.catB xs)), (56, .string (Pc.catB D5)), (57, .string (Pc.catB xs))] ?_ (fun nd27 => ?_)
        ·
         clear h
         intro w h
         refine Sx.wy_one 15 rfl (by kernel_rfl) ?_
         ·
          refine wl_v rfl rfl (ov_lens _ rfl Try.underlying9) ?_
          refine wl_nil ?_
          refine qn_wyl (by kernel_rfl) ?_ (nd25 _ h)
          exact ⟨rfl, rfl, rfl, rfl, rfl, rfl, rfl, rfl, rfl, trivial⟩
        refine Sx.wy_haveS (fun w => Sx.St w0 F0 ([Sx.obj D_ (.deferred (some [])), Sx.blk b2 [.bool false] 4, Sx.blk b10 [.int .i64 ((xs.length : Int))] 3, Sx.blk b11 [.string (Pc.catB xs)] 9, Sx.blk gb12 [.pointer (some ⟨g4, 0, none⟩)] 23, Sx.blk g4 [.string (s13_), .slice (A13_) (L13_.length) (c13_), .pointer (Pc.AT.ptr T13_)] 68, Pc.rowl (Φ7) 5 (A13_) (c13_) (L13_), Pc.lib (Φ7), Sx.blk b1 [.int .i64 (leave)] 3] ++ R) w) 5 #[true, true, true, true, true, true, true, true, true, true, true, true, true, false, true, true, false, false, false, false] [(6, .pointer (some ⟨b2, 0, none⟩)), (7, .pointer (some ⟨g4, 0, none⟩)), (8, .string (Pc.catB D5)), (10, .pointer (some ⟨b10, 0, none⟩)), (11, .pointer (some ⟨b11, 0, none⟩)), (54, .bool true), (55, .string (Pc.catB xs)), (58, .int .i64 (((Pc.catB xs).size : Int)))] ?_ (fun nd28 => ?_)
        ·
         clear h
         intro w h
         refine Sx.wy_one 13 rfl (by kernel_rfl) ?_
         ·
          refine wl_v rfl rfl (ov_move _ rfl) ?_
          refine wl_nil ?_
          refine qn_wyl (by kernel_rfl) ?_ (nd25 _ h)
          exact ⟨rfl, rfl, rfl, rfl, rfl, rfl, rfl, rfl, rfl, trivial⟩
        refine Sx.wy_haveS (fun w => Sx.St w0 F0 ([Sx.obj D_ (.deferred (some [])), Sx.blk b2 [.bool false] 4, Sx.blk b10 [.int .i64 ((xs.length : Int))] 3, Sx.blk b11 [.string (Pc.catB xs)] 9, Sx.blk gb12 [.pointer (some ⟨g4, 0, none⟩)] 23, Sx.blk g4 [.string (s13_), .slice (A13_) (L13_.length) (c13_), .pointer (Pc.AT.ptr T13_)] 68, Pc.rowl (Φ7) 5 (A13_) (c13_) (L13_), Pc.lib (Φ7), Sx.blk b1 [.int .i64 (leave)] 3] ++ R) w) 5 #[true, true, true, true, true, true, true, true, true, true, true, true, false, true, true, true, false, false, false, false] [(6, .pointer (some ⟨b2, 0, none⟩)), (7, .pointer (some ⟨g4, 0, none⟩)), (8, .string (Pc.catB D5)), (10, .pointer (some ⟨b10, 0, none⟩)), (11, .pointer (some ⟨b11, 0, none⟩)), (54, .bool true), (56, .string (Pc.catB D5)), (58, .int .i64 (((Pc.catB xs).size : Int)))] ?_ (fun nd29 => ?_)
        ·
         clear h
         intro w h
         refine Sx.wy_two 12 16 rfl rfl (by kernel_rfl) ?_ ?_
         ·
          refine wl_v rfl rfl (ov_loadb 3 _ h rfl rfl sh9 rfl) ?_
          refine wl_nil ?_
          refine qn_wyl (by kernel_rfl) ?_ (nd25 _ h)
          exact ⟨rfl, rfl, rfl, rfl, rfl, rfl, rfl, rfl, rfl, trivial⟩
         ·
          refine wl_v rfl rfl (ov_slices _ 0 ((Pc.catB xs).size) (by rfl) (by exact rfl) (by exact ⟨_, _, rfl, rfl⟩) Try.underlying9 (by omega) (by omega)) ?_
          refine wl_nil ?_
          refine qn_wyl (by kernel_rfl) ?_ (nd26 _ h)
          exact ⟨rfl, rfl, rfl, rfl, rfl, rfl, rfl, trivial⟩
        refine Sx.wy_haveS (fun w => Sx.St w0 F0 ([Sx.obj D_ (.deferred (some [])), Sx.blk b2 [.bool false] 4, Sx.blk b10 [.int .i64 ((xs.length : Int))] 3, Sx.blk b11 [.string (Pc.catB xs)] 9, Sx.blk gb12 [.pointer (some ⟨g4, 0, none⟩)] 23, Sx.blk g4 [.string (s13_), .slice (A13_) (L13_.length) (c13_), .pointer (Pc.AT.ptr T13_)] 68, Pc.rowl (Φ7) 5 (A13_) (c13_) (L13_), Pc.lib (Φ7), Sx.blk b1 [.int .i64 (leave)] 3] ++ R) w) 6 #[true, true, true, true, true, true, true, true, true, true, true, true, true, true, false, false, false, false, false, false] [(6, .pointer (some ⟨b2, 0, none⟩)), (7, .pointer (some ⟨g4, 0, none⟩)), (8, .string (Pc.catB D5)), (10, .pointer (some ⟨b10, 0, none⟩)), (11, .pointer (some ⟨b11, 0, none⟩)), (54, .bool true), (55, .string (Pc.catB xs)), (56, .string (Pc.catB D5))] ?_ (fun nd30 => ?_)
        ·
         clear h
         intro w h
         refine Sx.wy_one 14 rfl (by kernel_rfl) ?_
         ·
          refine wl_v rfl rfl (ov_loadb 3 _ h rfl rfl sh9 rfl) ?_
          refine wl_nil ?_
          refine qn_wyl (by kernel_rfl) ?_ (nd27 _ h)
          exact ⟨rfl, rfl, rfl, rfl, rfl, rfl, rfl, rfl, rfl, trivial⟩
        refine Sx.wy_haveS (fun w => Sx.St w0 F0 ([Sx.obj D_ (.deferred (some [])), Sx.blk b2 [.bool false] 4, Sx.blk b10 [.int .i64 ((xs.length : Int))] 3, Sx.blk b11 [.string (Pc.catB xs)] 9, Sx.blk gb12 [.pointer (some ⟨g4, 0, none⟩)] 23, Sx.blk g4 [.string (s13_), .slice (A13_) (L13_.length) (c13_), .pointer (Pc.AT.ptr T13_)] 68, Pc.rowl (Φ7) 5 (A13_) (c13_) (L13_), Pc.lib (Φ7), Sx.blk b1 [.int .i64 (leave)] 3] ++ R) w) 6 #[true, true, true, true, true, true, true, true, true, true, true, true, true, false, true, false, false, false, false, false] [(6, .pointer (some ⟨b2, 0, none⟩)), (7, .pointer (some ⟨g4, 0, none⟩)), (8, .string (Pc.catB D5)), (10, .pointer (some ⟨b10, 0, none⟩)), (11, .pointer (some ⟨b11, 0, none⟩)), (54, .bool true), (55, .string (Pc.catB xs)), (57, .string (Pc.catB xs))] ?_ (fun nd31 => ?_)
        ·
         clear h
         intro w h
         refine Sx.wy_two 13 15 rfl rfl (by kernel_rfl) ?_ ?_
         ·
          refine wl_v rfl rfl (ov_move _ rfl) ?_
          refine wl_nil ?_
          refine qn_wyl (by kernel_rfl) ?_ (nd27 _ h)
          exact ⟨rfl, rfl, rfl, rfl, rfl, rfl, rfl, rfl, rfl, trivial⟩
         ·
          refine wl_v rfl rfl (ov_lens _ rfl Try.underlying9) ?_
          refine wl_nil ?_
          refine qn_wyl (by kernel_rfl) ?_ (nd28 _ h)
          exact ⟨rfl, rfl, rfl, rfl, rfl, rfl, rfl, rfl, trivial⟩
        refine Sx.wy_haveS (fun w => Sx.St w0 F0 ([Sx.obj D_ (.deferred (some [])), Sx.blk b2 [.bool false] 4, Sx.blk b10 [.int .i64 ((xs.length : Int))] 3, Sx.blk b11 [.string (Pc.catB xs)] 9, Sx.blk gb12 [.pointer (some ⟨g4, 0, none⟩)] 23, Sx.blk g4 [.string (s13_), .slice (A13_) (L13_.length) (c13_), .pointer (Pc.AT.ptr T13_)] 68, Pc.rowl (Φ7) 5 (A13_) (c13_) (L13_), Pc.lib (Φ7), Sx.blk b1 [.int .i64 (leave)] 3] ++ R) w) 6 #[true, true, true, true, true, true, true, true, true, true, true, true, false, true, true, false, false, false, false, false] [(6, .pointer (some ⟨b2, 0, none⟩)), (7, .pointer (some ⟨g4, 0, none⟩)), (8, .string (Pc.catB D5)), (10, .pointer (some ⟨b10, 0, none⟩)), (11, .pointer (some ⟨b11, 0, none⟩)), (54, .bool true), (56, .string (Pc.catB D5)), (57, .string (Pc.catB xs))] ?_ (fun nd32 => ?_)
        ·
         clear h
         intro w h
         refine Sx.wy_two 12 15 rfl rfl (by kernel_rfl) ?_ ?_
         ·
          refine wl_v rfl rfl (ov_loadb 3 _ h rfl rfl sh9 rfl) ?_
          refine wl_nil ?_
          refine qn_wyl (by kernel_rfl) ?_ (nd27 _ h)
          exact ⟨rfl, rfl, rfl, rfl, rfl, rfl, rfl, rfl, rfl, trivial⟩
         ·
          refine wl_v rfl rfl (ov_lens _ rfl Try.underlying9) ?_
          refine wl_nil ?_
          refine qn_wyl (by kernel_rfl) ?_ (nd29 _ h)
          exact ⟨rfl, rfl, rfl, rfl, rfl, rfl, rfl, rfl, trivial⟩
        refine Sx.wy_haveS (fun w => Sx.St w0 F0 ([Sx.obj D_ (.deferred (some [])), Sx.blk b2 [.bool false] 4, Sx.blk b10 [.int .i64 ((xs.length : Int))] 3, Sx.blk b11 [.string (Pc.catB xs)] 9, Sx.blk gb12 [.pointer (some ⟨g4, 0, none⟩)] 23, Sx.blk g4 [.string (s13_), .slice (A13_) (L13_.length) (c13_), .pointer (Pc.AT.ptr T13_)] 68, Pc.rowl (Φ7) 5 (A13_) (c13_) (L13_), Pc.lib (Φ7), Sx.blk b1 [.int .i64 (leave)] 3] ++ R) w) 6 #[true, true, true, true, true, true, true, true, true, true, true, true, false, false, true, true, false, false, false, false] [(6, .pointer (some ⟨b2, 0, none⟩)), (7, .pointer (some ⟨g4, 0, none⟩)), (8, .string (Pc.catB D5)), (10, .pointer (some ⟨b10, 0, none⟩)), (11, .pointer (some ⟨b11, 0, none⟩)), (54, .bool true), (58, .int .i64 (((Pc.catB xs).size : Int)))] ?_ (fun nd33 => ?_)
        ·
         clear h
         intro w h
         refine Sx.wy_two 12 13 rfl rfl (by kernel_rfl) ?_ ?_
         ·
          refine wl_v rfl rfl (ov_loadb 3 _ h rfl rfl sh9 rfl) ?_
          refine wl_nil ?_
          refine qn_wyl (by kernel_rfl) ?_ (nd28 _ h)
          exact ⟨rfl, rfl, rfl, rfl, rfl, rfl, rfl, rfl, trivial⟩
         ·
          refine wl_v rfl rfl (ov_move _ rfl) ?_
          refine wl_nil ?_
          refine qn_wyl (by kernel_rfl) ?_ (nd29 _ h)
          exact ⟨rfl, rfl, rfl, rfl, rfl, rfl, rfl, rfl, trivial⟩
        refine Sx.wy_haveS (fun w => Sx.St w0 F0 ([Sx.obj D_ (.deferred (some [])), Sx.blk b2 [.bool false] 4, Sx.blk b10 [.int .i64 ((xs.length : Int))] 3, Sx.blk b11 [.string (Pc.catB xs)] 9, Sx.blk gb12 [.pointer (some ⟨g4, 0, none⟩)] 23, Sx.blk g4 [.string (s13_), .slice (A13_) (L13_.length) (c13_), .pointer (Pc.AT.ptr T13_)] 68, Pc.rowl (Φ7) 5 (A13_) (c13_) (L13_), Pc.lib (Φ7), Sx.blk b1 [.int .i64 (leave)] 3] ++ R) w) 7 #[true, true, true, true, true, true, true, true, true, true, true, true, true, false, false, false, false, false, false, false] [(6, .pointer (some ⟨b2, 0, none⟩)), (7, .pointer (some ⟨g4, 0, none⟩)), (8, .string (Pc.catB D5)), (10, .pointer (some ⟨b10, 0, none⟩)), (11, .pointer (some ⟨b11, 0, none⟩)), (54, .bool true), (55, .string (Pc.catB xs))] ?_ (fun nd34 => ?_)
        ·
         clear h
         intro w h
         refine Sx.wy_two 13 14 rfl rfl (by kernel_rfl) ?_ ?_
         ·
          refine wl_v rfl rfl (ov_move _ rfl) ?_
          refine wl_nil ?_
          refine qn_wyl (by kernel_rfl) ?_ (nd30 _ h)
          exact ⟨rfl, rfl, rfl, rfl, rfl, rfl, rfl, rfl, trivial⟩
         ·
          refine wl_v rfl rfl (ov_loadb 3 _ h rfl rfl sh9 rfl) ?_
          refine wl_nil ?_
          refine qn_wyl (by kernel_rfl) ?_ (nd31 _ h)
          exact ⟨rfl, rfl, rfl, rfl, rfl, rfl, rfl, rfl, trivial⟩
        refine Sx.wy_haveS (fun w => Sx.St w0 F0 ([Sx.obj D_ (.deferred (some [])), Sx.blk b2 [.bool false] 4, Sx.blk b10 [.int .i64 ((xs.length : Int))] 3, Sx.blk b11 [.string (Pc.catB xs)] 9, Sx.blk gb12 [.pointer (some ⟨g4, 0, none⟩)] 23, Sx.blk g4 [.string (s13_), .slice (A13_) (L13_.length) (c13_), .pointer (Pc.AT.ptr T13_)] 68, Pc.rowl (Φ7) 5 (A13_) (c13_) (L13_), Pc.lib (Φ7), Sx.blk b1 [.int .i64 (leave)] 3] ++ R) w) 7 #[true, true, true, true, true, true, true, true, true, true, true, true, false, true, false, false, false, false, false, false] [(6, .pointer (some ⟨b2, 0, none⟩)), (7, .pointer (some ⟨g4, 0, none⟩)), (8, .string (Pc.catB D5)), (10, .pointer (some ⟨b10, 0, none⟩)), (11, .pointer (some ⟨b11, 0, none⟩)), (54, .bool true), (56, .string (Pc.catB D5))] ?_ (fun nd35 => ?_)
        ·
         clear h
         intro w h
         refine Sx.wy_two 12 14 rfl rfl (by kernel_rfl) ?_ ?_
         ·
          refine wl_v rfl rfl (ov_loadb 3 _ h rfl rfl sh9 rfl) ?_
          refine wl_nil ?_
          refine qn_wyl (by kernel_rfl) ?_ (nd30 _ h)
          exact ⟨rfl, rfl, rfl, rfl, rfl, rfl, rfl, rfl, trivial⟩
         ·
          refine wl_v rfl rfl (ov_loadb 3 _ h rfl rfl sh9 rfl) ?_
          refine wl_nil ?_
          refine qn_wyl (by kernel_rfl) ?_ (nd32 _ h)
          exact ⟨rfl, rfl, rfl, rfl, rfl, rfl, rfl, rfl, trivial⟩
        refine Sx.wy_haveS (fun w => Sx.St w0 F0 ([Sx.obj D_ (.deferred (some [])), Sx.blk b2 [.bool false] 4, Sx.blk b10 [.int .i64 ((xs.length : Int))] 3, Sx.blk b11 [.string (Pc.catB xs)] 9, Sx.blk gb12 [.pointer (some ⟨g4, 0, none⟩)] 23, Sx.blk g4 [.string (s13_), .slice (A13_) (L13_.length) (c13_), .pointer (Pc.AT.ptr T13_)] 68, Pc.rowl (Φ7) 5 (A13_) (c13_) (L13_), Pc.lib (Φ7), Sx.blk b1 [.int .i64 (leave)] 3] ++ R) w) 7 #[true, true, true, true, true, true, true, true, true, true, true, true, false, false, true, false, false, false, false, false] [(6, .pointer (some ⟨b2, 0, none⟩)), (7, .pointer (some ⟨g4, 0, none⟩)), (8, .string (Pc.catB D5)), (10, .pointer (some ⟨b10, 0, none⟩)), (11, .pointer (some ⟨b11, 0, none⟩)), (54, .bool true), (57, .string (Pc.catB xs))] ?_ (fun nd36 => ?_)
        ·
         clear h
         intro w h
         refine Sx.wy_three 12 13 15 rfl rfl rfl (by kernel_rfl) ?_ ?_ ?_
         ·
          refine wl_v rfl rfl (ov_loadb 3 _ h rfl rfl sh9 rfl) ?_
          refine wl_nil ?_
          refine qn_wyl (by kernel_rfl) ?_ (nd31 _ h)
          exact ⟨rfl, rfl, rfl, rfl, rfl, rfl, rfl, rfl, trivial⟩
         ·
          refine wl_v rfl rfl (ov_move _ rfl) ?_
          refine wl_nil ?_
          refine qn_wyl (by kernel_rfl) ?_ (nd32 _ h)
          exact ⟨rfl, rfl, rfl, rfl, rfl, rfl, rfl, rfl, trivial⟩
         ·
          refine wl_v rfl rfl (ov_lens _ rfl Try.underlying9) ?_
          refine wl_nil ?_
          refine qn_wyl (by kernel_rfl) ?_ (nd33 _ h)
          exact ⟨rfl, rfl, rfl, rfl, rfl, rfl, rfl, trivial⟩
        refine Sx.wy_three 12 13 14 rfl rfl rfl (by kernel_rfl) ?_ ?_ ?_
        ·
         refine wl_v rfl rfl (ov_loadb 3 _ h rfl rfl sh9 rfl) ?_
         refine wl_nil ?_
         refine qn_wyl (by kernel_rfl) ?_ (nd34 _ h)
         exact ⟨rfl, rfl, rfl, rfl, rfl, rfl, rfl, trivial⟩
        ·
         refine wl_v rfl rfl (ov_move _ rfl) ?_
         refine wl_nil ?_
         refine qn_wyl (by kernel_rfl) ?_ (nd35 _ h)
         exact ⟨rfl, rfl, rfl, rfl, rfl, rfl, rfl, trivial⟩
        ·
         refine wl_v rfl rfl (ov_loadb 3 _ h rfl rfl sh9 rfl) ?_
         refine wl_nil ?_
         refine qn_wyl (by kernel_rfl) ?_ (nd36 _ h)
         exact ⟨rfl, rfl, rfl, rfl, rfl, rfl, rfl, trivial⟩
       ·
        refine Sx.wy_sub (f2 := [(6, .pointer (some ⟨b2, 0, none⟩)), (7, .pointer (some ⟨g4, 0, none⟩)), (8, .string (Pc.catB D5)), (10, .pointer (some ⟨b10, 0, none⟩)), (11, .pointer (some ⟨b11, 0, none⟩)), (54, .bool false)]) ⟨rfl, rfl, rfl, rfl, rfl, rfl, trivial⟩ ?_
        refine Sx.wy_haveS (fun w => Sx.St w0 F0 ([Sx.obj D_ (.deferred (some [])), Sx.blk b2 [.bool false] 4, Sx.blk b10 [.int .i64 ((xs.length : Int))] 3, Sx.blk b11 [.string (Pc.catB xs)] 9, Sx.blk gb12 [.pointer (some ⟨g4, 0, none⟩)] 23, Sx.blk g4 [.string (s13_), .slice (A13_) (L13_.length) (c13_), .pointer (Pc.AT.ptr T13_)] 68, Pc.rowl (Φ7) 5 (A13_) (c13_) (L13_), Pc.lib (Φ7), Sx.blk b1 [.int .i64 (leave)] 3] ++ R) w) 0 #[true, true, true, true, true, true, true, true, true, true, true, true, true, true, true, true, true, true, true, true] [(6, .pointer (some ⟨b2, 0, none⟩)), (7, .pointer (some ⟨g4, 0, none⟩)), (8, .string (Pc.catB D5)), (10, .pointer (some ⟨b10, 0, none⟩)), (11, .pointer (some ⟨b11, 0, none⟩))] ?_ (fun nd37 => ?_)
        ·
         clear h
         intro w h
         refine Sx.wy_done (by kernel_rfl) ?_
         refine Sx.qi_then ?_
         refine Sx.ci_ret ?_
         refine qn_then_ret ?_
         have hD_ := st_obj (i := 0) h rfl
         replace h := st_putobj (.deferred none) h
         replace h : Sx.St w0 F0 ([Sx.obj D_ (.deferred none), Sx.blk b2 [.bool false] 4, Sx.blk b10 [.int .i64 ((xs.length : Int))] 3, Sx.blk b11 [.string (Pc.catB xs)] 9, Sx.blk gb12 [.pointer (some ⟨g4, 0, none⟩)] 23, Sx.blk g4 [.string (s13_), .slice (A13_) (L13_.length) (c13_), .pointer (Pc.AT.ptr T13_)] 68, Pc.rowl (Φ7) 5 (A13_) (c13_) (L13_), Pc.lib (Φ7), Sx.blk b1 [.int .i64 (leave)] 3] ++ R) _ := h
         have hend_ := h
         replace h := st_selT [false, false, false, false, false, false, false, false, false] h
         refine qn_retD [_] hD_ ⟨⟨_, rfl, Sx.loadVar1 sh4 (by rw [Sx.blk_cell hend_ (i := 1) rfl]; rfl)⟩, trivial⟩ ?_
         have hCD_ : Pc.catB D5 = Pc.catB (Pc.chs s13_ L13_ (Pc.AT.fl T13_)) := by rw [ok13_.eD]
         have hDl_ : D5.length = (Pc.chs s13_ L13_ (Pc.AT.fl T13_)).length := by rw [ok13_.eD]
         have hfl_ := Pc.tok_len ok13_
         have hx1_ : Pc.catB xs = Pc.catB D5 := by rw [hS, hCD_]
         have hx2_ : xs.length = D5.length := by rw [hS, hDl_]
         exfalso
         first | omega | contradiction | (simp_all; done) | (simp_all; omega)
        refine Sx.wy_haveS (fun w => Sx.St w0 F0 ([Sx.obj D_ (.deferred (some [])), Sx.blk b2 [.bool false] 4, Sx.blk b10 [.int .i64 ((xs.length : Int))] 3, Sx.blk b11 [.string (Pc.catB xs)] 9, Sx.blk gb12 [.pointer (some ⟨g4, 0, none⟩)] 23, Sx.blk g4 [.string (s13_), .slice (A13_) (L13_.length) (c13_), .pointer (Pc.AT.ptr T13_)] 68, Pc.rowl (Φ7) 5 (A13_) (c13_) (L13_), Pc.lib (Φ7), Sx.blk b1 [.int .i64 (leave)] 3] ++ R) w) 1 #[true, true, true, true, true, true, true, true, true, true, true, true, true, true, true, true, true, true, true, false] [(6, .pointer (some ⟨b2, 0, none⟩)), (7, .pointer (some ⟨g4, 0, none⟩)), (8, .string (Pc.catB D5)), (10, .pointer (some ⟨b10, 0, none⟩)), (11, .pointer (some ⟨b11, 0, none⟩)), (61, .bool false)] ?_ (fun nd38 => ?_)
        ·
         clear h
         intro w h
         refine Sx.wy_one 19 rfl (by kernel_rfl) ?_
         ·
          refine wl_storeb 1 _ [.bool false] h rfl rfl rfl rfl rfl rfl sh4 rfl rfl (fun _ h => ?_)
          refine wl_nil ?_
          refine qn_wyl (by kernel_rfl) ?_ (nd37 _ h)
          exact ⟨rfl, rfl, rfl, rfl, rfl, trivial⟩
        refine Sx.wy_haveS (fun w => Sx.St w0 F0 ([Sx.obj D_ (.deferred (some [])), Sx.blk b2 [.bool false] 4, Sx.blk b10 [.int .i64 ((xs.length : Int))] 3, Sx.blk b11 [.string (Pc.catB xs)] 9, Sx.blk gb12 [.pointer (some ⟨g4, 0, none⟩)] 23, Sx.blk g4 [.string (s13_), .slice (A13_) (L13_.length) (c13_), .pointer (Pc.AT.ptr T13_)] 68, Pc.rowl (Φ7) 5 (A13_) (c13_) (L13_), Pc.lib (Φ7), Sx.blk b1 [.int .i64 (leave)] 3] ++ R) w) 2 #[true, true, true, true, true, true, true, true, true, true, true, true, true, true, true, true, true, true, false, false] [(6, .pointer (some ⟨b2, 0, none⟩)), (7, .pointer (some ⟨g4, 0, none⟩)), (8, .string (Pc.catB D5)), (10, .pointer (some ⟨b10, 0, none⟩)), (11, .pointer (some ⟨b11, 0, none⟩)), (54, .bool false), (60, undef)] ?_ (fun nd39 => ?_)
        ·
         clear h
         intro w h
         refine Sx.wy_one 18 rfl (by kernel_rfl) ?_
         ·
          refine wl_v rfl rfl (ov_pick_false _ rfl rfl) ?_
          refine wl_nil ?_
          refine qn_wyl (by kernel_rfl) ?_ (nd38 _ h)
          exact ⟨rfl, rfl, rfl, rfl, rfl, rfl, trivial⟩
        refine Sx.wy_haveS (fun w => Sx.St w0 F0 ([Sx.obj D_ (.deferred (some [])), Sx.blk b2 [.bool false] 4, Sx.blk b10 [.int .i64 ((xs.length : Int))] 3, Sx.blk b11 [.string (Pc.catB xs)] 9, Sx.blk gb12 [.pointer (some ⟨g4, 0, none⟩)] 23, Sx.blk g4 [.string (s13_), .slice (A13_) (L13_.length) (c13_), .pointer (Pc.AT.ptr T13_)] 68, Pc.rowl (Φ7) 5 (A13_) (c13_) (L13_), Pc.lib (Φ7), Sx.blk b1 [.int .i64 (leave)] 3] ++ R) w) 3 #[true, true, true, true, true, true, true, true, true, true, true, true, true, true, true, true, true, false, false, false] [(6, .pointer (some ⟨b2, 0, none⟩)), (7, .pointer (some ⟨g4, 0, none⟩)), (8, .string (Pc.catB D5)), (10, .pointer (some ⟨b10, 0, none⟩)), (11, .pointer (some ⟨b11, 0, none⟩)), (54, .bool false), (55, undef), (59, undef)] ?_ (fun nd40 => ?_)
        ·
         clear h
         intro w h
         refine Sx.wy_one 17 rfl (by kernel_rfl) ?_
         ·
          refine wl_skip rfl rfl ?_
          refine wl_nil ?_
          refine qn_wyl (by kernel_rfl) ?_ (nd39 _ h)
          exact ⟨rfl, rfl, rfl, rfl, rfl, rfl, rfl, trivial⟩
        refine Sx.wy_haveS (fun w => Sx.St w0 F0 ([Sx.obj D_ (.deferred (some [])), Sx.blk b2 [.bool false] 4, Sx.blk b10 [.int .i64 ((xs.length : Int))] 3, Sx.blk b11 [.string (Pc.catB xs)] 9, Sx.blk gb12 [.pointer (some ⟨g4, 0, none⟩)] 23, Sx.blk g4 [.string (s13_), .slice (A13_) (L13_.length) (c13_), .pointer (Pc.AT.ptr T13_)] 68, Pc.rowl (Φ7) 5 (A13_) (c13_) (L13_), Pc.lib (Φ7), Sx.blk b1 [.int .i64 (leave)] 3] ++ R) w) 4 #[true, true, true, true, true, true, true, true, true, true, true, true, true, true, true, true, false, false, false, false] [(6, .pointer (some ⟨b2, 0, none⟩)), (7, .pointer (some ⟨g4, 0, none⟩)), (8, .string (Pc.catB D5)), (10, .pointer (some ⟨b10, 0, none⟩)), (11, .pointer (some ⟨b11, 0, none⟩)), (54, .bool false), (55, undef), (56, undef), (58, undef)] ?_ (fun nd41 => ?_)
        ·
         clear h
         intro w h
         refine Sx.wy_one 16 rfl (by kernel_rfl) ?_
         ·
          refine wl_skip rfl rfl ?_
          refine wl_nil ?_
          refine qn_wyl (by kernel_rfl) ?_ (nd40 _ h)
          exact ⟨rfl, rfl, rfl, rfl, rfl, rfl, rfl, rfl, trivial⟩
        refine Sx.wy_haveS (fun w => Sx.St w0 F0 ([Sx.obj D_ (.deferred (some [])), Sx.blk b2 [.bool false] 4, Sx.blk b10 [.int .i64 ((xs.length : Int))] 3, Sx.blk b11 [.string (Pc.catB xs)] 9, Sx.blk gb12 [.pointer (some ⟨g4, 0, none⟩)] 23, Sx.blk g4 [.string (s13_), .slice (A13_) (L13_.length) (c13_), .pointer (Pc.AT.ptr T13_)] 68, Pc.rowl (Φ7) 5 (A13_) (c13_) (L13_), Pc.lib (Φ7), Sx.blk b1 [.int .i64 (leave)] 3] ++ R) w) 4 #[true, true, true, true, true, true, true, true, true, true, true, true, false, true, true, true, true, false, false, false] [(6, .pointer (some ⟨b2, 0, none⟩)), (7, .pointer (some ⟨g4, 0, none⟩)), (8, .string (Pc.catB D5)), (10, .pointer (some ⟨b10, 0, none⟩)), (11, .pointer (some ⟨b11, 0, none⟩)), (54, .bool false), (59, undef)] ?_ (fun nd42 => ?_)
        ·
         clear h
         intro w h
         refine Sx.wy_one 12 rfl (by kernel_rfl) ?_
         ·
          refine wl_skip rfl rfl ?_
          refine wl_nil ?_
          refine qn_wyl (by kernel_rfl) ?_ (nd40 _ h)
          exact ⟨rfl, rfl, rfl, rfl, rfl, rfl, rfl, rfl, trivial⟩
        refine Sx.wy_haveS (fun w => Sx.St w0 F0 ([Sx.obj D_ (.deferred (some [])), Sx.blk b2 [.bool false] 4, Sx.blk b10 [.int .i64 ((xs.length : Int))] 3, Sx.blk b11 [.string (Pc.catB xs)] 9, Sx.blk gb12 [.pointer (some ⟨g4, 0, none⟩)] 23, Sx.blk g4 [.string (s13_), .slice (A13_) (L13_.length) (c13_), .pointer (Pc.AT.ptr T13_)] 68, Pc.rowl (Φ7) 5 (A13_) (c13_) (L13_), Pc.lib (Φ7), Sx.blk b1 [.int .i64 (leave)] 3] ++ R) w) 5 #[true, true, true, true, true, true, true, true, true, true, true, true, true, true, true, false, false, false, false, false] [(6, .pointer (some ⟨b2, 0, none⟩)), (7, .pointer (some ⟨g4, 0, none⟩)), (8, .string (Pc.catB D5)), (10, .pointer (some ⟨b10, 0, none⟩)), (11, .pointer (some ⟨b11, 0, none⟩)), (54, .bool false), (55, undef), (56, undef), (57, undef)] ?_ (fun nd43 => ?_)
        ·
         clear h
         intro w h
         refine Sx.wy_one 15 rfl (by kernel_rfl) ?_
         ·
          refine wl_skip rfl rfl ?_
          refine wl_nil ?_
          refine qn_wyl (by kernel_rfl) ?_ (nd41 _ h)
          exact ⟨rfl, rfl, rfl, rfl, rfl, rfl, rfl, rfl, rfl, trivial⟩
        refine Sx.wy_haveS (fun w => Sx.St w0 F0 ([Sx.obj D_ (.deferred (some [])), Sx.blk b2 [.bool false] 4, Sx.blk b10 [.int .i64 ((xs.length : Int))] 3, Sx.blk b11 [.string (Pc.catB xs)] 9, Sx.blk gb12 [.pointer (some ⟨g4, 0, none⟩)] 23, Sx.blk g4 [.string (s13_), .slice (A13_) (L13_.length) (c13_), .pointer (Pc.AT.ptr T13_)] 68, Pc.rowl (Φ7) 5 (A13_) (c13_) (L13_), Pc.lib (Φ7), Sx.blk b1 [.int .i64 (leave)] 3] ++ R) w) 5 #[true, true, true, true, true, true, true, true, true, true, true, true, true, false, true, true, false, false, false, false] [(6, .pointer (some ⟨b2, 0, none⟩)), (7, .pointer (some ⟨g4, 0, none⟩)), (8, .string (Pc.catB D5)), (10, .pointer (some ⟨b10, 0, none⟩)), (11, .pointer (some ⟨b11, 0, none⟩)), (54, .bool false), (55, undef), (58, undef)] ?_ (fun nd44 => ?_)
        ·
         clear h
         intro w h
         refine Sx.wy_one 13 rfl (by kernel_rfl) ?_
         ·
          refine wl_skip rfl rfl ?_
          refine wl_nil ?_
          refine qn_wyl (by kernel_rfl) ?_ (nd41 _ h)
          exact ⟨rfl, rfl, rfl, rfl, rfl, rfl, rfl, rfl, rfl, trivial⟩
        refine Sx.wy_haveS (fun w => Sx.St w0 F0 ([Sx.obj D_ (.deferred (some [])), Sx.blk b2 [.bool false] 4, Sx.blk b10 [.int .i64 ((xs.length : Int))] 3, Sx.blk b11 [.string (Pc.catB xs)] 9, Sx.blk gb12 [.pointer (some ⟨g4, 0, none⟩)] 23, Sx.blk g4 [.string (s13_), .slice (A13_) (L13_.length) (c13_), .pointer (Pc.AT.ptr T13_)] 68, Pc.rowl (Φ7) 5 (A13_) (c13_) (L13_), Pc.lib (Φ7), Sx.blk b1 [.int .i64 (leave)] 3] ++ R) w) 5 #[true, true, true, true, true, true, true, true, true, true, true, true, false, true, true, true, false, false, false, false] [(6, .pointer (some ⟨b2, 0, none⟩)), (7, .pointer (some ⟨g4, 0, none⟩)), (8, .string (Pc.catB D5)), (10, .pointer (some ⟨b10, 0, none⟩)), (11, .pointer (some ⟨b11, 0, none⟩)), (54, .bool false), (56, undef), (58, undef)] ?_ (fun nd45 => ?_)
        ·
         clear h
         intro w h
         refine Sx.wy_two 12 16 rfl rfl (by kernel_rfl) ?_ ?_
         ·
          refine wl_skip rfl rfl ?_
          refine wl_nil ?_
          refine qn_wyl (by kernel_rfl) ?_ (nd41 _ h)
          exact ⟨rfl, rfl, rfl, rfl, rfl, rfl, rfl, rfl, rfl, trivial⟩
         ·
          refine wl_skip rfl rfl ?_
          refine wl_nil ?_
          refine qn_wyl (by kernel_rfl) ?_ (nd42 _ h)
          exact ⟨rfl, rfl, rfl, rfl, rfl, rfl, rfl, trivial⟩
        refine Sx.wy_haveS (fun w => Sx.St w0 F0 ([Sx.obj D_ (.deferred (some [])), Sx.blk b2 [.bool false] 4, Sx.blk b10 [.int .i64 ((xs.length : Int))] 3, Sx.blk b11 [.string (Pc.catB xs)] 9, Sx.blk gb12 [.pointer (some ⟨g4, 0, none⟩)] 23, Sx.blk g4 [.string (s13_), .slice (A13_) (L13_.length) (c13_), .pointer (Pc.AT.ptr T13_)] 68, Pc.rowl (Φ7) 5 (A13_) (c13_) (L13_), Pc.lib (Φ7), Sx.blk b1 [.int .i64 (leave)] 3] ++ R) w) 6 #[true, true, true, true, true, true, true, true, true, true, true, true, true, true, false, false, false, false, false, false] [(6, .pointer (some ⟨b2, 0, none⟩)), (7, .pointer (some ⟨g4, 0, none⟩)), (8, .string (Pc.catB D5)), (10, .pointer (some ⟨b10, 0, none⟩)), (11, .pointer (some ⟨b11, 0, none⟩)), (54, .bool false), (55, undef), (56, undef)] ?_ (fun nd46 => ?_)
        ·
         clear h
         intro w h
         refine Sx.wy_one 14 rfl (by kernel_rfl) ?_
         ·
          refine wl_skip rfl rfl ?_
          refine wl_nil ?_
          refine qn_wyl (by kernel_rfl) ?_ (nd43 _ h)
          exact ⟨rfl, rfl, rfl, rfl, rfl, rfl, rfl, rfl, rfl, trivial⟩
        refine Sx.wy_haveS (fun w => Sx.St w0 F0 ([Sx.obj D_ (.deferred (some [])), Sx.blk b2 [.bool false] 4, Sx.blk b10 [.int .i64 ((xs.length : Int))] 3, Sx.blk b11 [.string (Pc.catB xs)] 9, Sx.blk gb12 [.pointer (some ⟨g4, 0, none⟩)] 23, Sx.blk g4 [.string (s13_), .slice (A13_) (L13_.length) (c13_), .pointer (Pc.AT.ptr T13_)] 68, Pc.rowl (Φ7) 5 (A13_) (c13_) (L13_), Pc.lib (Φ7), Sx.blk b1 [.int .i64 (leave)] 3] ++ R) w) 6 #[true, true, true, true, true, true, true, true, true, true, true, true, true, false, true, false, false, false, false, false] [(6, .pointer (some ⟨b2, 0, none⟩)), (7, .pointer (some ⟨g4, 0, none⟩)), (8, .string (Pc.catB D5)), (10, .pointer (some ⟨b10, 0, none⟩)), (11, .pointer (some ⟨b11, 0, none⟩)), (54, .bool false), (55, undef), (57, undef)] ?_ (fun nd47 => ?_)
        ·
         clear h
         intro w h
         refine Sx.wy_two 13 15 rfl rfl (by kernel_rfl) ?_ ?_
         ·
          refine wl_skip rfl rfl ?_
          refine wl_nil ?_
          refine qn_wyl (by kernel_rfl) ?_ (nd43 _ h)
          exact ⟨rfl, rfl, rfl, rfl, rfl, rfl, rfl, rfl, rfl, trivial⟩
         ·
          refine wl_skip rfl rfl ?_
          refine wl_nil ?_
          refine qn_wyl (by kernel_rfl) ?_ (nd44 _ h)
          exact ⟨rfl, rfl, rfl, rfl, rfl, rfl, rfl, rfl, trivial⟩
        refine Sx.wy_haveS (fun w => Sx.St w0 F0 ([Sx.obj D_ (.deferred (some [])), Sx.blk b2 [.bool false] 4, Sx.blk b10 [.int .i64 ((xs.length : Int))] 3, Sx.blk b11 [.string (Pc.catB xs)] 9, Sx.blk gb12 [.pointer (some ⟨g4, 0, none⟩)] 23, Sx.blk g4 [.string (s13_), .slice (A13_) (L13_.length) (c13_), .pointer (Pc.AT.ptr T13_)] 68, Pc.rowl (Φ7) 5 (A13_) (c13_) (L13_), Pc.lib (Φ7), Sx.blk b1 [.int .i64 (leave)] 3] ++ R) w) 6 #[true, true, true, true, true, true, true, true, true, true, true, true, false, true, true, false, false, false, false, false] [(6, .pointer (some ⟨b2, 0, none⟩)), (7, .pointer (some ⟨g4, 0, none⟩)), (8, .string (Pc.catB D5)), (10, .pointer (some ⟨b10, 0, none⟩)), (11, .pointer (some ⟨b11, 0, none⟩)), (54, .bool false), (56, undef), (57, undef)] ?_ (fun nd48 => ?_)
        ·
         clear h
         intro w h
         refine Sx.wy_two 12 15 rfl rfl (by kernel_rfl) ?_ ?_
         ·
          refine wl_skip rfl rfl ?_
          refine wl_nil ?_
          refine qn_wyl (by kernel_rfl) ?_ (nd43 _ h)
          exact ⟨rfl, rfl, rfl, rfl, rfl, rfl, rfl, rfl, rfl, trivial⟩
         ·
          refine wl_skip rfl rfl ?_
          refine wl_nil ?_
          refine qn_wyl (by kernel_rfl) ?_ (nd45 _ h)
          exact ⟨rfl, rfl, rfl, rfl, rfl, rfl, rfl, rfl, trivial⟩
        refine Sx.wy_haveS (fun w => Sx.St w0 F0 ([Sx.obj D_ (.deferred (some [])), Sx.blk b2 [.bool false] 4, Sx.blk b10 [.int .i64 ((xs.length : Int))] 3, Sx.blk b11 [.string (Pc.catB xs)] 9, Sx.blk gb12 [.pointer (some ⟨g4, 0, none⟩)] 23, Sx.blk g4 [.string (s13_), .slice (A13_) (L13_.length) (c13_), .pointer (Pc.AT.ptr T13_)] 68, Pc.rowl (Φ7) 5 (A13_) (c13_) (L13_), Pc.lib (Φ7), Sx.blk b1 [.int .i64 (leave)] 3] ++ R) w) 6 #[true, true, true, true, true, true, true, true, true, true, true, true, false, false, true, true, false, false, false, false] [(6, .pointer (some ⟨b2, 0, none⟩)), (7, .pointer (some ⟨g4, 0, none⟩)), (8, .string (Pc.catB D5)), (10, .pointer (some ⟨b10, 0, none⟩)), (11, .pointer (some ⟨b11, 0, none⟩)), (54, .bool false), (58, undef)] ?_ (fun nd49 => ?_)
        ·
         clear h
         intro w h
         refine Sx.wy_two 12 13 rfl rfl (by kernel_rfl) ?_ ?_
         ·
          refine wl_skip rfl rfl ?_
          refine wl_nil ?_
          refine qn_wyl (by kernel_rfl) ?_ (nd44 _ h)
          exact ⟨rfl, rfl, rfl, rfl, rfl, rfl, rfl, rfl, trivial⟩
         ·
          refine wl_skip rfl rfl ?_
          refine wl_nil ?_
          refine qn_wyl (by kernel_rfl) ?_ (nd45 _ h)
          exact ⟨rfl, rfl, rfl, rfl, rfl, rfl, rfl, rfl, trivial⟩
        refine Sx.wy_haveS (fun w => Sx.St w0 F0 ([Sx.obj D_ (.deferred (some [])), Sx.blk b2 [.bool false] 4, Sx.blk b10 [.int .i64 ((xs.length : Int))] 3, Sx.blk b11 [.string (Pc.catB xs)] 9, Sx.blk gb12 [.pointer (some ⟨g4, 0, none⟩)] 23, Sx.blk g4 [.string (s13_), .slice (A13_) (L13_.length) (c13_), .pointer (Pc.AT.ptr T13_)] 68, Pc.rowl (Φ7) 5 (A13_) (c13_) (L13_), Pc.lib (Φ7), Sx.blk b1 [.int .i64 (leave)] 3] ++ R) w) 7 #[true, true, true, true, true, true, true, true, true, true, true, true, true, false, false, false, false, false, false, false] [(6, .pointer (some ⟨b2, 0, none⟩)), (7, .pointer (some ⟨g4, 0, none⟩)), (8, .string (Pc.catB D5)), (10, .pointer (some ⟨b10, 0, none⟩)), (11, .pointer (some ⟨b11, 0, none⟩)), (54, .bool false), (55, undef)] ?_ (fun nd50 => ?_)
        ·
         clear h
         intro w h
         refine Sx.wy_two 13 14 rfl rfl (by kernel_rfl) ?_ ?_
         ·
          refine wl_skip rfl rfl ?_
          refine wl_nil ?_
          refine qn_wyl (by kernel_rfl) ?_ (nd46 _ h)
          exact ⟨rfl, rfl, rfl, rfl, rfl, rfl, rfl, rfl, trivial⟩
         ·
          refine wl_skip rfl rfl ?_
          refine wl_nil ?_
          refine qn_wyl (by kernel_rfl) ?_ (nd47 _ h)
          exact ⟨rfl, rfl, rfl, rfl, rfl, rfl, rfl, rfl, trivial⟩
        refine Sx.wy_haveS (fun w => Sx.St w0 F0 ([Sx.obj D_ (.deferred (some [])), Sx.blk b2 [.bool false] 4, Sx.blk b10 [.int .i64 ((xs.length : Int))] 3, Sx.blk b11 [.string (Pc.catB xs)] 9, Sx.blk gb12 [.pointer (some ⟨g4, 0, none⟩)] 23, Sx.blk g4 [.string (s13_), .slice (A13_) (L13_.length) (c13_), .pointer (Pc.AT.ptr T13_)] 68, Pc.rowl (Φ7) 5 (A13_) (c13_) (L13_), Pc.lib (Φ7), Sx.blk b1 [.int .i64 (leave)] 3] ++ R) w) 7 #[true, true, true, true, true, true, true, true, true, true, true, true, false, true, false, false, false, false, false, false] [(6, .pointer (some ⟨b2, 0, none⟩)), (7, .pointer (some ⟨g4, 0, none⟩)), (8, .string (Pc.catB D5)), (10, .pointer (some ⟨b10, 0, none⟩)), (11, .pointer (some ⟨b11, 0, none⟩)), (54, .bool false), (56, undef)] ?_ (fun nd51 => ?_)
        ·
         clear h
         intro w h
         refine Sx.wy_two 12 14 rfl rfl (by kernel_rfl) ?_ ?_
         ·
          refine wl_skip rfl rfl ?_
          refine wl_nil ?_
          refine qn_wyl (by kernel_rfl) ?_ (nd46 _ h)
          exact ⟨rfl, rfl, rfl, rfl, rfl, rfl, rfl, rfl, trivial⟩
         ·
          refine wl_skip rfl rfl ?_
          refine wl_nil ?_
          refine qn_wyl (by kernel_rfl) ?_ (nd48 _ h)
          exact ⟨rfl, rfl, rfl, rfl, rfl, rfl, rfl, rfl, trivial⟩
        refine Sx.wy_haveS (fun w => Sx.St w0 F0 ([Sx.obj D_ (.deferred (some [])), Sx.blk b2 [.bool false] 4, Sx.blk b10 [.int .i64 ((xs.length : Int))] 3, Sx.blk b11 [.string (Pc.catB xs)] 9, Sx.blk gb12 [.pointer (some ⟨g4, 0, none⟩)] 23, Sx.blk g4 [.string (s13_), .slice (A13_) (L13_.length) (c13_), .pointer (Pc.AT.ptr T13_)] 68, Pc.rowl (Φ7) 5 (A13_) (c13_) (L13_), Pc.lib (Φ7), Sx.blk b1 [.int .i64 (leave)] 3] ++ R) w) 7 #[true, true, true, true, true, true, true, true, true, true, true, true, false, false, true, false, false, false, false, false] [(6, .pointer (some ⟨b2, 0, none⟩)), (7, .pointer (some ⟨g4, 0, none⟩)), (8, .string (Pc.catB D5)), (10, .pointer (some ⟨b10, 0, none⟩)), (11, .pointer (some ⟨b11, 0, none⟩)), (54, .bool false), (57, undef)] ?_ (fun nd52 => ?_)
        ·
         clear h
         intro w h
         refine Sx.wy_three 12 13 15 rfl rfl rfl (by kernel_rfl) ?_ ?_ ?_
         ·
          refine wl_skip rfl rfl ?_
          refine wl_nil ?_
          refine qn_wyl (by kernel_rfl) ?_ (nd47 _ h)
          exact ⟨rfl, rfl, rfl, rfl, rfl, rfl, rfl, rfl, trivial⟩
         ·
          refine wl_skip rfl rfl ?_
          refine wl_nil ?_
          refine qn_wyl (by kernel_rfl) ?_ (nd48 _ h)
          exact ⟨rfl, rfl, rfl, rfl, rfl, rfl, rfl, rfl, trivial⟩
         ·
          refine wl_skip rfl rfl ?_
          refine wl_nil ?_
          refine qn_wyl (by kernel_rfl) ?_ (nd49 _ h)
          exact ⟨rfl, rfl, rfl, rfl, rfl, rfl, rfl, trivial⟩
        refine Sx.wy_three 12 13 14 rfl rfl rfl (by kernel_rfl) ?_ ?_ ?_
        ·
         refine wl_skip rfl rfl ?_
         refine wl_nil ?_
         refine qn_wyl (by kernel_rfl) ?_ (nd50 _ h)
         exact ⟨rfl, rfl, rfl, rfl, rfl, rfl, rfl, trivial⟩
        ·
         refine wl_skip rfl rfl ?_
         refine wl_nil ?_
         refine qn_wyl (by kernel_rfl) ?_ (nd51 _ h)
         exact ⟨rfl, rfl, rfl, rfl, rfl, rfl, rfl, trivial⟩
        ·
         refine wl_skip rfl rfl ?_
         refine wl_nil ?_
         refine qn_wyl (by kernel_rfl) ?_ (nd52 _ h)
         exact ⟨rfl, rfl, rfl, rfl, rfl, rfl, rfl, trivial⟩
      refine Sx.wy_haveS (fun w => Sx.St w0 F0 ([Sx.obj D_ (.deferred (some [])), Sx.blk b2 [.bool false] 4, Sx.blk b10 [.int .i64 ((xs.length : Int))] 3, Sx.blk b11 [.string (Pc.catB xs)] 9, Sx.blk gb12 [.pointer (some ⟨g4, 0, none⟩)] 23, Sx.blk g4 [.string (s13_), .slice (A13_) (L13_.length) (c13_), .pointer (Pc.AT.ptr T13_)] 68, Pc.rowl (Φ7) 5 (A13_) (c13_) (L13_), Pc.lib (Φ7), Sx.blk b1 [.int .i64 (leave)] 3] ++ R) w) 9 #[true, true, true, true, true, true, true, true, true, true, true, false, false, false, false, false, false, false, false, false] [(6, .pointer (some ⟨b2, 0, none⟩)), (7, .pointer (some ⟨g4, 0, none⟩)), (8, .string (Pc.catB D5)), (10, .pointer (some ⟨b10, 0, none⟩)), (11, .pointer (some ⟨b11, 0, none⟩)), (53, .bool (decide ((((Pc.catB xs).size : Int) : Int) ≤ (((Pc.catB D5).size : Int)))))] ?_ (fun nd53 => ?_)
      ·
       clear h
       intro w h
       refine Sx.wy_one 11 rfl (by kernel_rfl) ?_
       ·
        refine wl_v rfl rfl (ov_move _ rfl) ?_
        refine wl_nil ?_
        refine qn_wyl (by kernel_rfl) ?_ (nd19 _ h)
        exact ⟨rfl, rfl, rfl, rfl, rfl, rfl, trivial⟩
      refine Sx.wy_haveS (fun w => Sx.St w0 F0 ([Sx.obj D_ (.deferred (some [])), Sx.blk b2 [.bool false] 4, Sx.blk b10 [.int .i64 ((xs.length : Int))] 3, Sx.blk b11 [.string (Pc.catB xs)] 9, Sx.blk gb12 [.pointer (some ⟨g4, 0, none⟩)] 23, Sx.blk g4 [.string (s13_), .slice (A13_) (L13_.length) (c13_), .pointer (Pc.AT.ptr T13_)] 68, Pc.rowl (Φ7) 5 (A13_) (c13_) (L13_), Pc.lib (Φ7), Sx.blk b1 [.int .i64 (leave)] 3] ++ R) w) 10 #[true, true, true, true, true, true, true, true, true, true, false, false, false, false, false, false, false, false, false, false] [(6, .pointer (some ⟨b2, 0, none⟩)), (7, .pointer (some ⟨g4, 0, none⟩)), (8, .string (Pc.catB D5)), (10, .pointer (some ⟨b10, 0, none⟩)), (11, .pointer (some ⟨b11, 0, none⟩)), (47, .bool true), (52, .bool (decide ((((Pc.catB xs).size : Int) : Int) ≤ (((Pc.catB D5).size : Int)))))] ?_ (fun nd54 => ?_)
      ·
       clear h
       intro w h
       refine Sx.wy_one 10 rfl (by kernel_rfl) ?_
       ·
        refine wl_v rfl rfl (ov_pick_true _ rfl rfl) ?_
        refine wl_nil ?_
        refine qn_wyl (by kernel_rfl) ?_ (nd53 _ h)
        exact ⟨rfl, rfl, rfl, rfl, rfl, rfl, trivial⟩
      refine Sx.wy_haveS (fun w => Sx.St w0 F0 ([Sx.obj D_ (.deferred (some [])), Sx.blk b2 [.bool false] 4, Sx.blk b10 [.int .i64 ((xs.length : Int))] 3, Sx.blk b11 [.string (Pc.catB xs)] 9, Sx.blk gb12 [.pointer (some ⟨g4, 0, none⟩)] 23, Sx.blk g4 [.string (s13_), .slice (A13_) (L13_.length) (c13_), .pointer (Pc.AT.ptr T13_)] 68, Pc.rowl (Φ7) 5 (A13_) (c13_) (L13_), Pc.lib (Φ7), Sx.blk b1 [.int .i64 (leave)] 3] ++ R) w) 11 #[true, true, true, true, true, true, true, true, true, false, false, false, false, false, false, false, false, false, false, false] [(6, .pointer (some ⟨b2, 0, none⟩)), (7, .pointer (some ⟨g4, 0, none⟩)), (8, .string (Pc.catB D5)), (10, .pointer (some ⟨b10, 0, none⟩)), (11, .pointer (some ⟨b11, 0, none⟩)), (47, .bool true), (49, .int .i64 (((Pc.catB xs).size : Int))), (51, .int .i64 (((Pc.catB D5).size : Int)))] ?_ (fun nd55 => ?_)
      ·
       clear h
       intro w h
       refine Sx.wy_one 9 rfl (by kernel_rfl) ?_
       ·
        refine wl_v rfl rfl (ov_bin _ rfl rfl (binR_leq)) ?_
        refine wl_nil ?_
        refine qn_wyl (by kernel_rfl) ?_ (nd54 _ h)
        exact ⟨rfl, rfl, rfl, rfl, rfl, rfl, rfl, trivial⟩
      refine Sx.wy_haveS (fun w => Sx.St w0 F0 ([Sx.obj D_ (.deferred (some [])), Sx.blk b2 [.bool false] 4, Sx.blk b10 [.int .i64 ((xs.length : Int))] 3, Sx.blk b11 [.string (Pc.catB xs)] 9, Sx.blk gb12 [.pointer (some ⟨g4, 0, none⟩)] 23, Sx.blk g4 [.string (s13_), .slice (A13_) (L13_.length) (c13_), .pointer (Pc.AT.ptr T13_)] 68, Pc.rowl (Φ7) 5 (A13_) (c13_) (L13_), Pc.lib (Φ7), Sx.blk b1 [.int .i64 (leave)] 3] ++ R) w) 12 #[true, true, true, true, true, true, true, true, false, false, false, false, false, false, false, false, false, false, false, false] [(6, .pointer (some ⟨b2, 0, none⟩)), (7, .pointer (some ⟨g4, 0, none⟩)), (8, .string (Pc.catB D5)), (10, .pointer (some ⟨b10, 0, none⟩)), (11, .pointer (some ⟨b11, 0, none⟩)), (47, .bool true), (49, .int .i64 (((Pc.catB xs).size : Int))), (50, .string (Pc.catB D5))] ?_ (fun nd56 => ?_)
      ·
       clear h
       intro w h
       refine Sx.wy_one 8 rfl (by kernel_rfl) ?_
       ·
        refine wl_v rfl rfl (ov_lens _ rfl Try.underlying9) ?_
        refine wl_nil ?_
        refine qn_wyl (by kernel_rfl) ?_ (nd55 _ h)
        exact ⟨rfl, rfl, rfl, rfl, rfl, rfl, rfl, rfl, trivial⟩
      refine Sx.wy_haveS (fun w => Sx.St w0 F0 ([Sx.obj D_ (.deferred (some [])), Sx.blk b2 [.bool false] 4, Sx.blk b10 [.int .i64 ((xs.length : Int))] 3, Sx.blk b11 [.string (Pc.catB xs)] 9, Sx.blk gb12 [.pointer (some ⟨g4, 0, none⟩)] 23, Sx.blk g4 [.string (s13_), .slice (A13_) (L13_.length) (c13_), .pointer (Pc.AT.ptr T13_)] 68, Pc.rowl (Φ7) 5 (A13_) (c13_) (L13_), Pc.lib (Φ7), Sx.blk b1 [.int .i64 (leave)] 3] ++ R) w) 12 #[true, true, true, true, true, true, false, true, true, false, false, false, false, false, false, false, false, false, false, false] [(6, .pointer (some ⟨b2, 0, none⟩)), (7, .pointer (some ⟨g4, 0, none⟩)), (8, .string (Pc.catB D5)), (10, .pointer (some ⟨b10, 0, none⟩)), (11, .pointer (some ⟨b11, 0, none⟩)), (47, .bool true), (48, .string (Pc.catB xs)), (51, .int .i64 (((Pc.catB D5).size : Int)))] ?_ (fun nd57 => ?_)
      ·
       clear h
       intro w h
       refine Sx.wy_one 6 rfl (by kernel_rfl) ?_
       ·
        refine wl_v rfl rfl (ov_lens _ rfl Try.underlying9) ?_
        refine wl_nil ?_
        refine qn_wyl (by kernel_rfl) ?_ (nd55 _ h)
        exact ⟨rfl, rfl, rfl, rfl, rfl, rfl, rfl, rfl, trivial⟩
      refine Sx.wy_haveS (fun w => Sx.St w0 F0 ([Sx.obj D_ (.deferred (some [])), Sx.blk b2 [.bool false] 4, Sx.blk b10 [.int .i64 ((xs.length : Int))] 3, Sx.blk b11 [.string (Pc.catB xs)] 9, Sx.blk gb12 [.pointer (some ⟨g4, 0, none⟩)] 23, Sx.blk g4 [.string (s13_), .slice (A13_) (L13_.length) (c13_), .pointer (Pc.AT.ptr T13_)] 68, Pc.rowl (Φ7) 5 (A13_) (c13_) (L13_), Pc.lib (Φ7), Sx.blk b1 [.int .i64 (leave)] 3] ++ R) w) 13 #[true, true, true, true, true, true, true, false, false, false, false, false, false, false, false, false, false, false, false, false] [(6, .pointer (some ⟨b2, 0, none⟩)), (7, .pointer (some ⟨g4, 0, none⟩)), (8, .string (Pc.catB D5)), (10, .pointer (some ⟨b10, 0, none⟩)), (11, .pointer (some ⟨b11, 0, none⟩)), (47, .bool true), (49, .int .i64 (((Pc.catB xs).size : Int)))] ?_ (fun nd58 => ?_)
      ·
       clear h
       intro w h
       refine Sx.wy_one 7 rfl (by kernel_rfl) ?_
       ·
        refine wl_v rfl rfl (ov_move _ rfl) ?_
        refine wl_nil ?_
        refine qn_wyl (by kernel_rfl) ?_ (nd56 _ h)
        exact ⟨rfl, rfl, rfl, rfl, rfl, rfl, rfl, rfl, trivial⟩
      refine Sx.wy_haveS (fun w => Sx.St w0 F0 ([Sx.obj D_ (.deferred (some [])), Sx.blk b2 [.bool false] 4, Sx.blk b10 [.int .i64 ((xs.length : Int))] 3, Sx.blk b11 [.string (Pc.catB xs)] 9, Sx.blk gb12 [.pointer (some ⟨g4, 0, none⟩)] 23, Sx.blk g4 [.string (s13_), .slice (A13_) (L13_.length) (c13_), .pointer (Pc.AT.ptr T13_)] 68, Pc.rowl (Φ7) 5 (A13_) (c13_) (L13_), Pc.lib (Φ7), Sx.blk b1 [.int .i64 (leave)] 3] ++ R) w) 13 #[true, true, true, true, true, true, false, true, false, false, false, false, false, false, false, false, false, false, false, false] [(6, .pointer (some ⟨b2, 0, none⟩)), (7, .pointer (some ⟨g4, 0, none⟩)), (8, .string (Pc.catB D5)), (10, .pointer (some ⟨b10, 0, none⟩)), (11, .pointer (some ⟨b11, 0, none⟩)), (47, .bool true), (48, .string (Pc.catB xs)), (50, .string (Pc.catB D5))] ?_ (fun nd59 => ?_)
      ·
       clear h
       intro w h
       refine Sx.wy_two 6 8 rfl rfl (by kernel_rfl) ?_ ?_
       ·
        refine wl_v rfl rfl (ov_lens _ rfl Try.underlying9) ?_
        refine wl_nil ?_
        refine qn_wyl (by kernel_rfl) ?_ (nd56 _ h)
        exact ⟨rfl, rfl, rfl, rfl, rfl, rfl, rfl, rfl, trivial⟩
       ·
        refine wl_v rfl rfl (ov_lens _ rfl Try.underlying9) ?_
        refine wl_nil ?_
        refine qn_wyl (by kernel_rfl) ?_ (nd57 _ h)
        exact ⟨rfl, rfl, rfl, rfl, rfl, rfl, rfl, rfl, trivial⟩
      refine Sx.wy_haveS (fun w => Sx.St w0 F0 ([Sx.obj D_ (.deferred (some [])), Sx.blk b2 [.bool false] 4, Sx.blk b10 [.int .i64 ((xs.length : Int))] 3, Sx.blk b11 [.string (Pc.catB xs)] 9, Sx.blk gb12 [.pointer (some ⟨g4, 0, none⟩)] 23, Sx.blk g4 [.string (s13_), .slice (A13_) (L13_.length) (c13_), .pointer (Pc.AT.ptr T13_)] 68, Pc.rowl (Φ7) 5 (A13_) (c13_) (L13_), Pc.lib (Φ7), Sx.blk b1 [.int .i64 (leave)] 3] ++ R) w) 13 #[true, true, true, true, true, false, false, true, true, false, false, false, false, false, false, false, false, false, false, false] [(6, .pointer (some ⟨b2, 0, none⟩)), (7, .pointer (some ⟨g4, 0, none⟩)), (8, .string (Pc.catB D5)), (10, .pointer (some ⟨b10, 0, none⟩)), (11, .pointer (some ⟨b11, 0, none⟩)), (47, .bool true), (51, .int .i64 (((Pc.catB D5).size : Int)))] ?_ (fun nd60 => ?_)
      ·
       clear h
       intro w h
       refine Sx.wy_one 5 rfl (by kernel_rfl) ?_
       ·
        refine wl_v rfl rfl (ov_loadb 3 _ h rfl rfl sh9 rfl) ?_
        refine wl_nil ?_
        refine qn_wyl (by kernel_rfl) ?_ (nd57 _ h)
        exact ⟨rfl, rfl, rfl, rfl, rfl, rfl, rfl, rfl, trivial⟩
      refine Sx.wy_haveS (fun w => Sx.St w0 F0 ([Sx.obj D_ (.deferred (some [])), Sx.blk b2 [.bool false] 4, Sx.blk b10 [.int .i64 ((xs.length : Int))] 3, Sx.blk b11 [.string (Pc.catB xs)] 9, Sx.blk gb12 [.pointer (some ⟨g4, 0, none⟩)] 23, Sx.blk g4 [.string (s13_), .slice (A13_) (L13_.length) (c13_), .pointer (Pc.AT.ptr T13_)] 68, Pc.rowl (Φ7) 5 (A13_) (c13_) (L13_), Pc.lib (Φ7), Sx.blk b1 [.int .i64 (leave)] 3] ++ R) w) 14 #[true, true, true, true, true, true, false, false, false, false, false, false, false, false, false, false, false, false, false, false] [(6, .pointer (some ⟨b2, 0, none⟩)), (7, .pointer (some ⟨g4, 0, none⟩)), (8, .string (Pc.catB D5)), (10, .pointer (some ⟨b10, 0, none⟩)), (11, .pointer (some ⟨b11, 0, none⟩)), (47, .bool true), (48, .string (Pc.catB xs))] ?_ (fun nd61 => ?_)
      ·
       clear h
       intro w h
       refine Sx.wy_two 6 7 rfl rfl (by kernel_rfl) ?_ ?_
       ·
        refine wl_v rfl rfl (ov_lens _ rfl Try.underlying9) ?_
        refine wl_nil ?_
        refine qn_wyl (by kernel_rfl) ?_ (nd58 _ h)
        exact ⟨rfl, rfl, rfl, rfl, rfl, rfl, rfl, trivial⟩
       ·
        refine wl_v rfl rfl (ov_move _ rfl) ?_
        refine wl_nil ?_
        refine qn_wyl (by kernel_rfl) ?_ (nd59 _ h)
        exact ⟨rfl, rfl, rfl, rfl, rfl, rfl, rfl, rfl, trivial⟩
      refine Sx.wy_haveS (fun w => Sx.St w0 F0 ([Sx.obj D_ (.deferred (some [])), Sx.blk b2 [.bool false] 4, Sx.blk b10 [.int .i64 ((xs.length : Int))] 3, Sx.blk b11 [.string (Pc.catB xs)] 9, Sx.blk gb12 [.pointer (some ⟨g4, 0, none⟩)] 23, Sx.blk g4 [.string (s13_), .slice (A13_) (L13_.length) (c13_), .pointer (Pc.AT.ptr T13_)] 68, Pc.rowl (Φ7) 5 (A13_) (c13_) (L13_), Pc.lib (Φ7), Sx.blk b1 [.int .i64 (leave)] 3] ++ R) w) 14 #[true, true, true, true, true, false, false, true, false, false, false, false, false, false, false, false, false, false, false, false] [(6, .pointer (some ⟨b2, 0, none⟩)), (7, .pointer (some ⟨g4, 0, none⟩)), (8, .string (Pc.catB D5)), (10, .pointer (some ⟨b10, 0, none⟩)), (11, .pointer (some ⟨b11, 0, none⟩)), (47, .bool true), (50, .string (Pc.catB D5))] ?_ (fun nd62 => ?_)
      ·
       clear h
       intro w h
       refine Sx.wy_two 5 8 rfl rfl (by kernel_rfl) ?_ ?_
       ·
        refine wl_v rfl rfl (ov_loadb 3 _ h rfl rfl sh9 rfl) ?_
        refine wl_nil ?_
        refine qn_wyl (by kernel_rfl) ?_ (nd59 _ h)
        exact ⟨rfl, rfl, rfl, rfl, rfl, rfl, rfl, rfl, trivial⟩
       ·
        refine wl_v rfl rfl (ov_lens _ rfl Try.underlying9) ?_
        refine wl_nil ?_
        refine qn_wyl (by kernel_rfl) ?_ (nd60 _ h)
        exact ⟨rfl, rfl, rfl, rfl, rfl, rfl, rfl, trivial⟩
      refine Sx.wy_two 5 7 rfl rfl (by kernel_rfl) ?_ ?_
      ·
       refine wl_v rfl rfl (ov_loadb 3 _ h rfl rfl sh9 rfl) ?_
       refine wl_nil ?_
       refine qn_wyl (by kernel_rfl) ?_ (nd61 _ h)
       exact ⟨rfl, rfl, rfl, rfl, rfl, rfl, rfl, trivial⟩
      ·
       refine wl_v rfl rfl (ov_move _ rfl) ?_
       refine wl_nil ?_
       refine qn_wyl (by kernel_rfl) ?_ (nd62 _ h)
       exact ⟨rfl, rfl, rfl, rfl, rfl, rfl, rfl, trivial⟩
     ·
      refine Sx.wy_sub (f2 := [(6, .pointer (some ⟨b2, 0, none⟩)), (7, .pointer (some ⟨g4, 0, none⟩)), (8, .string (Pc.catB D5)), (10, .pointer (some ⟨b10, 0, none⟩)), (11, .pointer (some ⟨b11, 0, none⟩)), (47, .bool false)]) ⟨rfl, rfl, rfl, rfl, rfl, rfl, trivial⟩ ?_
      refine Sx.wy_haveS (fun w => Sx.St w0 F0 ([Sx.obj D_ (.deferred (some [])), Sx.blk b2 [.bool false] 4, Sx.blk b10 [.int .i64 ((xs.length : Int))] 3, Sx.blk b11 [.string (Pc.catB xs)] 9, Sx.blk gb12 [.pointer (some ⟨g4, 0, none⟩)] 23, Sx.blk g4 [.string (s13_), .slice (A13_) (L13_.length) (c13_), .pointer (Pc.AT.ptr T13_)] 68, Pc.rowl (Φ7) 5 (A13_) (c13_) (L13_), Pc.lib (Φ7), Sx.blk b1 [.int .i64 (leave)] 3] ++ R) w) 0 #[true, true, true, true, true, true, true, true, true, true, true, true, true, true, true, true, true, true, true, true] [(6, .pointer (some ⟨b2, 0, none⟩)), (7, .pointer (some ⟨g4, 0, none⟩)), (8, .string (Pc.catB D5)), (10, .pointer (some ⟨b10, 0, none⟩)), (11, .pointer (some ⟨b11, 0, none⟩))] ?_ (fun nd63 => ?_)
      ·
       clear h
       intro w h
       refine Sx.wy_done (by kernel_rfl) ?_
       refine Sx.qi_then ?_
       refine Sx.ci_ret ?_
       refine qn_then_ret ?_
       have hD_ := st_obj (i := 0) h rfl
       replace h := st_putobj (.deferred none) h
       replace h : Sx.St w0 F0 ([Sx.obj D_ (.deferred none), Sx.blk b2 [.bool false] 4, Sx.blk b10 [.int .i64 ((xs.length : Int))] 3, Sx.blk b11 [.string (Pc.catB xs)] 9, Sx.blk gb12 [.pointer (some ⟨g4, 0, none⟩)] 23, Sx.blk g4 [.string (s13_), .slice (A13_) (L13_.length) (c13_), .pointer (Pc.AT.ptr T13_)] 68, Pc.rowl (Φ7) 5 (A13_) (c13_) (L13_), Pc.lib (Φ7), Sx.blk b1 [.int .i64 (leave)] 3] ++ R) _ := h
       have hend_ := h
       replace h := st_selT [false, false, false, false, false, false, false, false, false] h
       refine qn_retD [_] hD_ ⟨⟨_, rfl, Sx.loadVar1 sh4 (by rw [Sx.blk_cell hend_ (i := 1) rfl]; rfl)⟩, trivial⟩ ?_
       have hCD_ : Pc.catB D5 = Pc.catB (Pc.chs s13_ L13_ (Pc.AT.fl T13_)) := by rw [ok13_.eD]
       have hDl_ : D5.length = (Pc.chs s13_ L13_ (Pc.AT.fl T13_)).length := by rw [ok13_.eD]
       have hfl_ := Pc.tok_len ok13_
       have hx1_ : Pc.catB xs = Pc.catB D5 := by rw [hS, hCD_]
       have hx2_ : xs.length = D5.length := by rw [hS, hDl_]
       exfalso
       first | omega | contradiction | (simp_all; done) | (simp_all; omega)
      refine Sx.wy_haveS (fun w => Sx.St w0 F0 ([Sx.obj D_ (.deferred (some [])), Sx.blk b2 [.bool false] 4, Sx.blk b10 [.int .i64 ((xs.length : Int))] 3, Sx.blk b11 [.string (Pc.catB xs)] 9, Sx.blk gb12 [.pointer (some ⟨g4, 0, none⟩)] 23, Sx.blk g4 [.string (s13_), .slice (A13_) (L13_.length) (c13_), .pointer (Pc.AT.ptr T13_)] 68, Pc.rowl (Φ7) 5 (A13_) (c13_) (L13_), Pc.lib (Φ7), Sx.blk b1 [.int .i64 (leave)] 3] ++ R) w) 1 #[true, true, true, true, true, true, true, true, true, true, true, true, true, true, true, true, true, true, true, false] [(6, .pointer (some ⟨b2, 0, none⟩)), (7, .pointer (some ⟨g4, 0, none⟩)), (8, .string (Pc.catB D5)), (10, .pointer (some ⟨b10, 0, none⟩)), (11, .pointer (some ⟨b11, 0, none⟩)), (61, .bool false)] ?_ (fun nd64 => ?_)
      ·
       clear h
       intro w h
       refine Sx.wy_one 19 rfl (by kernel_rfl) ?_
       ·
        refine wl_storeb 1 _ [.bool false] h rfl rfl rfl rfl rfl rfl sh4 rfl rfl (fun _ h => ?_)
        refine wl_nil ?_
        refine qn_wyl (by kernel_rfl) ?_ (nd63 _ h)
        exact ⟨rfl, rfl, rfl, rfl, rfl, trivial⟩
      refine Sx.wy_haveS (fun w => Sx.St w0 F0 ([Sx.obj D_ (.deferred (some [])), Sx.blk b2 [.bool false] 4, Sx.blk b10 [.int .i64 ((xs.length : Int))] 3, Sx.blk b11 [.string (Pc.catB xs)] 9, Sx.blk gb12 [.pointer (some ⟨g4, 0, none⟩)] 23, Sx.blk g4 [.string (s13_), .slice (A13_) (L13_.length) (c13_), .pointer (Pc.AT.ptr T13_)] 68, Pc.rowl (Φ7) 5 (A13_) (c13_) (L13_), Pc.lib (Φ7), Sx.blk b1 [.int .i64 (leave)] 3] ++ R) w) 2 #[true, true, true, true, true, true, true, true, true, true, true, true, true, true, true, true, true, true, false, false] [(6, .pointer (some ⟨b2, 0, none⟩)), (7, .pointer (some ⟨g4, 0, none⟩)), (8, .string (Pc.catB D5)), (10, .pointer (some ⟨b10, 0, none⟩)), (11, .pointer (some ⟨b11, 0, none⟩)), (54, .bool false), (60, undef)] ?_ (fun nd65 => ?_)
      ·
       clear h
       intro w h
       refine Sx.wy_one 18 rfl (by kernel_rfl) ?_
       ·
        refine wl_v rfl rfl (ov_pick_false _ rfl rfl) ?_
        refine wl_nil ?_
        refine qn_wyl (by kernel_rfl) ?_ (nd64 _ h)
        exact ⟨rfl, rfl, rfl, rfl, rfl, rfl, trivial⟩
      refine Sx.wy_haveS (fun w => Sx.St w0 F0 ([Sx.obj D_ (.deferred (some [])), Sx.blk b2 [.bool false] 4, Sx.blk b10 [.int .i64 ((xs.length : Int))] 3, Sx.blk b11 [.string (Pc.catB xs)] 9, Sx.blk gb12 [.pointer (some ⟨g4, 0, none⟩)] 23, Sx.blk g4 [.string (s13_), .slice (A13_) (L13_.length) (c13_), .pointer (Pc.AT.ptr T13_)] 68, Pc.rowl (Φ7) 5 (A13_) (c13_) (L13_), Pc.lib (Φ7), Sx.blk b1 [.int .i64 (leave)] 3] ++ R) w) 3 #[true, true, true, true, true, true, true, true, true, true, true, true, true, true, true, true, true, false, false, false] [(6, .pointer (some ⟨b2, 0, none⟩)), (7, .pointer (some ⟨g4, 0, none⟩)), (8, .string (Pc.catB D5)), (10, .pointer (some ⟨b10, 0, none⟩)), (11, .pointer (some ⟨b11, 0, none⟩)), (54, .bool false), (55, undef), (59, undef)] ?_ (fun nd66 => ?_)
      ·
       clear h
       intro w h
       refine Sx.wy_one 17 rfl (by kernel_rfl) ?_
       ·
        refine wl_skip rfl rfl ?_
        refine wl_nil ?_
        refine qn_wyl (by kernel_rfl) ?_ (nd65 _ h)
        exact ⟨rfl, rfl, rfl, rfl, rfl, rfl, rfl, trivial⟩
      refine Sx.wy_haveS (fun w => Sx.St w0 F0 ([Sx.obj D_ (.deferred (some [])), Sx.blk b2 [.bool false] 4, Sx.blk b10 [.int .i64 ((xs.length : Int))] 3, Sx.blk b11 [.string (Pc.catB xs)] 9, Sx.blk gb12 [.pointer (some ⟨g4, 0, none⟩)] 23, Sx.blk g4 [.string (s13_), .slice (A13_) (L13_.length) (c13_), .pointer (Pc.AT.ptr T13_)] 68, Pc.rowl (Φ7) 5 (A13_) (c13_) (L13_), Pc.lib (Φ7), Sx.blk b1 [.int .i64 (leave)] 3] ++ R) w) 4 #[true, true, true, true, true, true, true, true, true, true, true, true, true, true, true, true, false, false, false, false] [(6, .pointer (some ⟨b2, 0, none⟩)), (7, .pointer (some ⟨g4, 0, none⟩)), (8, .string (Pc.catB D5)), (10, .pointer (some ⟨b10, 0, none⟩)), (11, .pointer (some ⟨b11, 0, none⟩)), (54, .bool false), (55, undef), (56, undef), (58, undef)] ?_ (fun nd67 => ?_)
      ·
       clear h
       intro w h
       refine Sx.wy_one 16 rfl (by kernel_rfl) ?_
       ·
        refine wl_skip rfl rfl ?_
        refine wl_nil ?_
        refine qn_wyl (by kernel_rfl) ?_ (nd66 _ h)
        exact ⟨rfl, rfl, rfl, rfl, rfl, rfl, rfl, rfl, trivial⟩
      refine Sx.wy_haveS (fun w => Sx.St w0 F0 ([Sx.obj D_ (.deferred (some [])), Sx.blk b2 [.bool false] 4, Sx.blk b10 [.int .i64 ((xs.length : Int))] 3, Sx.blk b11 [.string (Pc.catB xs)] 9, Sx.blk gb12 [.pointer (some ⟨g4, 0, none⟩)] 23, Sx.blk g4 [.string (s13_), .slice (A13_) (L13_.length) (c13_), .pointer (Pc.AT.ptr T13_)] 68, Pc.rowl (Φ7) 5 (A13_) (c13_) (L13_), Pc.lib (Φ7), Sx.blk b1 [.int .i64 (leave)] 3] ++ R) w) 4 #[true, true, true, true, true, true, true, true, true, true, true, true, false, true, true, true, true, false, false, false] [(6, .pointer (some ⟨b2, 0, none⟩)), (7, .pointer (some ⟨g4, 0, none⟩)), (8, .string (Pc.catB D5)), (10, .pointer (some ⟨b10, 0, none⟩)), (11, .pointer (some ⟨b11, 0, none⟩)), (54, .bool false), (59, undef)] ?_ (fun nd68 => ?_)
      ·
       clear h
       intro w h
       refine Sx.wy_one 12 rfl (by kernel_rfl) ?_
       ·
        refine wl_skip rfl rfl ?_
        refine wl_nil ?_
        refine qn_wyl (by kernel_rfl) ?_ (nd66 _ h)
        exact ⟨rfl, rfl, rfl, rfl, rfl, rfl, rfl, rfl, trivial⟩
      refine Sx.wy_haveS (fun w => Sx.St w0 F0 ([Sx.obj D_ (.deferred (some [])), Sx.blk b2 [.bool false] 4, Sx.blk b10 [.int .i64 ((xs.length : Int))] 3, Sx.blk b11 [.string (Pc.catB xs)] 9, Sx.blk gb12 [.pointer (some ⟨g4, 0, none⟩)] 23, Sx.blk g4 [.string (s13_), .slice (A13_) (L13_.length) (c13_), .pointer (Pc.AT.ptr T13_)] 68, Pc.rowl (Φ7) 5 (A13_) (c13_) (L13_), Pc.lib (Φ7), Sx.blk b1 [.int .i64 (leave)] 3] ++ R) w) 5 #[true, true, true, true, true, true, true, true, true, true, true, true, true, true, true, false, false, false, false, false] [(6, .pointer (some ⟨b2, 0, none⟩)), (7, .pointer (some ⟨g4, 0, none⟩)), (8, .string (Pc.catB D5)), (10, .pointer (some ⟨b10, 0, none⟩)), (11, .pointer (some ⟨b11, 0, none⟩)), (54, .bool false), (55, undef), (56, undef), (57, undef)] ?_ (fun nd69 => ?_)
      ·
       clear h
       intro w h
       refine Sx.wy_one 15 rfl (by kernel_rfl) ?_
       ·
        refine wl_skip rfl rfl ?_
        refine wl_nil ?_
        refine qn_wyl (by kernel_rfl) ?_ (nd67 _ h)
        exact ⟨rfl, rfl, rfl, rfl, rfl, rfl, rfl, rfl, rfl, trivial⟩
      refine Sx.wy_haveS (fun w => Sx.St w0 F0 ([Sx.obj D_ (.deferred (some [])), Sx.blk b2 [.bool false] 4, Sx.blk b10 [.int .i64 ((xs.length : Int))] 3, Sx.blk b11 [.string (Pc.catB xs)] 9, Sx.blk gb12 [.pointer (some ⟨g4, 0, none⟩)] 23, Sx.blk g4 [.string (s13_), .slice (A13_) (L13_.length) (c13_), .pointer (Pc.AT.ptr T13_)] 68, Pc.rowl (Φ7) 5 (A13_) (c13_) (L13_), Pc.lib (Φ7), Sx.blk b1 [.int .i64 (leave)] 3] ++ R) w) 5 #[true, true, true, true, true, true, true, true, true, true, true, true, true, false, true, true, false, false, false, false] [(6, .pointer (some ⟨b2, 0, none⟩)), (7, .pointer (some ⟨g4, 0, none⟩)), (8, .string (Pc.catB D5)), (10, .pointer (some ⟨b10, 0, none⟩)), (11, .pointer (some ⟨b11, 0, none⟩)), (54, .bool false), (55, undef), (58, undef)] ?_ (fun nd70 => ?_)
      ·
       clear h
       intro w h
       refine Sx.wy_one 13 rfl (by kernel_rfl) ?_
       ·
        refine wl_skip rfl rfl ?_
        refine wl_nil ?_
        refine qn_wyl (by kernel_rfl) ?_ (nd67 _ h)
        exact ⟨rfl, rfl, rfl, rfl, rfl, rfl, rfl, rfl, rfl, trivial⟩
      refine Sx.wy_haveS (fun w => Sx.St w0 F0 ([Sx.obj D_ (.deferred (some [])), Sx.blk b2 [.bool false] 4, Sx.blk b10 [.int .i64 ((xs.length : Int))] 3, Sx.blk b11 [.string (Pc.catB xs)] 9, Sx.blk gb12 [.pointer (some ⟨g4, 0, none⟩)] 23, Sx.blk g4 [.string (s13_), .slice (A13_) (L13_.length) (c13_), .pointer (Pc.AT.ptr T13_)] 68, Pc.rowl (Φ7) 5 (A13_) (c13_) (L13_), Pc.lib (Φ7), Sx.blk b1 [.int .i64 (leave)] 3] ++ R) w) 5 #[true, true, true, true, true, true, true, true, true, true, true, true, false, true, true, true, false, false, false, false] [(6, .pointer (some ⟨b2, 0, none⟩)), (7, .pointer (some ⟨g4, 0, none⟩)), (8, .string (Pc.catB D5)), (10, .pointer (some ⟨b10, 0, none⟩)), (11, .pointer (some ⟨b11, 0, none⟩)), (54, .bool false), (56, undef), (58, undef)] ?_ (fun nd71 => ?_)
      ·
       clear h
       intro w h
       refine Sx.wy_two 12 16 rfl rfl (by kernel_rfl) ?_ ?_
       ·
        refine wl_skip rfl rfl ?_
        refine wl_nil ?_
        refine qn_wyl (by kernel_rfl) ?_ (nd67 _ h)
        exact ⟨rfl, rfl, rfl, rfl, rfl, rfl, rfl, rfl, rfl, trivial⟩
       ·
        refine wl_skip rfl rfl ?_
        refine wl_nil ?_
        refine qn_wyl (by kernel_rfl) ?_ (nd68 _ h)
        exact ⟨rfl, rfl, rfl, rfl, rfl, rfl, rfl, trivial⟩
      refine Sx.wy_haveS (fun w => Sx.St w0 F0 ([Sx.obj D_ (.deferred (some [])), Sx.blk b2 [.bool false] 4, Sx.blk b10 [.int .i64 ((xs.length : Int))] 3, Sx.blk b11 [.string (Pc.catB xs)] 9, Sx.blk gb12 [.pointer (some ⟨g4, 0, none⟩)] 23, Sx.blk g4 [.string (s13_), .slice (A13_) (L13_.length) (c13_), .pointer (Pc.AT.ptr T13_)] 68, Pc.rowl (Φ7) 5 (A13_) (c13_) (L13_), Pc.lib (Φ7), Sx.blk b1 [.int .i64 (leave)] 3] ++ R) w) 6 #[true, true, true, true, true, true, true, true, true, true, true, true, true, true, false, false, false, false, false, false] [(6, .pointer (some ⟨b2, 0, none⟩)), (7, .pointer (some ⟨g4, 0, none⟩)), (8, .string (Pc.catB D5)), (10, .pointer (some ⟨b10, 0, none⟩)), (11, .pointer (some ⟨b11, 0, none⟩)), (54, .bool false), (55, undef), (56, undef)] ?_ (fun nd72 => ?_)
      ·
       clear h
       intro w h
       refine Sx.wy_one 14 rfl (by kernel_rfl) ?_
       ·
        refine wl_skip rfl rfl ?_
        refine wl_nil ?_
        refine qn_wyl (by kernel_rfl) ?_ (nd69 _ h)
        exact ⟨rfl, rfl, rfl, rfl, rfl, rfl, rfl, rfl, rfl, trivial⟩
      refine Sx.wy_haveS (fun w => Sx.St w0 F0 ([Sx.obj D_ (.deferred (some [])), Sx.blk b2 [.bool false] 4, Sx.blk b10 [.int .i64 ((xs.length : Int))] 3, Sx.blk b11 [.string (Pc.catB xs)] 9, Sx.blk gb12 [.pointer (some ⟨g4, 0, none⟩)] 23, Sx.blk g4 [.string (s13_), .slice (A13_) (L13_.length) (c13_), .pointer (Pc.AT.ptr T13_)] 68, Pc.rowl (Φ7) 5 (A13_) (c13_) (L13_), Pc.lib (Φ7), Sx.blk b1 [.int .i64 (leave)] 3] ++ R) w) 6 #[true, true, true, true, true, true, true, true, true, true, true, true, true, false, true, false, false, false, false, false] [(6, .pointer (some ⟨b2, 0, none⟩)), (7, .pointer (some ⟨g4, 0, none⟩)), (8, .string (Pc.catB D5)), (10, .pointer (some ⟨b10, 0, none⟩)), (11, .pointer (some ⟨b11, 0, none⟩)), (54, .bool false), (55, undef), (57, undef)] ?_ (fun nd73 => ?_)
      ·
       clear h
       intro w h
       refine Sx.wy_two 13 15 rfl rfl (by kernel_rfl) ?_ ?_
       ·
        refine wl_skip rfl rfl ?_
        refine wl_nil ?_
        refine qn_wyl (by kernel_rfl) ?_ (nd69 _ h)
        exact ⟨rfl, rfl, rfl, rfl, rfl, rfl, rfl, rfl, rfl, trivial⟩
       ·
        refine wl_skip rfl rfl ?_
        refine wl_nil ?_
        refine qn_wyl (by kernel_rfl) ?_ (nd70 _ h)
        exact ⟨rfl, rfl, rfl, rfl, rfl, rfl, rfl, rfl, trivial⟩
      refine Sx.wy_haveS (fun w => Sx.St w0 F0 ([Sx.obj D_ (.deferred (some [])), Sx.blk b2 [.bool false] 4, Sx.blk b10 [.int .i64 ((xs.length : Int))] 3, Sx.blk b11 [.string (Pc.catB xs)] 9, Sx.blk gb12 [.pointer (some ⟨g4, 0, none⟩)] 23, Sx.blk g4 [.string (s13_), .slice (A13_) (L13_.length) (c13_), .pointer (Pc.AT.ptr T13_)] 68, Pc.rowl (Φ7) 5 (A13_) (c13_) (L13_), Pc.lib (Φ7), Sx.blk b1 [.int .i64 (leave)] 3] ++ R) w) 6 #[true, true, true, true, true, true, true, true, true, true, true, true, false, true, true, false, false, false, false, false] [(6, .pointer (some ⟨b2, 0, none⟩)), (7, .pointer (some ⟨g4, 0, none⟩)), (8, .string (Pc.catB D5)), (10, .pointer (some ⟨b10, 0, none⟩)), (11, .pointer (some ⟨b11, 0, none⟩)), (54, .bool false), (56, undef), (57, undef)] ?_ (fun nd74 => ?_)
      ·
       clear h
       intro w h
       refine Sx.wy_two 12 15 rfl rfl (by kernel_rfl) ?_ ?_
       ·
        refine wl_skip rfl rfl ?_
        refine wl_nil ?_
        refine qn_wyl (by kernel_rfl) ?_ (nd69 _ h)
        exact ⟨rfl, rfl, rfl, rfl, rfl, rfl, rfl, rfl, rfl, trivial⟩
       ·
        refine wl_skip rfl rfl ?_
        refine wl_nil ?_
        refine qn_wyl (by kernel_rfl) ?_ (nd71 _ h)
        exact ⟨rfl, rfl, rfl, rfl, rfl, rfl, rfl, rfl, trivial⟩
      refine Sx.wy_haveS (fun w => Sx.St w0 F0 ([Sx.obj D_ (.deferred (some [])), Sx.blk b2 [.bool false] 4, Sx.blk b10 [.int .i64 ((xs.length : Int))] 3, Sx.blk b11 [.string (Pc.catB xs)] 9, Sx.blk gb12 [.pointer (some ⟨g4, 0, none⟩)] 23, Sx.blk g4 [.string (s13_), .slice (A13_) (L13_.length) (c13_), .pointer (Pc.AT.ptr T13_)] 68, Pc.rowl (Φ7) 5 (A13_) (c13_) (L13_), Pc.lib (Φ7), Sx.blk b1 [.int .i64 (leave)] 3] ++ R) w) 6 #[true, true, true, true, true, true, true, true, true, true, true, true, false, false, true, true, false, false, false, false] [(6, .pointer (some ⟨b2, 0, none⟩)), (7, .pointer (some ⟨g4, 0, none⟩)), (8, .string (Pc.catB D5)), (10, .pointer (some ⟨b10, 0, none⟩)), (11, .pointer (some ⟨b11, 0, none⟩)), (54, .bool false), (58, undef)] ?_ (fun nd75 => ?_)
      ·
       clear h
       intro w h
       refine Sx.wy_two 12 13 rfl rfl (by kernel_rfl) ?_ ?_
       ·
        refine wl_skip rfl rfl ?_
        refine wl_nil ?_
        refine qn_wyl (by kernel_rfl) ?_ (nd70 _ h)
        exact ⟨rfl, rfl, rfl, rfl, rfl, rfl, rfl, rfl, trivial⟩
       ·
        refine wl_skip rfl rfl ?_
        refine wl_nil ?_
        refine qn_wyl (by kernel_rfl) ?_ (nd71 _ h)
        exact ⟨rfl, rfl, rfl, rfl, rfl, rfl, rfl, rfl, trivial⟩
      refine Sx.wy_haveS (fun w => Sx.St w0 F0 ([Sx.obj D_ (.deferred (some [])), Sx.blk b2 [.bool false] 4, Sx.blk b10 [.int .i64 ((xs.length : Int))] 3, Sx.blk b11 [.string (Pc.catB xs)] 9, Sx.blk gb12 [.pointer (some ⟨g4, 0, none⟩)] 23, Sx.blk g4 [.string (s13_), .slice (A13_) (L13_.length) (c13_), .pointer (Pc.AT.ptr T13_)] 68, Pc.rowl (Φ7) 5 (A13_) (c13_) (L13_), Pc.lib (Φ7), Sx.blk b1 [.int .i64 (leave)] 3] ++ R) w) 7 #[true, true, true, true, true, true, true, true, true, true, true, true, true, false, false, false, false, false, false, false] [(6, .pointer (some ⟨b2, 0, none⟩)), (7, .pointer (some ⟨g4, 0, none⟩)), (8, .string (Pc.catB D5)), (10, .pointer (some ⟨b10, 0, none⟩)), (11, .pointer (some ⟨b11, 0, none⟩)), (54, .bool false), (55, undef)] ?_ (fun nd76 => ?_)
      ·
       clear h
       intro w h
       refine Sx.wy_two 13 14 rfl rfl (by kernel_rfl) ?_ ?_
       ·
        refine wl_skip rfl rfl ?_
        refine wl_nil ?_
        refine qn_wyl (by kernel_rfl) ?_ (nd72 _ h)
        exact ⟨rfl, rfl, rfl, rfl, rfl, rfl, rfl, rfl, trivial⟩
       ·
        refine wl_skip rfl rfl ?_
        refine wl_nil ?_
        refine qn_wyl (by kernel_rfl) ?_ (nd73 _ h)
        exact ⟨rfl, rfl, rfl, rfl, rfl, rfl, rfl, rfl, trivial⟩
      refine Sx.wy_haveS (fun w => Sx.St w0 F0 ([Sx.obj D_ (.deferred (some [])), Sx.blk b2 [.bool false] 4, Sx.blk b10 [.int .i64 ((xs.length : Int))] 3, Sx.blk b11 [.string (Pc.catB xs)] 9, Sx.blk gb12 [.pointer (some ⟨g4, 0, none⟩)] 23, Sx.blk g4 [.string (s13_), .slice (A13_) (L13_.length) (c13_), .pointer (Pc.AT.ptr T13_)] 68, Pc.rowl (Φ7) 5 (A13_) (c13_) (L13_), Pc.lib (Φ7), Sx.blk b1 [.int .i64 (leave)] 3] ++ R) w) 7 #[true, true, true, true, true, true, true, true, true, true, true, true, false, true, false, false, false, false, false, false] [(6, .pointer (some ⟨b2, 0, none⟩)), (7, .pointer (some ⟨g4, 0, none⟩)), (8, .string (Pc.catB D5)), (10, .pointer (some ⟨b10, 0, none⟩)), (11, .pointer (some ⟨b11, 0, none⟩)), (54, .bool false), (56, undef)] ?_ (fun nd77 => ?_)
      ·
       clear h
       intro w h
       refine Sx.wy_two 12 14 rfl rfl (by kernel_rfl) ?_ ?_
       ·
        refine wl_skip rfl rfl ?_
        refine wl_nil ?_
        refine qn_wyl (by kernel_rfl) ?_ (nd72 _ h)
        exact ⟨rfl, rfl, rfl, rfl, rfl, rfl, rfl, rfl, trivial⟩
       ·
        refine wl_skip rfl rfl ?_
        refine wl_nil ?_
        refine qn_wyl (by kernel_rfl) ?_ (nd74 _ h)
        exact ⟨rfl, rfl, rfl, rfl, rfl, rfl, rfl, rfl, trivial⟩
      refine Sx.wy_haveS (fun w => Sx.St w0 F0 ([Sx.obj D_ (.deferred (some [])), Sx.blk b2 [.bool false] 4, Sx.blk b10 [.int .i64 ((xs.length : Int))] 3, Sx.blk b11 [.string (Pc.catB xs)] 9, Sx.blk gb12 [.pointer (some ⟨g4, 0, none⟩)] 23, Sx.blk g4 [.string (s13_), .slice (A13_) (L13_.length) (c13_), .pointer (Pc.AT.ptr T13_)] 68, Pc.rowl (Φ7) 5 (A13_) (c13_) (L13_), Pc.lib (Φ7), Sx.blk b1 [.int .i64 (leave)] 3] ++ R) w) 7 #[true, true, true, true, true, true, true, true, true, true, true, true, false, false, true, false, false, false, false, false] [(6, .pointer (some ⟨b2, 0, none⟩)), (7, .pointer (some ⟨g4, 0, none⟩)), (8, .string (Pc.catB D5)), (10, .pointer (some ⟨b10, 0, none⟩)), (11, .pointer (some ⟨b11, 0, none⟩)), (54, .bool false), (57, undef)] ?_ (fun nd78 => ?_)
      ·
       clear h
       intro w h
       refine Sx.wy_three 12 13 15 rfl rfl rfl (by kernel_rfl) ?_ ?_ ?_
       ·
        refine wl_skip rfl rfl ?_
        refine wl_nil ?_
        refine qn_wyl (by kernel_rfl) ?_ (nd73 _ h)
        exact ⟨rfl, rfl, rfl, rfl, rfl, rfl, rfl, rfl, trivial⟩
       ·
        refine wl_skip rfl rfl ?_
        refine wl_nil ?_
        refine qn_wyl (by kernel_rfl) ?_ (nd74 _ h)
        exact ⟨rfl, rfl, rfl, rfl, rfl, rfl, rfl, rfl, trivial⟩
       ·
        refine wl_skip rfl rfl ?_
        refine wl_nil ?_
        refine qn_wyl (by kernel_rfl) ?_ (nd75 _ h)
        exact ⟨rfl, rfl, rfl, rfl, rfl, rfl, rfl, trivial⟩
      refine Sx.wy_haveS (fun w => Sx.St w0 F0 ([Sx.obj D_ (.deferred (some [])), Sx.blk b2 [.bool false] 4, Sx.blk b10 [.int .i64 ((xs.length : Int))] 3, Sx.blk b11 [.string (Pc.catB xs)] 9, Sx.blk gb12 [.pointer (some ⟨g4, 0, none⟩)] 23, Sx.blk g4 [.string (s13_), .slice (A13_) (L13_.length) (c13_), .pointer (Pc.AT.ptr T13_)] 68, Pc.rowl (Φ7) 5 (A13_) (c13_) (L13_), Pc.lib (Φ7), Sx.blk b1 [.int .i64 (leave)] 3] ++ R) w) 8 #[true, true, true, true, true, true, true, true, true, true, true, true, false, false, false, false, false, false, false, false] [(6, .pointer (some ⟨b2, 0, none⟩)), (7, .pointer (some ⟨g4, 0, none⟩)), (8, .string (Pc.catB D5)), (10, .pointer (some ⟨b10, 0, none⟩)), (11, .pointer (some ⟨b11, 0, none⟩)), (54, .bool false)] ?_ (fun nd79 => ?_)
      ·
       clear h
       intro w h
       refine Sx.wy_three 12 13 14 rfl rfl rfl (by kernel_rfl) ?_ ?_ ?_
       ·
        refine wl_skip rfl rfl ?_
        refine wl_nil ?_
        refine qn_wyl (by kernel_rfl) ?_ (nd76 _ h)
        exact ⟨rfl, rfl, rfl, rfl, rfl, rfl, rfl, trivial⟩
       ·
        refine wl_skip rfl rfl ?_
        refine wl_nil ?_
        refine qn_wyl (by kernel_rfl) ?_ (nd77 _ h)
        exact ⟨rfl, rfl, rfl, rfl, rfl, rfl, rfl, trivial⟩
       ·
        refine wl_skip rfl rfl ?_
        refine wl_nil ?_
        refine qn_wyl (by kernel_rfl) ?_ (nd78 _ h)
        exact ⟨rfl, rfl, rfl, rfl, rfl, rfl, rfl, trivial⟩
      refine Sx.wy_haveS (fun w => Sx.St w0 F0 ([Sx.obj D_ (.deferred (some [])), Sx.blk b2 [.bool false] 4, Sx.blk b10 [.int .i64 ((xs.length : Int))] 3, Sx.blk b11 [.string (Pc.catB xs)] 9, Sx.blk gb12 [.pointer (some ⟨g4, 0, none⟩)] 23, Sx.blk g4 [.string (s13_), .slice (A13_) (L13_.length) (c13_), .pointer (Pc.AT.ptr T13_)] 68, Pc.rowl (Φ7) 5 (A13_) (c13_) (L13_), Pc.lib (Φ7), Sx.blk b1 [.int .i64 (leave)] 3] ++ R) w) 9 #[true, true, true, true, true, true, true, true, true, true, true, false, false, false, false, false, false, false, false, false] [(6, .pointer (some ⟨b2, 0, none⟩)), (7, .pointer (some ⟨g4, 0, none⟩)), (8, .string (Pc.catB D5)), (10, .pointer (some ⟨b10, 0, none⟩)), (11, .pointer (some ⟨b11, 0, none⟩)), (53, .bool false)] ?_ (fun nd80 => ?_)
      ·
       clear h
       intro w h
       refine Sx.wy_one 11 rfl (by kernel_rfl) ?_
       ·
        refine wl_v rfl rfl (ov_move _ rfl) ?_
        refine wl_nil ?_
        refine qn_wyl (by kernel_rfl) ?_ (nd79 _ h)
        exact ⟨rfl, rfl, rfl, rfl, rfl, rfl, trivial⟩
      refine Sx.wy_haveS (fun w => Sx.St w0 F0 ([Sx.obj D_ (.deferred (some [])), Sx.blk b2 [.bool false] 4, Sx.blk b10 [.int .i64 ((xs.length : Int))] 3, Sx.blk b11 [.string (Pc.catB xs)] 9, Sx.blk gb12 [.pointer (some ⟨g4, 0, none⟩)] 23, Sx.blk g4 [.string (s13_), .slice (A13_) (L13_.length) (c13_), .pointer (Pc.AT.ptr T13_)] 68, Pc.rowl (Φ7) 5 (A13_) (c13_) (L13_), Pc.lib (Φ7), Sx.blk b1 [.int .i64 (leave)] 3] ++ R) w) 10 #[true, true, true, true, true, true, true, true, true, true, false, false, false, false, false, false, false, false, false, false] [(6, .pointer (some ⟨b2, 0, none⟩)), (7, .pointer (some ⟨g4, 0, none⟩)), (8, .string (Pc.catB D5)), (10, .pointer (some ⟨b10, 0, none⟩)), (11, .pointer (some ⟨b11, 0, none⟩)), (47, .bool false), (52, undef)] ?_ (fun nd81 => ?_)
      ·
       clear h
       intro w h
       refine Sx.wy_one 10 rfl (by kernel_rfl) ?_
       ·
        refine wl_v rfl rfl (ov_pick_false _ rfl rfl) ?_
        refine wl_nil ?_
        refine qn_wyl (by kernel_rfl) ?_ (nd80 _ h)
        exact ⟨rfl, rfl, rfl, rfl, rfl, rfl, trivial⟩
      refine Sx.wy_haveS (fun w => Sx.St w0 F0 ([Sx.obj D_ (.deferred (some [])), Sx.blk b2 [.bool false] 4, Sx.blk b10 [.int .i64 ((xs.length : Int))] 3, Sx.blk b11 [.string (Pc.catB xs)] 9, Sx.blk gb12 [.pointer (some ⟨g4, 0, none⟩)] 23, Sx.blk g4 [.string (s13_), .slice (A13_) (L13_.length) (c13_), .pointer (Pc.AT.ptr T13_)] 68, Pc.rowl (Φ7) 5 (A13_) (c13_) (L13_), Pc.lib (Φ7), Sx.blk b1 [.int .i64 (leave)] 3] ++ R) w) 11 #[true, true, true, true, true, true, true, true, true, false, false, false, false, false, false, false, false, false, false, false] [(6, .pointer (some ⟨b2, 0, none⟩)), (7, .pointer (some ⟨g4, 0, none⟩)), (8, .string (Pc.catB D5)), (10, .pointer (some ⟨b10, 0, none⟩)), (11, .pointer (some ⟨b11, 0, none⟩)), (47, .bool false), (49, undef), (51, undef)] ?_ (fun nd82 => ?_)
      ·
       clear h
       intro w h
       refine Sx.wy_one 9 rfl (by kernel_rfl) ?_
       ·
        refine wl_skip rfl rfl ?_
        refine wl_nil ?_
        refine qn_wyl (by kernel_rfl) ?_ (nd81 _ h)
        exact ⟨rfl, rfl, rfl, rfl, rfl, rfl, rfl, trivial⟩
      refine Sx.wy_haveS (fun w => Sx.St w0 F0 ([Sx.obj D_ (.deferred (some [])), Sx.blk b2 [.bool false] 4, Sx.blk b10 [.int .i64 ((xs.length : Int))] 3, Sx.blk b11 [.string (Pc.catB xs)] 9, Sx.blk gb12 [.pointer (some ⟨g4, 0, none⟩)] 23, Sx.blk g4 [.string (s13_), .slice (A13_) (L13_.length) (c13_), .pointer (Pc.AT.ptr T13_)] 68, Pc.rowl (Φ7) 5 (A13_) (c13_) (L13_), Pc.lib (Φ7), Sx.blk b1 [.int .i64 (leave)] 3] ++ R) w) 12 #[true, true, true, true, true, true, true, true, false, false, false, false, false, false, false, false, false, false, false, false] [(6, .pointer (some ⟨b2, 0, none⟩)), (7, .pointer (some ⟨g4, 0, none⟩)), (8, .string (Pc.catB D5)), (10, .pointer (some ⟨b10, 0, none⟩)), (11, .pointer (some ⟨b11, 0, none⟩)), (47, .bool false), (49, undef), (50, undef)] ?_ (fun nd83 => ?_)
      ·
       clear h
       intro w h
       refine Sx.wy_one 8 rfl (by kernel_rfl) ?_
       ·
        refine wl_skip rfl rfl ?_
        refine wl_nil ?_
        refine qn_wyl (by kernel_rfl) ?_ (nd82 _ h)
        exact ⟨rfl, rfl, rfl, rfl, rfl, rfl, rfl, rfl, trivial⟩
      refine Sx.wy_haveS (fun w => Sx.St w0 F0 ([Sx.obj D_ (.deferred (some [])), Sx.blk b2 [.bool false] 4, Sx.blk b10 [.int .i64 ((xs.length : Int))] 3, Sx.blk b11 [.string (Pc.catB xs)] 9, Sx.blk gb12 [.pointer (some ⟨g4, 0, none⟩)] 23, Sx.blk g4 [.string (s13_), .slice (A13_) (L13_.length) (c13_), .pointer (Pc.AT.ptr T13_)] 68, Pc.rowl (Φ7) 5 (A13_) (c13_) (L13_), Pc.lib (Φ7), Sx.blk b1 [.int .i64 (leave)] 3] ++ R) w) 12 #[true, true, true, true, true, true, false, true, true, false, false, false, false, false, false, false, false, false, false, false] [(6, .pointer (some ⟨b2, 0, none⟩)), (7, .pointer (some ⟨g4, 0, none⟩)), (8, .string (Pc.catB D5)), (10, .pointer (some ⟨b10, 0, none⟩)), (11, .pointer (some ⟨b11, 0, none⟩)), (47, .bool false), (48, undef), (51, undef)] ?_ (fun nd84 => ?_)
      ·
       clear h
       intro w h
       refine Sx.wy_one 6 rfl (by kernel_rfl) ?_
       ·
        refine wl_skip rfl rfl ?_
        refine wl_nil ?_
        refine qn_wyl (by kernel_rfl) ?_ (nd82 _ h)
        exact ⟨rfl, rfl, rfl, rfl, rfl, rfl, rfl, rfl, trivial⟩
      refine Sx.wy_haveS (fun w => Sx.St w0 F0 ([Sx.obj D_ (.deferred (some [])), Sx.blk b2 [.bool false] 4, Sx.blk b10 [.int .i64 ((xs.length : Int))] 3, Sx.blk b11 [.string (Pc.catB xs)] 9, Sx.blk gb12 [.pointer (some ⟨g4, 0, none⟩)] 23, Sx.blk g4 [.string (s13_), .slice (A13_) (L13_.length) (c13_), .pointer (Pc.AT.ptr T13_)] 68, Pc.rowl (Φ7) 5 (A13_) (c13_) (L13_), Pc.lib (Φ7), Sx.blk b1 [.int .i64 (leave)] 3] ++ R) w) 13 #[true, true, true, true, true, true, true, false, false, false, false, false, false, false, false, false, false, false, false, false] [(6, .pointer (some ⟨b2, 0, none⟩)), (7, .pointer (some ⟨g4, 0, none⟩)), (8, .string (Pc.catB D5)), (10, .pointer (some ⟨b10, 0, none⟩)), (11, .pointer (some ⟨b11, 0, none⟩)), (47, .bool false), (49, undef)] ?_ (fun nd85 => ?_)
      ·
       clear h
       intro w h
       refine Sx.wy_one 7 rfl (by kernel_rfl) ?_
       ·
        refine wl_skip rfl rfl ?_
        refine wl_nil ?_
        refine qn_wyl (by kernel_rfl) ?_ (nd83 _ h)
        exact ⟨rfl, rfl, rfl, rfl, rfl, rfl, rfl, rfl, trivial⟩
      refine Sx.wy_haveS (fun w => Sx.St w0 F0 ([Sx.obj D_ (.deferred (some [])), Sx.blk b2 [.bool false] 4, Sx.blk b10 [.int .i64 ((xs.length : Int))] 3, Sx.blk b11 [.string (Pc.catB xs)] 9, Sx.blk gb12 [.pointer (some ⟨g4, 0, none⟩)] 23, Sx.blk g4 [.string (s13_), .slice (A13_) (L13_.length) (c13_), .pointer (Pc.AT.ptr T13_)] 68, Pc.rowl (Φ7) 5 (A13_) (c13_) (L13_), Pc.lib (Φ7), Sx.blk b1 [.int .i64 (leave)] 3] ++ R) w) 13 #[true, true, true, true, true, true, false, true, false, false, false, false, false, false, false, false, false, false, false, false] [(6, .pointer (some ⟨b2, 0, none⟩)), (7, .pointer (some ⟨g4, 0, none⟩)), (8, .string (Pc.catB D5)), (10, .pointer (some ⟨b10, 0, none⟩)), (11, .pointer (some ⟨b11, 0, none⟩)), (47, .bool false), (48, undef), (50, undef)] ?_ (fun nd86 => ?_)
      ·
       clear h
       intro w h
       refine Sx.wy_two 6 8 rfl rfl (by kernel_rfl) ?_ ?_
       ·
        refine wl_skip rfl rfl ?_
        refine wl_nil ?_
        refine qn_wyl (by kernel_rfl) ?_ (nd83 _ h)
        exact ⟨rfl, rfl, rfl, rfl, rfl, rfl, rfl, rfl, trivial⟩
       ·
        refine wl_skip rfl rfl ?_
        refine wl_nil ?_
        refine qn_wyl (by kernel_rfl) ?_ (nd84 _ h)
        exact ⟨rfl, rfl, rfl, rfl, rfl, rfl, rfl, rfl, trivial⟩
      refine Sx.wy_haveS (fun w => Sx.St w0 F0 ([Sx.obj D_ (.deferred (some [])), Sx.blk b2 [.bool false] 4, Sx.blk b10 [.int .i64 ((xs.length : Int))] 3, Sx.blk b11 [.string (Pc.catB xs)] 9, Sx.blk gb12 [.pointer (some ⟨g4, 0, none⟩)] 23, Sx.blk g4 [.string (s13_), .slice (A13_) (L13_.length) (c13_), .pointer (Pc.AT.ptr T13_)] 68, Pc.rowl (Φ7) 5 (A13_) (c13_) (L13_), Pc.lib (Φ7), Sx.blk b1 [.int .i64 (leave)] 3] ++ R) w) 13 #[true, true, true, true, true, false, false, true, true, false, false, false, false, false, false, false, false, false, false, false] [(6, .pointer (some ⟨b2, 0, none⟩)), (7, .pointer (some ⟨g4, 0, none⟩)), (8, .string (Pc.catB D5)), (10, .pointer (some ⟨b10, 0, none⟩)), (11, .pointer (some ⟨b11, 0, none⟩)), (47, .bool false), (51, undef)] ?_ (fun nd87 => ?_)
      ·
       clear h
       intro w h
       refine Sx.wy_one 5 rfl (by kernel_rfl) ?_
       ·
        refine wl_skip rfl rfl ?_
        refine wl_nil ?_
        refine qn_wyl (by kernel_rfl) ?_ (nd84 _ h)
        exact ⟨rfl, rfl, rfl, rfl, rfl, rfl, rfl, rfl, trivial⟩
      refine Sx.wy_haveS (fun w => Sx.St w0 F0 ([Sx.obj D_ (.deferred (some [])), Sx.blk b2 [.bool false] 4, Sx.blk b10 [.int .i64 ((xs.length : Int))] 3, Sx.blk b11 [.string (Pc.catB xs)] 9, Sx.blk gb12 [.pointer (some ⟨g4, 0, none⟩)] 23, Sx.blk g4 [.string (s13_), .slice (A13_) (L13_.length) (c13_), .pointer (Pc.AT.ptr T13_)] 68, Pc.rowl (Φ7) 5 (A13_) (c13_) (L13_), Pc.lib (Φ7), Sx.blk b1 [.int .i64 (leave)] 3] ++ R) w) 14 #[true, true, true, true, true, true, false, false, false, false, false, false, false, false, false, false, false, false, false, false] [(6, .pointer (some ⟨b2, 0, none⟩)), (7, .pointer (some ⟨g4, 0, none⟩)), (8, .string (Pc.catB D5)), (10, .pointer (some ⟨b10, 0, none⟩)), (11, .pointer (some ⟨b11, 0, none⟩)), (47, .bool false), (48, undef)] ?_ (fun nd88 => ?_)
      ·
       clear h
       intro w h
       refine Sx.wy_two 6 7 rfl rfl (by kernel_rfl) ?_ ?_
       ·
        refine wl_skip rfl rfl ?_
        refine wl_nil ?_
        refine qn_wyl (by kernel_rfl) ?_ (nd85 _ h)
        exact ⟨rfl, rfl, rfl, rfl, rfl, rfl, rfl, trivial⟩
       ·
        refine wl_skip rfl rfl ?_
        refine wl_nil ?_
        refine qn_wyl (by kernel_rfl) ?_ (nd86 _ h)
        exact ⟨rfl, rfl, rfl, rfl, rfl, rfl, rfl, rfl, trivial⟩
      refine Sx.wy_haveS (fun w => Sx.St w0 F0 ([Sx.obj D_ (.deferred (some [])), Sx.blk b2 [.bool false] 4, Sx.blk b10 [.int .i64 ((xs.length : Int))] 3, Sx.blk b11 [.string (Pc.catB xs)] 9, Sx.blk gb12 [.pointer (some ⟨g4, 0, none⟩)] 23, Sx.blk g4 [.string (s13_), .slice (A13_) (L13_.length) (c13_), .pointer (Pc.AT.ptr T13_)] 68, Pc.rowl (Φ7) 5 (A13_) (c13_) (L13_), Pc.lib (Φ7), Sx.blk b1 [.int .i64 (leave)] 3] ++ R) w) 14 #[true, true, true, true, true, false, false, true, false, false, false, false, false, false, false, false, false, false, false, false] [(6, .pointer (some ⟨b2, 0, none⟩)), (7, .pointer (some ⟨g4, 0, none⟩)), (8, .string (Pc.catB D5)), (10, .pointer (some ⟨b10, 0, none⟩)), (11, .pointer (some ⟨b11, 0, none⟩)), (47, .bool false), (50, undef)] ?_ (fun nd89 => ?_)
      ·
       clear h
       intro w h
       refine Sx.wy_two 5 8 rfl rfl (by kernel_rfl) ?_ ?_
       ·
        refine wl_skip rfl rfl ?_
        refine wl_nil ?_
        refine qn_wyl (by kernel_rfl) ?_ (nd86 _ h)
        exact ⟨rfl, rfl, rfl, rfl, rfl, rfl, rfl, rfl, trivial⟩
       ·
        refine wl_skip rfl rfl ?_
        refine wl_nil ?_
        refine qn_wyl (by kernel_rfl) ?_ (nd87 _ h)
        exact ⟨rfl, rfl, rfl, rfl, rfl, rfl, rfl, trivial⟩
      refine Sx.wy_two 5 7 rfl rfl (by kernel_rfl) ?_ ?_
      ·
       refine wl_skip rfl rfl ?_
       refine wl_nil ?_
       refine qn_wyl (by kernel_rfl) ?_ (nd88 _ h)
       exact ⟨rfl, rfl, rfl, rfl, rfl, rfl, rfl, trivial⟩
      ·
       refine wl_skip rfl rfl ?_
       refine wl_nil ?_
       refine qn_wyl (by kernel_rfl) ?_ (nd89 _ h)
       exact ⟨rfl, rfl, rfl, rfl, rfl, rfl, rfl, trivial⟩
    refine Sx.wy_haveS (fun w => Sx.St w0 F0 ([Sx.obj D_ (.deferred (some [])), Sx.blk b2 [.bool false] 4, Sx.blk b10 [.int .i64 ((xs.length : Int))] 3, Sx.blk b11 [.string (Pc.catB xs)] 9, Sx.blk gb12 [.pointer (some ⟨g4, 0, none⟩)] 23, Sx.blk g4 [.string (s13_), .slice (A13_) (L13_.length) (c13_), .pointer (Pc.AT.ptr T13_)] 68, Pc.rowl (Φ7) 5 (A13_) (c13_) (L13_), Pc.lib (Φ7), Sx.blk b1 [.int .i64 (leave)] 3] ++ R) w) 16 #[true, true, true, true, false, false, false, false, false, false, false, false, false, false, false, false, false, false, false, false] [(6, .pointer (some ⟨b2, 0, none⟩)), (7, .pointer (some ⟨g4, 0, none⟩)), (8, .string (Pc.catB D5)), (10, .pointer (some ⟨b10, 0, none⟩)), (11, .pointer (some ⟨b11, 0, none⟩)), (46, .bool (decide (((xs.length : Int) : Int) ≤ ((((Pc.AT.fl T13_).length : Nat) : Int)))))] ?_ (fun nd90 => ?_)
    ·
     clear h
     intro w h
     refine Sx.wy_one 4 rfl (by kernel_rfl) ?_
     ·
      refine wl_v rfl rfl (ov_move _ rfl) ?_
      refine wl_nil ?_
      refine qn_wyl (by kernel_rfl) ?_ (nd17 _ h)
      exact ⟨rfl, rfl, rfl, rfl, rfl, rfl, trivial⟩
    refine Sx.wy_haveS (fun w => Sx.St w0 F0 ([Sx.obj D_ (.deferred (some [])), Sx.blk b2 [.bool false] 4, Sx.blk b10 [.int .i64 ((xs.length : Int))] 3, Sx.blk b11 [.string (Pc.catB xs)] 9, Sx.blk gb12 [.pointer (some ⟨g4, 0, none⟩)] 23, Sx.blk g4 [.string (s13_), .slice (A13_) (L13_.length) (c13_), .pointer (Pc.AT.ptr T13_)] 68, Pc.rowl (Φ7) 5 (A13_) (c13_) (L13_), Pc.lib (Φ7), Sx.blk b1 [.int .i64 (leave)] 3] ++ R) w) 17 #[true, true, true, false, false, false, false, false, false, false, false, false, false, false, false, false, false, false, false, false] [(6, .pointer (some ⟨b2, 0, none⟩)), (7, .pointer (some ⟨g4, 0, none⟩)), (8, .string (Pc.catB D5)), (10, .pointer (some ⟨b10, 0, none⟩)), (11, .pointer (some ⟨b11, 0, none⟩)), (43, .int .i64 ((xs.length : Int))), (45, .int .i64 ((((Pc.AT.fl T13_).length : Nat) : Int)))] ?_ (fun nd91 => ?_)
    ·
     clear h
     intro w h
     refine Sx.wy_one 3 rfl (by kernel_rfl) ?_
     ·
      refine wl_v rfl rfl (ov_bin _ rfl rfl (binR_leq)) ?_
      refine wl_nil ?_
      refine qn_wyl (by kernel_rfl) ?_ (nd90 _ h)
      exact ⟨rfl, rfl, rfl, rfl, rfl, rfl, trivial⟩
    refine Sx.wy_haveS (fun w => Sx.St w0 F0 ([Sx.obj D_ (.deferred (some [])), Sx.blk b2 [.bool false] 4, Sx.blk b10 [.int .i64 ((xs.length : Int))] 3, Sx.blk b11 [.string (Pc.catB xs)] 9, Sx.blk gb12 [.pointer (some ⟨g4, 0, none⟩)] 23, Sx.blk g4 [.string (s13_), .slice (A13_) (L13_.length) (c13_), .pointer (Pc.AT.ptr T13_)] 68, Pc.rowl (Φ7) 5 (A13_) (c13_) (L13_), Pc.lib (Φ7), Sx.blk b1 [.int .i64 (leave)] 3] ++ R) w) 18 #[true, true, false, false, false, false, false, false, false, false, false, false, false, false, false, false, false, false, false, false] [(6, .pointer (some ⟨b2, 0, none⟩)), (7, .pointer (some ⟨g4, 0, none⟩)), (8, .string (Pc.catB D5)), (10, .pointer (some ⟨b10, 0, none⟩)), (11, .pointer (some ⟨b11, 0, none⟩)), (43, .int .i64 ((xs.length : Int))), (44, .pointer (some ⟨g4, 0, none⟩))] ?_ (fun nd92 => ?_)
    ·
     clear h
     intro w h
     refine Sx.wy_one 2 rfl (by kernel_rfl) ?_
     ·
      refine wl_call _ rfl rfl rfl ent20 (RD.Pieces_calls (R := [Sx.obj D_ (.deferred (some [])), Sx.blk b2 [.bool false] 4, Sx.blk b10 [.int .i64 ((xs.length : Int))] 3, Sx.blk b11 [.string (Pc.catB xs)] 9, Sx.blk gb12 [.pointer (some ⟨g4, 0, none⟩)] 23, Sx.blk g4 [.string (s13_), .slice (A13_) (L13_.length) (c13_), .pointer (Pc.AT.ptr T13_)] 68, Pc.rowl (Φ7) 5 (A13_) (c13_) (L13_), Pc.lib (Φ7), Sx.blk b1 [.int .i64 (leave)] 3] ++ R) g4 s13_ A13_ c13_ L13_ T13_  (by omega) (by omega) hl13_ ok13_.by_ ok13_.wf (by omega) (Pc.en_blk (i := 5) rfl) (Pc.en_rowl (i := 6) (j := 7) rfl rfl (fun W_ z_ => z_)) (Pc.en_at (j := 7) rfl ok13_.at_)  h) ?_
      rintro e_ w_ ⟨rfl, h⟩
      refine ⟨_, rfl, ?_⟩
      refine wl_nil ?_
      refine qn_wyl (by kernel_rfl) ?_ (nd91 _ h)
      exact ⟨rfl, rfl, rfl, rfl, rfl, rfl, rfl, trivial⟩
    refine Sx.wy_haveS (fun w => Sx.St w0 F0 ([Sx.obj D_ (.deferred (some [])), Sx.blk b2 [.bool false] 4, Sx.blk b10 [.int .i64 ((xs.length : Int))] 3, Sx.blk b11 [.string (Pc.catB xs)] 9, Sx.blk gb12 [.pointer (some ⟨g4, 0, none⟩)] 23, Sx.blk g4 [.string (s13_), .slice (A13_) (L13_.length) (c13_), .pointer (Pc.AT.ptr T13_)] 68, Pc.rowl (Φ7) 5 (A13_) (c13_) (L13_), Pc.lib (Φ7), Sx.blk b1 [.int .i64 (leave)] 3] ++ R) w) 18 #[false, true, true, false, false, false, false, false, false, false, false, false, false, false, false, false, false, false, false, false] [(6, .pointer (some ⟨b2, 0, none⟩)), (7, .pointer (some ⟨g4, 0, none⟩)), (8, .string (Pc.catB D5)), (10, .pointer (some ⟨b10, 0, none⟩)), (11, .pointer (some ⟨b11, 0, none⟩)), (45, .int .i64 ((((Pc.AT.fl T13_).length : Nat) : Int)))] ?_ (fun nd93 => ?_)
    ·
     clear h
     intro w h
     refine Sx.wy_one 0 rfl (by kernel_rfl) ?_
     ·
      refine wl_v rfl rfl (ov_loadb 2 _ h rfl rfl sh3 rfl) ?_
      refine wl_nil ?_
      refine qn_wyl (by kernel_rfl) ?_ (nd91 _ h)
      exact ⟨rfl, rfl, rfl, rfl, rfl, rfl, rfl, trivial⟩
    refine Sx.wy_haveS (fun w => Sx.St w0 F0 ([Sx.obj D_ (.deferred (some [])), Sx.blk b2 [.bool false] 4, Sx.blk b10 [.int .i64 ((xs.length : Int))] 3, Sx.blk b11 [.string (Pc.catB xs)] 9, Sx.blk gb12 [.pointer (some ⟨g4, 0, none⟩)] 23, Sx.blk g4 [.string (s13_), .slice (A13_) (L13_.length) (c13_), .pointer (Pc.AT.ptr T13_)] 68, Pc.rowl (Φ7) 5 (A13_) (c13_) (L13_), Pc.lib (Φ7), Sx.blk b1 [.int .i64 (leave)] 3] ++ R) w) 19 #[true, false, false, false, false, false, false, false, false, false, false, false, false, false, false, false, false, false, false, false] [(6, .pointer (some ⟨b2, 0, none⟩)), (7, .pointer (some ⟨g4, 0, none⟩)), (8, .string (Pc.catB D5)), (10, .pointer (some ⟨b10, 0, none⟩)), (11, .pointer (some ⟨b11, 0, none⟩)), (43, .int .i64 ((xs.length : Int)))] ?_ (fun nd94 => ?_)
    ·
     clear h
     intro w h
     refine Sx.wy_one 1 rfl (by kernel_rfl) ?_
     ·
      refine wl_v rfl rfl (ov_move _ rfl) ?_
      refine wl_nil ?_
      refine qn_wyl (by kernel_rfl) ?_ (nd92 _ h)
      exact ⟨rfl, rfl, rfl, rfl, rfl, rfl, rfl, trivial⟩
    refine Sx.wy_haveS (fun w => Sx.St w0 F0 ([Sx.obj D_ (.deferred (some [])), Sx.blk b2 [.bool false] 4, Sx.blk b10 [.int .i64 ((xs.length : Int))] 3, Sx.blk b11 [.string (Pc.catB xs)] 9, Sx.blk gb12 [.pointer (some ⟨g4, 0, none⟩)] 23, Sx.blk g4 [.string (s13_), .slice (A13_) (L13_.length) (c13_), .pointer (Pc.AT.ptr T13_)] 68, Pc.rowl (Φ7) 5 (A13_) (c13_) (L13_), Pc.lib (Φ7), Sx.blk b1 [.int .i64 (leave)] 3] ++ R) w) 19 #[false, true, false, false, false, false, false, false, false, false, false, false, false, false, false, false, false, false, false, false] [(6, .pointer (some ⟨b2, 0, none⟩)), (7, .pointer (some ⟨g4, 0, none⟩)), (8, .string (Pc.catB D5)), (10, .pointer (some ⟨b10, 0, none⟩)), (11, .pointer (some ⟨b11, 0, none⟩)), (44, .pointer (some ⟨g4, 0, none⟩))] ?_ (fun nd95 => ?_)
    ·
     clear h
     intro w h
     refine Sx.wy_two 0 2 rfl rfl (by kernel_rfl) ?_ ?_
     ·
      refine wl_v rfl rfl (ov_loadb 2 _ h rfl rfl sh3 rfl) ?_
      refine wl_nil ?_
      refine qn_wyl (by kernel_rfl) ?_ (nd92 _ h)
      exact ⟨rfl, rfl, rfl, rfl, rfl, rfl, rfl, trivial⟩
     ·
      refine wl_call _ rfl rfl rfl ent20 (RD.Pieces_calls (R := [Sx.obj D_ (.deferred (some [])), Sx.blk b2 [.bool false] 4, Sx.blk b10 [.int .i64 ((xs.length : Int))] 3, Sx.blk b11 [.string (Pc.catB xs)] 9, Sx.blk gb12 [.pointer (some ⟨g4, 0, none⟩)] 23, Sx.blk g4 [.string (s13_), .slice (A13_) (L13_.length) (c13_), .pointer (Pc.AT.ptr T13_)] 68, Pc.rowl (Φ7) 5 (A13_) (c13_) (L13_), Pc.lib (Φ7), Sx.blk b1 [.int .i64 (leave)] 3] ++ R) g4 s13_ A13_ c13_ L13_ T13_  (by omega) (by omega) hl13_ ok13_.by_ ok13_.wf (by omega) (Pc.en_blk (i := 5) rfl) (Pc.en_rowl (i := 6) (j := 7) rfl rfl (fun W_ z_ => z_)) (Pc.en_at (j := 7) rfl ok13_.at_)  h) ?_
      rintro e_ w_ ⟨rfl, h⟩
      refine ⟨_, rfl, ?_⟩
      refine wl_nil ?_
      refine qn_wyl (by kernel_rfl) ?_ (nd93 _ h)
      exact ⟨rfl, rfl, rfl, rfl, rfl, rfl, trivial⟩
    refine Sx.wy_two 0 1 rfl rfl (by kernel_rfl) ?_ ?_
    ·
     refine wl_v rfl rfl (ov_loadb 2 _ h rfl rfl sh3 rfl) ?_
     refine wl_nil ?_
     refine qn_wyl (by kernel_rfl) ?_ (nd94 _ h)
     exact ⟨rfl, rfl, rfl, rfl, rfl, rfl, trivial⟩
    ·
     refine wl_v rfl rfl (ov_move _ rfl) ?_
     refine wl_nil ?_
     refine qn_wyl (by kernel_rfl) ?_ (nd95 _ h)
     exact ⟨rfl, rfl, rfl, rfl, rfl, rfl, trivial⟩
   ·
    refine Sx.ci_skip ?_
    refine Sx.qi_then ?_
    refine Sx.ci_seq ?_
    refine Sx.ci_drawy Sx.lax_wide (fun _ _ h_ => by cases (And.left h_)) (by kernel_rfl) (by kernel_rfl) ?_
    replace h := st_drew h
    refine Sx.wy_start (l2 := #[false, false, false, false, false, false, false, false, false, false]) (by kernel_rfl) ?_
    refine Sx.wy_sub (f2 := [(6, .pointer (some ⟨b2, 0, none⟩)), (7, .pointer (some ⟨g4, 0, none⟩)), (8, .string (Pc.catB D5)), (10, .pointer (some ⟨b10, 0, none⟩)), (11, .pointer (some ⟨b11, 0, none⟩))]) ⟨rfl, rfl, rfl, rfl, rfl, trivial⟩ ?_
    refine Sx.wy_haveS (fun w => Sx.St w0 F0 ([Sx.obj D_ (.deferred (some [])), Sx.blk b2 [.bool false] 4, Sx.blk b10 [.int .i64 ((xs.length : Int))] 3, Sx.blk b11 [.string (Pc.catB xs)] 9, Sx.blk gb12 [.pointer (some ⟨g4, 0, none⟩)] 23, Sx.blk g4 [.string (s13_), .slice (A13_) (L13_.length) (c13_), .pointer (Pc.AT.ptr T13_)] 68, Pc.rowl (Φ7) 5 (A13_) (c13_) (L13_), Pc.lib (Φ7), Sx.blk b1 [.int .i64 (leave)] 3] ++ R) w) 5 #[true, true, true, true, true, false, false, false, false, false] [(6, .pointer (some ⟨b2, 0, none⟩)), (8, .string (Pc.catB D5)), (11, .pointer (some ⟨b11, 0, none⟩)), (66, .bool (decide (((xs.length : Int) : Int) = ((((Pc.AT.fl T13_).length : Nat) : Int)))))] ?_ (fun nd96 => ?_)
    ·
     clear h
     intro w h
     refine Sx.wy_split 66 rfl (fun c97 => ?_) (fun c97 => ?_)
     ·
      refine Sx.wy_sub (f2 := [(6, .pointer (some ⟨b2, 0, none⟩)), (8, .string (Pc.catB D5)), (11, .pointer (some ⟨b11, 0, none⟩)), (66, .bool true)]) ⟨rfl, rfl, rfl, rfl, trivial⟩ ?_
      refine Sx.wy_haveS (fun w => Sx.St w0 F0 ([Sx.obj D_ (.deferred (some [])), Sx.blk b2 [.bool (decide ((Pc.catB xs) = (Pc.catB D5)))] 4, Sx.blk b10 [.int .i64 ((xs.length : Int))] 3, Sx.blk b11 [.string (Pc.catB xs)] 9, Sx.blk gb12 [.pointer (some ⟨g4, 0, none⟩)] 23, Sx.blk g4 [.string (s13_), .slice (A13_) (L13_.length) (c13_), .pointer (Pc.AT.ptr T13_)] 68, Pc.rowl (Φ7) 5 (A13_) (c13_) (L13_), Pc.lib (Φ7), Sx.blk b1 [.int .i64 (leave)] 3] ++ R) w) 0 #[true, true, true, true, true, true, true, true, true, true] [(6, .pointer (some ⟨b2, 0, none⟩))] ?_ (fun nd98 => ?_)
      ·
       clear h
       intro w h
       refine Sx.wy_done (by kernel_rfl) ?_
       refine Sx.qi_then ?_
       refine Sx.ci_ret ?_
       have hD_ := st_obj (i := 0) h rfl
       replace h := st_putobj (.deferred none) h
       replace h : Sx.St w0 F0 ([Sx.obj D_ (.deferred none), Sx.blk b2 [.bool (decide ((Pc.catB xs) = (Pc.catB D5)))] 4, Sx.blk b10 [.int .i64 ((xs.length : Int))] 3, Sx.blk b11 [.string (Pc.catB xs)] 9, Sx.blk gb12 [.pointer (some ⟨g4, 0, none⟩)] 23, Sx.blk g4 [.string (s13_), .slice (A13_) (L13_.length) (c13_), .pointer (Pc.AT.ptr T13_)] 68, Pc.rowl (Φ7) 5 (A13_) (c13_) (L13_), Pc.lib (Φ7), Sx.blk b1 [.int .i64 (leave)] 3] ++ R) _ := h
       have hend_ := h
       replace h := st_selT [false, false, false, false, false, false, false, false, false] h
       refine qn_retD [_] hD_ ⟨⟨_, rfl, Sx.loadVar1 sh4 (by rw [Sx.blk_cell hend_ (i := 1) rfl]; rfl)⟩, trivial⟩ ?_
       have hCD_ : Pc.catB D5 = Pc.catB (Pc.chs s13_ L13_ (Pc.AT.fl T13_)) := by rw [ok13_.eD]
       have hDl_ : D5.length = (Pc.chs s13_ L13_ (Pc.AT.fl T13_)).length := by rw [ok13_.eD]
       have hfl_ := Pc.tok_len ok13_
       have hx1_ : Pc.catB xs = Pc.catB D5 := by rw [hS, hCD_]
       have hx2_ : xs.length = D5.length := by rw [hS, hDl_]
       have b_ : (decide ((Pc.catB xs) = (Pc.catB D5))) = true := by first | (apply decide_eq_true; omega) | (apply decide_eq_true; exact hx7_) | (apply decide_eq_true; exact hx1_) | (apply decide_eq_true; rw [hx1_, Pc.ex_all]) | (simp_all; done)
       exact ⟨congrArg (fun z => Ending.returned (Value.bool z)) b_, h⟩
      refine Sx.wy_haveS (fun w => Sx.St w0 F0 ([Sx.obj D_ (.deferred (some [])), Sx.blk b2 [.bool false] 4, Sx.blk b10 [.int .i64 ((xs.length : Int))] 3, Sx.blk b11 [.string (Pc.catB xs)] 9, Sx.blk gb12 [.pointer (some ⟨g4, 0, none⟩)] 23, Sx.blk g4 [.string (s13_), .slice (A13_) (L13_.length) (c13_), .pointer (Pc.AT.ptr T13_)] 68, Pc.rowl (Φ7) 5 (A13_) (c13_) (L13_), Pc.lib (Φ7), Sx.blk b1 [.int .i64 (leave)] 3] ++ R) w) 1 #[true, true, true, true, true, true, true, true, true, false] [(6, .pointer (some ⟨b2, 0, none⟩)), (70, .bool (decide ((Pc.catB xs) = (Pc.catB D5))))] ?_ (fun nd99 => ?_)
      ·
       clear h
       intro w h
       refine Sx.wy_one 9 rfl (by kernel_rfl) ?_
       ·
        refine wl_storeb 1 _ [.bool (decide ((Pc.catB xs) = (Pc.catB D5)))] h rfl rfl rfl rfl rfl rfl sh4 rfl rfl (fun _ h => ?_)
        refine wl_nil ?_
        refine qn_wyl (by kernel_rfl) ?_ (nd98 _ h)
        exact ⟨rfl, trivial⟩
      refine Sx.wy_haveS (fun w => Sx.St w0 F0 ([Sx.obj D_ (.deferred (some [])), Sx.blk b2 [.bool false] 4, Sx.blk b10 [.int .i64 ((xs.length : Int))] 3, Sx.blk b11 [.string (Pc.catB xs)] 9, Sx.blk gb12 [.pointer (some ⟨g4, 0, none⟩)] 23, Sx.blk g4 [.string (s13_), .slice (A13_) (L13_.length) (c13_), .pointer (Pc.AT.ptr T13_)] 68, Pc.rowl (Φ7) 5 (A13_) (c13_) (L13_), Pc.lib (Φ7), Sx.blk b1 [.int .i64 (leave)] 3] ++ R) w) 2 #[true, true, true, true, true, true, true, true, false, false] [(6, .pointer (some ⟨b2, 0, none⟩)), (66, .bool true), (69, .bool (decide ((Pc.catB xs) = (Pc.catB D5))))] ?_ (fun nd100 => ?_)
      ·
       clear h
       intro w h
       refine Sx.wy_one 8 rfl (by kernel_rfl) ?_
       ·
        refine wl_v rfl rfl (ov_pick_true _ rfl rfl) ?_
        refine wl_nil ?_
        refine qn_wyl (by kernel_rfl) ?_ (nd99 _ h)
        exact ⟨rfl, rfl, trivial⟩
      refine Sx.wy_haveS (fun w => Sx.St w0 F0 ([Sx.obj D_ (.deferred (some [])), Sx.blk b2 [.bool false] 4, Sx.blk b10 [.int .i64 ((xs.length : Int))] 3, Sx.blk b11 [.string (Pc.catB xs)] 9, Sx.blk gb12 [.pointer (some ⟨g4, 0, none⟩)] 23, Sx.blk g4 [.string (s13_), .slice (A13_) (L13_.length) (c13_), .pointer (Pc.AT.ptr T13_)] 68, Pc.rowl (Φ7) 5 (A13_) (c13_) (L13_), Pc.lib (Φ7), Sx.blk b1 [.int .i64 (leave)] 3] ++ R) w) 3 #[true, true, true, true, true, true, true, false, false, false] [(6, .pointer (some ⟨b2, 0, none⟩)), (66, .bool true), (67, .string (Pc.catB xs)), (68, .string (Pc.catB D5))] ?_ (fun nd101 => ?_)
      ·
       clear h
       intro w h
       refine Sx.wy_one 7 rfl (by kernel_rfl) ?_
       ·
        refine wl_v rfl rfl (ov_bin _ rfl rfl (binR_eqs)) ?_
        refine wl_nil ?_
        refine qn_wyl (by kernel_rfl) ?_ (nd100 _ h)
        exact ⟨rfl, rfl, rfl, trivial⟩
      refine Sx.wy_haveS (fun w => Sx.St w0 F0 ([Sx.obj D_ (.deferred (some [])), Sx.blk b2 [.bool false] 4, Sx.blk b10 [.int .i64 ((xs.length : Int))] 3, Sx.blk b11 [.string (Pc.catB xs)] 9, Sx.blk gb12 [.pointer (some ⟨g4, 0, none⟩)] 23, Sx.blk g4 [.string (s13_), .slice (A13_) (L13_.length) (c13_), .pointer (Pc.AT.ptr T13_)] 68, Pc.rowl (Φ7) 5 (A13_) (c13_) (L13_), Pc.lib (Φ7), Sx.blk b1 [.int .i64 (leave)] 3] ++ R) w) 4 #[true, true, true, true, true, true, false, false, false, false] [(6, .pointer (some ⟨b2, 0, none⟩)), (8, .string (Pc.catB D5)), (66, .bool true), (67, .string (Pc.catB xs))] ?_ (fun nd102 => ?_)
      ·
       clear h
       intro w h
       refine Sx.wy_one 6 rfl (by kernel_rfl) ?_
       ·
        refine wl_v rfl rfl (ov_move _ rfl) ?_
        refine wl_nil ?_
        refine qn_wyl (by kernel_rfl) ?_ (nd101 _ h)
        exact ⟨rfl, rfl, rfl, rfl, trivial⟩
      refine Sx.wy_haveS (fun w => Sx.St w0 F0 ([Sx.obj D_ (.deferred (some [])), Sx.blk b2 [.bool false] 4, Sx.blk b10 [.int .i64 ((xs.length : Int))] 3, Sx.blk b11 [.string (Pc.catB xs)] 9, Sx.blk gb12 [.pointer (some ⟨g4, 0, none⟩)] 23, Sx.blk g4 [.string (s13_), .slice (A13_) (L13_.length) (c13_), .pointer (Pc.AT.ptr T13_)] 68, Pc.rowl (Φ7) 5 (A13_) (c13_) (L13_), Pc.lib (Φ7), Sx.blk b1 [.int .i64 (leave)] 3] ++ R) w) 4 #[true, true, true, true, true, false, true, false, false, false] [(6, .pointer (some ⟨b2, 0, none⟩)), (11, .pointer (some ⟨b11, 0, none⟩)), (66, .bool true), (68, .string (Pc.catB D5))] ?_ (fun nd103 => ?_)
      ·
       clear h
       intro w h
       refine Sx.wy_one 5 rfl (by kernel_rfl) ?_
       ·
        refine wl_v rfl rfl (ov_loadb 3 _ h rfl rfl sh9 rfl) ?_
        refine wl_nil ?_
        refine qn_wyl (by kernel_rfl) ?_ (nd101 _ h)
        exact ⟨rfl, rfl, rfl, rfl, trivial⟩
      refine Sx.wy_two 5 6 rfl rfl (by kernel_rfl) ?_ ?_
      ·
       refine wl_v rfl rfl (ov_loadb 3 _ h rfl rfl sh9 rfl) ?_
       refine wl_nil ?_
       refine qn_wyl (by kernel_rfl) ?_ (nd102 _ h)
       exact ⟨rfl, rfl, rfl, rfl, trivial⟩
      ·
       refine wl_v rfl rfl (ov_move _ rfl) ?_
       refine wl_nil ?_
       refine qn_wyl (by kernel_rfl) ?_ (nd103 _ h)
       exact ⟨rfl, rfl, rfl, rfl, trivial⟩
     ·
      refine Sx.wy_sub (f2 := [(6, .pointer (some ⟨b2, 0, none⟩)), (8, .string (Pc.catB D5)), (11, .pointer (some ⟨b11, 0, none⟩)), (66, .bool false)]) ⟨rfl, rfl, rfl, rfl, trivial⟩ ?_
      refine Sx.wy_haveS (fun w => Sx.St w0 F0 ([Sx.obj D_ (.deferred (some [])), Sx.blk b2 [.bool false] 4, Sx.blk b10 [.int .i64 ((xs.length : Int))] 3, Sx.blk b11 [.string (Pc.catB xs)] 9, Sx.blk gb12 [.pointer (some ⟨g4, 0, none⟩)] 23, Sx.blk g4 [.string (s13_), .slice (A13_) (L13_.length) (c13_), .pointer (Pc.AT.ptr T13_)] 68, Pc.rowl (Φ7) 5 (A13_) (c13_) (L13_), Pc.lib (Φ7), Sx.blk b1 [.int .i64 (leave)] 3] ++ R) w) 0 #[true, true, true, true, true, true, true, true, true, true] [(6, .pointer (some ⟨b2, 0, none⟩))] ?_ (fun nd104 => ?_)
      ·
       clear h
       intro w h
       refine Sx.wy_done (by kernel_rfl) ?_
       refine Sx.qi_then ?_
       refine Sx.ci_ret ?_
       have hD_ := st_obj (i := 0) h rfl
       replace h := st_putobj (.deferred none) h
       replace h : Sx.St w0 F0 ([Sx.obj D_ (.deferred none), Sx.blk b2 [.bool false] 4, Sx.blk b10 [.int .i64 ((xs.length : Int))] 3, Sx.blk b11 [.string (Pc.catB xs)] 9, Sx.blk gb12 [.pointer (some ⟨g4, 0, none⟩)] 23, Sx.blk g4 [.string (s13_), .slice (A13_) (L13_.length) (c13_), .pointer (Pc.AT.ptr T13_)] 68, Pc.rowl (Φ7) 5 (A13_) (c13_) (L13_), Pc.lib (Φ7), Sx.blk b1 [.int .i64 (leave)] 3] ++ R) _ := h
       have hend_ := h
       replace h := st_selT [false, false, false, false, false, false, false, false, false] h
       refine qn_retD [_] hD_ ⟨⟨_, rfl, Sx.loadVar1 sh4 (by rw [Sx.blk_cell hend_ (i := 1) rfl]; rfl)⟩, trivial⟩ ?_
       have hCD_ : Pc.catB D5 = Pc.catB (Pc.chs s13_ L13_ (Pc.AT.fl T13_)) := by rw [ok13_.eD]
       have hDl_ : D5.length = (Pc.chs s13_ L13_ (Pc.AT.fl T13_)).length := by rw [ok13_.eD]
       have hfl_ := Pc.tok_len ok13_
       have hx1_ : Pc.catB xs = Pc.catB D5 := by rw [hS, hCD_]
       have hx2_ : xs.length = D5.length := by rw [hS, hDl_]
       exfalso
       first | omega | contradiction | (simp_all; done) | (simp_all; omega)
      refine Sx.wy_haveS (fun w => Sx.St w0 F0 ([Sx.obj D_ (.deferred (some [])), Sx.blk b2 [.bool false] 4, Sx.blk b10 [.int .i64 ((xs.length : Int))] 3, Sx.blk b11 [.string (Pc.catB xs)] 9, Sx.blk gb12 [.pointer (some ⟨g4, 0, none⟩)] 23, Sx.blk g4 [.string (s13_), .slice (A13_) (L13_.length) (c13_), .pointer (Pc.AT.ptr T13_)] 68, Pc.rowl (Φ7) 5 (A13_) (c13_) (L13_), Pc.lib (Φ7), Sx.blk b1 [.int .i64 (leave)] 3] ++ R) w) 1 #[true, true, true, true, true, true, true, true, true, false] [(6, .pointer (some ⟨b2, 0, none⟩)), (70, .bool false)] ?_ (fun nd105 => ?_)
      ·
       clear h
       intro w h
       refine Sx.wy_one 9 rfl (by kernel_rfl) ?_
       ·
        refine wl_storeb 1 _ [.bool false] h rfl rfl rfl rfl rfl rfl sh4 rfl rfl (fun _ h => ?_)
        refine wl_nil ?_
        refine qn_wyl (by kernel_rfl) ?_ (nd104 _ h)
        exact ⟨rfl, trivial⟩
      refine Sx.wy_haveS (fun w => Sx.St w0 F0 ([Sx.obj D_ (.deferred (some [])), Sx.blk b2 [.bool false] 4, Sx.blk b10 [.int .i64 ((xs.length : Int))] 3, Sx.blk b11 [.string (Pc.catB xs)] 9, Sx.blk gb12 [.pointer (some ⟨g4, 0, none⟩)] 23, Sx.blk g4 [.string (s13_), .slice (A13_) (L13_.length) (c13_), .pointer (Pc.AT.ptr T13_)] 68, Pc.rowl (Φ7) 5 (A13_) (c13_) (L13_), Pc.lib (Φ7), Sx.blk b1 [.int .i64 (leave)] 3] ++ R) w) 2 #[true, true, true, true, true, true, true, true, false, false] [(6, .pointer (some ⟨b2, 0, none⟩)), (66, .bool false), (69, undef)] ?_ (fun nd106 => ?_)
      ·
       clear h
       intro w h
       refine Sx.wy_one 8 rfl (by kernel_rfl) ?_
       ·
        refine wl_v rfl rfl (ov_pick_false _ rfl rfl) ?_
        refine wl_nil ?_
        refine qn_wyl (by kernel_rfl) ?_ (nd105 _ h)
        exact ⟨rfl, rfl, trivial⟩
      refine Sx.wy_haveS (fun w => Sx.St w0 F0 ([Sx.obj D_ (.deferred (some [])), Sx.blk b2 [.bool false] 4, Sx.blk b10 [.int .i64 ((xs.length : Int))] 3, Sx.blk b11 [.string (Pc.catB xs)] 9, Sx.blk gb12 [.pointer (some ⟨g4, 0, none⟩)] 23, Sx.blk g4 [.string (s13_), .slice (A13_) (L13_.length) (c13_), .pointer (Pc.AT.ptr T13_)] 68, Pc.rowl (Φ7) 5 (A13_) (c13_) (L13_), Pc.lib (Φ7), Sx.blk b1 [.int .i64 (leave)] 3] ++ R) w) 3 #[true, true, true, true, true, true, true, false, false, false] [(6, .pointer (some ⟨b2, 0, none⟩)), (66, .bool false), (67, undef), (68, undef)] ?_ (fun nd107 => ?_)
      ·
       clear h
       intro w h
       refine Sx.wy_one 7 rfl (by kernel_rfl) ?_
       ·
        refine wl_skip rfl rfl ?_
        refine wl_nil ?_
        refine qn_wyl (by kernel_rfl) ?_ (nd106 _ h)
        exact ⟨rfl, rfl, rfl, trivial⟩
      refine Sx.wy_haveS (fun w => Sx.St w0 F0 ([Sx.obj D_ (.deferred (some [])), Sx.blk b2 [.bool false] 4, Sx.blk b10 [.int .i64 ((xs.length : Int))] 3, Sx.blk b11 [.string (Pc.catB xs)] 9, Sx.blk gb12 [.pointer (some ⟨g4, 0, none⟩)] 23, Sx.blk g4 [.string (s13_), .slice (A13_) (L13_.length) (c13_), .pointer (Pc.AT.ptr T13_)] 68, Pc.rowl (Φ7) 5 (A13_) (c13_) (L13_), Pc.lib (Φ7), Sx.blk b1 [.int .i64 (leave)] 3] ++ R) w) 4 #[true, true, true, true, true, true, false, false, false, false] [(6, .pointer (some ⟨b2, 0, none⟩)), (8, .string (Pc.catB D5)), (66, .bool false), (67, undef)] ?_ (fun nd108 => ?_)
      ·
       clear h
       intro w h
       refine Sx.wy_one 6 rfl (by kernel_rfl) ?_
       ·
        refine wl_skip rfl rfl ?_
        refine wl_nil ?_
        refine qn_wyl (by kernel_rfl) ?_ (nd107 _ h)
        exact ⟨rfl, rfl, rfl, rfl, trivial⟩
      refine Sx.wy_haveS (fun w => Sx.St w0 F0 ([Sx.obj D_ (.deferred (some [])), Sx.blk b2 [.bool false] 4, Sx.blk b10 [.int .i64 ((xs.length : Int))] 3, Sx.blk b11 [.string (Pc.catB xs)] 9, Sx.blk gb12 [.pointer (some ⟨g4, 0, none⟩)] 23, Sx.blk g4 [.string (s13_), .slice (A13_) (L13_.length) (c13_), .pointer (Pc.AT.ptr T13_)] 68, Pc.rowl (Φ7) 5 (A13_) (c13_) (L13_), Pc.lib (Φ7), Sx.blk b1 [.int .i64 (leave)] 3] ++ R) w) 4 #[true, true, true, true, true, false, true, false, false, false] [(6, .pointer (some ⟨b2, 0, none⟩)), (11, .pointer (some ⟨b11, 0, none⟩)), (66, .bool false), (68, undef)] ?_ (fun nd109 => ?_)
      ·
       clear h
       intro w h
       refine Sx.wy_one 5 rfl (by kernel_rfl) ?_
       ·
        refine wl_skip rfl rfl ?_
        refine wl_nil ?_
        refine qn_wyl (by kernel_rfl) ?_ (nd107 _ h)
        exact ⟨rfl, rfl, rfl, rfl, trivial⟩
      refine Sx.wy_two 5 6 rfl rfl (by kernel_rfl) ?_ ?_
      ·
       refine wl_skip rfl rfl ?_
       refine wl_nil ?_
       refine qn_wyl (by kernel_rfl) ?_ (nd108 _ h)
       exact ⟨rfl, rfl, rfl, rfl, trivial⟩
      ·
       refine wl_skip rfl rfl ?_
       refine wl_nil ?_
       refine qn_wyl (by kernel_rfl) ?_ (nd109 _ h)
       exact ⟨rfl, rfl, rfl, rfl, trivial⟩
    refine Sx.wy_haveS (fun w => Sx.St w0 F0 ([Sx.obj D_ (.deferred (some [])), Sx.blk b2 [.bool false] 4, Sx.blk b10 [.int .i64 ((xs.length : Int))] 3, Sx.blk b11 [.string (Pc.catB xs)] 9, Sx.blk gb12 [.pointer (some ⟨g4, 0, none⟩)] 23, Sx.blk g4 [.string (s13_), .slice (A13_) (L13_.length) (c13_), .pointer (Pc.AT.ptr T13_)] 68, Pc.rowl (Φ7) 5 (A13_) (c13_) (L13_), Pc.lib (Φ7), Sx.blk b1 [.int .i64 (leave)] 3] ++ R) w) 6 #[true, true, true, true, false, false, false, false, false, false] [(6, .pointer (some ⟨b2, 0, none⟩)), (8, .string (Pc.catB D5)), (11, .pointer (some ⟨b11, 0, none⟩)), (65, .bool (decide (((xs.length : Int) : Int) = ((((Pc.AT.fl T13_).length : Nat) : Int)))))] ?_ (fun nd110 => ?_)
    ·
     clear h
     intro w h
     refine Sx.wy_one 4 rfl (by kernel_rfl) ?_
     ·
      refine wl_v rfl rfl (ov_move _ rfl) ?_
      refine wl_nil ?_
      refine qn_wyl (by kernel_rfl) ?_ (nd96 _ h)
      exact ⟨rfl, rfl, rfl, rfl, trivial⟩
    refine Sx.wy_haveS (fun w => Sx.St w0 F0 ([Sx.obj D_ (.deferred (some [])), Sx.blk b2 [.bool false] 4, Sx.blk b10 [.int .i64 ((xs.length : Int))] 3, Sx.blk b11 [.string (Pc.catB xs)] 9, Sx.blk gb12 [.pointer (some ⟨g4, 0, none⟩)] 23, Sx.blk g4 [.string (s13_), .slice (A13_) (L13_.length) (c13_), .pointer (Pc.AT.ptr T13_)] 68, Pc.rowl (Φ7) 5 (A13_) (c13_) (L13_), Pc.lib (Φ7), Sx.blk b1 [.int .i64 (leave)] 3] ++ R) w) 7 #[true, true, true, false, false, false, false, false, false, false] [(6, .pointer (some ⟨b2, 0, none⟩)), (8, .string (Pc.catB D5)), (11, .pointer (some ⟨b11, 0, none⟩)), (62, .int .i64 ((xs.length : Int))), (64, .int .i64 ((((Pc.AT.fl T13_).length : Nat) : Int)))] ?_ (fun nd111 => ?_)
    ·
     clear h
     intro w h
     refine Sx.wy_one 3 rfl (by kernel_rfl) ?_
     ·
      refine wl_v rfl rfl (ov_bin _ rfl rfl (binR_eql)) ?_
      refine wl_nil ?_
      refine qn_wyl (by kernel_rfl) ?_ (nd110 _ h)
      exact ⟨rfl, rfl, rfl, rfl, trivial⟩
    refine Sx.wy_haveS (fun w => Sx.St w0 F0 ([Sx.obj D_ (.deferred (some [])), Sx.blk b2 [.bool false] 4, Sx.blk b10 [.int .i64 ((xs.length : Int))] 3, Sx.blk b11 [.string (Pc.catB xs)] 9, Sx.blk gb12 [.pointer (some ⟨g4, 0, none⟩)] 23, Sx.blk g4 [.string (s13_), .slice (A13_) (L13_.length) (c13_), .pointer (Pc.AT.ptr T13_)] 68, Pc.rowl (Φ7) 5 (A13_) (c13_) (L13_), Pc.lib (Φ7), Sx.blk b1 [.int .i64 (leave)] 3] ++ R) w) 8 #[true, true, false, false, false, false, false, false, false, false] [(6, .pointer (some ⟨b2, 0, none⟩)), (8, .string (Pc.catB D5)), (11, .pointer (some ⟨b11, 0, none⟩)), (62, .int .i64 ((xs.length : Int))), (63, .pointer (some ⟨g4, 0, none⟩))] ?_ (fun nd112 => ?_)
    ·
     clear h
     intro w h
     refine Sx.wy_one 2 rfl (by kernel_rfl) ?_
     ·
      refine wl_call _ rfl rfl rfl ent20 (RD.Pieces_calls (R := [Sx.obj D_ (.deferred (some [])), Sx.blk b2 [.bool false] 4, Sx.blk b10 [.int .i64 ((xs.length : Int))] 3, Sx.blk b11 [.string (Pc.catB xs)] 9, Sx.blk gb12 [.pointer (some ⟨g4, 0, none⟩)] 23, Sx.blk g4 [.string (s13_), .slice (A13_) (L13_.length) (c13_), .pointer (Pc.AT.ptr T13_)] 68, Pc.rowl (Φ7) 5 (A13_) (c13_) (L13_), Pc.lib (Φ7), Sx.blk b1 [.int .i64 (leave)] 3] ++ R) g4 s13_ A13_ c13_ L13_ T13_  (by omega) (by omega) hl13_ ok13_.by_ ok13_.wf (by omega) (Pc.en_blk (i := 5) rfl) (Pc.en_rowl (i := 6) (j := 7) rfl rfl (fun W_ z_ => z_)) (Pc.en_at (j := 7) rfl ok13_.at_)  h) ?_
      rintro e_ w_ ⟨rfl, h⟩
      refine ⟨_, rfl, ?_⟩
      refine wl_nil ?_
      refine qn_wyl (by kernel_rfl) ?_ (nd111 _ h)
      exact ⟨rfl, rfl, rfl, rfl, rfl, trivial⟩
    refine Sx.wy_haveS (fun w => Sx.St w0 F0 ([Sx.obj D_ (.deferred (some [])), Sx.blk b2 [.bool false] 4, Sx.blk b10 [.int .i64 ((xs.length : Int))] 3, Sx.blk b11 [.string (Pc.catB xs)] 9, Sx.blk gb12 [.pointer (some ⟨g4, 0, none⟩)] 23, Sx.blk g4 [.string (s13_), .slice (A13_) (L13_.length) (c13_), .pointer (Pc.AT.ptr T13_)] 68, Pc.rowl (Φ7) 5 (A13_) (c13_) (L13_), Pc.lib (Φ7), Sx.blk b1 [.int .i64 (leave)] 3] ++ R) w) 8 #[false, true, true, false, false, false, false, false, false, false] [(6, .pointer (some ⟨b2, 0, none⟩)), (8, .string (Pc.catB D5)), (10, .pointer (some ⟨b10, 0, none⟩)), (11, .pointer (some ⟨b11, 0, none⟩)), (64, .int .i64 ((((Pc.AT.fl T13_).length : Nat) : Int)))] ?_ (fun nd113 => ?_)
    ·
     clear h
     intro w h
     refine Sx.wy_one 0 rfl (by kernel_rfl) ?_
     ·
      refine wl_v rfl rfl (ov_loadb 2 _ h rfl rfl sh3 rfl) ?_
      refine wl_nil ?_
      refine qn_wyl (by kernel_rfl) ?_ (nd111 _ h)
      exact ⟨rfl, rfl, rfl, rfl, rfl, trivial⟩
    refine Sx.wy_haveS (fun w => Sx.St w0 F0 ([Sx.obj D_ (.deferred (some [])), Sx.blk b2 [.bool false] 4, Sx.blk b10 [.int .i64 ((xs.length : Int))] 3, Sx.blk b11 [.string (Pc.catB xs)] 9, Sx.blk gb12 [.pointer (some ⟨g4, 0, none⟩)] 23, Sx.blk g4 [.string (s13_), .slice (A13_) (L13_.length) (c13_), .pointer (Pc.AT.ptr T13_)] 68, Pc.rowl (Φ7) 5 (A13_) (c13_) (L13_), Pc.lib (Φ7), Sx.blk b1 [.int .i64 (leave)] 3] ++ R) w) 9 #[true, false, false, false, false, false, false, false, false, false] [(6, .pointer (some ⟨b2, 0, none⟩)), (7, .pointer (some ⟨g4, 0, none⟩)), (8, .string (Pc.catB D5)), (11, .pointer (some ⟨b11, 0, none⟩)), (62, .int .i64 ((xs.length : Int)))] ?_ (fun nd114 => ?_)
    ·
     clear h
     intro w h
     refine Sx.wy_one 1 rfl (by kernel_rfl) ?_
     ·
      refine wl_v rfl rfl (ov_move _ rfl) ?_
      refine wl_nil ?_
      refine qn_wyl (by kernel_rfl) ?_ (nd112 _ h)
      exact ⟨rfl, rfl, rfl, rfl, rfl, trivial⟩
    refine Sx.wy_haveS (fun w => Sx.St w0 F0 ([Sx.obj D_ (.deferred (some [])), Sx.blk b2 [.bool false] 4, Sx.blk b10 [.int .i64 ((xs.length : Int))] 3, Sx.blk b11 [.string (Pc.catB xs)] 9, Sx.blk gb12 [.pointer (some ⟨g4, 0, none⟩)] 23, Sx.blk g4 [.string (s13_), .slice (A13_) (L13_.length) (c13_), .pointer (Pc.AT.ptr T13_)] 68, Pc.rowl (Φ7) 5 (A13_) (c13_) (L13_), Pc.lib (Φ7), Sx.blk b1 [.int .i64 (leave)] 3] ++ R) w) 9 #[false, true, false, false, false, false, false, false, false, false] [(6, .pointer (some ⟨b2, 0, none⟩)), (8, .string (Pc.catB D5)), (10, .pointer (some ⟨b10, 0, none⟩)), (11, .pointer (some ⟨b11, 0, none⟩)), (63, .pointer (some ⟨g4, 0, none⟩))] ?_ (fun nd115 => ?_)
    ·
     clear h
     intro w h
     refine Sx.wy_two 0 2 rfl rfl (by kernel_rfl) ?_ ?_
     ·
      refine wl_v rfl rfl (ov_loadb 2 _ h rfl rfl sh3 rfl) ?_
      refine wl_nil ?_
      refine qn_wyl (by kernel_rfl) ?_ (nd112 _ h)
      exact ⟨rfl, rfl, rfl, rfl, rfl, trivial⟩
     ·
      refine wl_call _ rfl rfl rfl ent20 (RD.Pieces_calls (R := [Sx.obj D_ (.deferred (some [])), Sx.blk b2 [.bool false] 4, Sx.blk b10 [.int .i64 ((xs.length : Int))] 3, Sx.blk b11 [.string (Pc.catB xs)] 9, Sx.blk gb12 [.pointer (some ⟨g4, 0, none⟩)] 23, Sx.blk g4 [.string (s13_), .slice (A13_) (L13_.length) (c13_), .pointer (Pc.AT.ptr T13_)] 68, Pc.rowl (Φ7) 5 (A13_) (c13_) (L13_), Pc.lib (Φ7), Sx.blk b1 [.int .i64 (leave)] 3] ++ R) g4 s13_ A13_ c13_ L13_ T13_  (by omega) (by omega) hl13_ ok13_.by_ ok13_.wf (by omega) (Pc.en_blk (i := 5) rfl) (Pc.en_rowl (i := 6) (j := 7) rfl rfl (fun W_ z_ => z_)) (Pc.en_at (j := 7) rfl ok13_.at_)  h) ?_
      rintro e_ w_ ⟨rfl, h⟩
      refine ⟨_, rfl, ?_⟩
      refine wl_nil ?_
      refine qn_wyl (by kernel_rfl) ?_ (nd113 _ h)
      exact ⟨rfl, rfl, rfl, rfl, rfl, trivial⟩
    refine Sx.wy_two 0 1 rfl rfl (by kernel_rfl) ?_ ?_
    ·
     refine wl_v rfl rfl (ov_loadb 2 _ h rfl rfl sh3 rfl) ?_
     refine wl_nil ?_
     refine qn_wyl (by kernel_rfl) ?_ (nd114 _ h)
     exact ⟨rfl, rfl, rfl, rfl, rfl, trivial⟩
    ·
     refine wl_v rfl rfl (ov_move _ rfl) ?_
     refine wl_nil ?_
     refine qn_wyl (by kernel_rfl) ?_ (nd115 _ h)
     exact ⟨rfl, rfl, rfl, rfl, rfl, trivial⟩
  ·
   clear h
   intro D_ pre w hS hx h
   obtain ⟨e_, _⟩ := hx
   cases e_
  ·
   clear h
   intro id_ D_ pre w hS hx h
   obtain ⟨e_, hx1_, hx2_⟩ := hx
   injection e_ with e_
   subst e_
   replace h : Sx.St w0 F0 ([Sx.obj D_ (.deferred (some [])), Sx.blk b2 [.bool false] 4, Sx.blk b10 [.int .i64 ((pre.length : Int))] 3, Sx.blk b11 [.string (Pc.catB pre)] 9, Sx.blk gb12 [.pointer (some ⟨g4, 0, none⟩)] 23, Sx.blk g4 [.string (s13_), .slice (A13_) (L13_.length) (c13_), .pointer (Pc.AT.ptr T13_)] 68, Pc.rowl (Φ7) 5 (A13_) (c13_) (L13_), Pc.lib (Φ7), Sx.blk b1 [.int .i64 (leave)] 3] ++ R) w := h
   refine Sx.qd_block_exit ?_
   refine Sx.qd_then ?_
   refine Sx.ci_seq ?_
   refine Sx.ci_seq ?_
   refine Sx.ci_region Sx.lax_wide (fun _ _ h_ => by cases (And.left h_)) (by kernel_rfl) ?_
   refine wl_v rfl rfl (ov_loadb 2 _ h rfl rfl sh3 rfl) ?_
   refine wl_v rfl rfl (ov_loadb 8 _ h rfl rfl sh3 rfl) ?_
   refine wl_v rfl rfl (ov_bin _ rfl rfl (binR_eql)) ?_
   refine wl_nil ?_
   refine Sx.qi_then ?_
   refine Sx.ci_cond (by rfl) (fun c116 => ?_) (fun c116 => ?_)
   ·
    refine Sx.ci_seq ?_
    refine Sx.ci_drawy Sx.lax_wide (fun _ _ h_ => by cases (And.left h_)) (by kernel_rfl) (by kernel_rfl) ?_
    replace h := st_drew h
    refine Sx.wy_start (l2 := #[false, false, false, false, false, false, false, false, false, false, false, false, false, false, false, false, false, false, false, false]) (by kernel_rfl) ?_
    refine Sx.wy_sub (f2 := [(6, .pointer (some ⟨b2, 0, none⟩)), (7, .pointer (some ⟨g4, 0, none⟩)), (8, .string (Pc.catB D5)), (10, .pointer (some ⟨b10, 0, none⟩)), (11, .pointer (some ⟨b11, 0, none⟩))]) ⟨rfl, rfl, rfl, rfl, rfl, trivial⟩ ?_
    refine Sx.wy_haveS (fun w => Sx.St w0 F0 ([Sx.obj D_ (.deferred (some [])), Sx.blk b2 [.bool false] 4, Sx.blk b10 [.int .i64 ((pre.length : Int))] 3, Sx.blk b11 [.string (Pc.catB pre)] 9, Sx.blk gb12 [.pointer (some ⟨g4, 0, none⟩)] 23, Sx.blk g4 [.string (s13_), .slice (A13_) (L13_.length) (c13_), .pointer (Pc.AT.ptr T13_)] 68, Pc.rowl (Φ7) 5 (A13_) (c13_) (L13_), Pc.lib (Φ7), Sx.blk b1 [.int .i64 (leave)] 3] ++ R) w) 15 #[true, true, true, true, true, false, false, false, false, false, false, false, false, false, false, false, false, false, false, false] [(6, .pointer (some ⟨b2, 0, none⟩)), (7, .pointer (some ⟨g4, 0, none⟩)), (8, .string (Pc.catB D5)), (10, .pointer (some ⟨b10, 0, none⟩)), (11, .pointer (some ⟨b11, 0, none⟩)), (47, .bool (decide (((pre.length : Int) : Int) ≤ ((((Pc.AT.fl T13_).length : Nat) : Int)))))] ?_ (fun nd117 => ?_)
    ·
     clear h
     intro w h
     refine Sx.wy_split 47 rfl (fun c118 => ?_) (fun c118 => ?_)
     ·
      refine Sx.wy_sub (f2 := [(6, .pointer (some ⟨b2, 0, none⟩)), (7, .pointer (some ⟨g4, 0, none⟩)), (8, .string (Pc.catB D5)), (10, .pointer (some ⟨b10, 0, none⟩)), (11, .pointer (some ⟨b11, 0, none⟩)), (47, .bool true)]) ⟨rfl, rfl, rfl, rfl, rfl, rfl, trivial⟩ ?_
      refine Sx.wy_haveS (fun w => Sx.St w0 F0 ([Sx.obj D_ (.deferred (some [])), Sx.blk b2 [.bool false] 4, Sx.blk b10 [.int .i64 ((pre.length : Int))] 3, Sx.blk b11 [.string (Pc.catB pre)] 9, Sx.blk gb12 [.pointer (some ⟨g4, 0, none⟩)] 23, Sx.blk g4 [.string (s13_), .slice (A13_) (L13_.length) (c13_), .pointer (Pc.AT.ptr T13_)] 68, Pc.rowl (Φ7) 5 (A13_) (c13_) (L13_), Pc.lib (Φ7), Sx.blk b1 [.int .i64 (leave)] 3] ++ R) w) 8 #[true, true, true, true, true, true, true, true, true, true, true, true, false, false, false, false, false, false, false, false] [(6, .pointer (some ⟨b2, 0, none⟩)), (7, .pointer (some ⟨g4, 0, none⟩)), (8, .string (Pc.catB D5)), (10, .pointer (some ⟨b10, 0, none⟩)), (11, .pointer (some ⟨b11, 0, none⟩)), (54, .bool (decide ((((Pc.catB pre).size : Int) : Int) ≤ (((Pc.catB D5).size : Int)))))] ?_ (fun nd119 => ?_)
      ·
       clear h
       intro w h
       refine Sx.wy_split 54 rfl (fun c120 => ?_) (fun c120 => ?_)
       ·
        refine Sx.wy_sub (f2 := [(6, .pointer (some ⟨b2, 0, none⟩)), (7, .pointer (some ⟨g4, 0, none⟩)), (8, .string (Pc.catB D5)), (10, .pointer (some ⟨b10, 0, none⟩)), (11, .pointer (some ⟨b11, 0, none⟩)), (54, .bool true)]) ⟨rfl, rfl, rfl, rfl, rfl, rfl, trivial⟩ ?_
        refine Sx.wy_haveS (fun w => Sx.St w0 F0 ([Sx.obj D_ (.deferred (some [])), Sx.blk b2 [.bool (decide ((Pc.catB pre) = ((Pc.catB D5).extract 0 ((Pc.catB pre).size))))] 4, Sx.blk b10 [.int .i64 ((pre.length : Int))] 3, Sx.blk b11 [.string (Pc.catB pre)] 9, Sx.blk gb12 [.pointer (some ⟨g4, 0, none⟩)] 23, Sx.blk g4 [.string (s13_), .slice (A13_) (L13_.length) (c13_), .pointer (Pc.AT.ptr T13_)] 68, Pc.rowl (Φ7) 5 (A13_) (c13_) (L13_), Pc.lib (Φ7), Sx.blk b1 [.int .i64 (leave)] 3] ++ R) w) 0 #[true, true, true, true, true, true, true, true, true, true, true, true, true, true, true, true, true, true, true, true] [(6, .pointer (some ⟨b2, 0, none⟩)), (7, .pointer (some ⟨g4, 0, none⟩)), (8, .string (Pc.catB D5)), (10, .pointer (some ⟨b10, 0, none⟩)), (11, .pointer (some ⟨b11, 0, none⟩))] ?_ (fun nd121 => ?_)
        ·
         clear h
         intro w h
         refine Sx.wy_done (by kernel_rfl) ?_
         refine Sx.qi_then ?_
         refine Sx.ci_ret ?_
         refine qn_then_ret ?_
         have hD_ := st_obj (i := 0) h rfl
         replace h := st_putobj (.deferred none) h
         replace h : Sx.St w0 F0 ([Sx.obj D_ (.deferred none), Sx.blk b2 [.bool (decide ((Pc.catB pre) = ((Pc.catB D5).extract 0 ((Pc.catB pre).size))))] 4, Sx.blk b10 [.int .i64 ((pre.length : Int))] 3, Sx.blk b11 [.string (Pc.catB pre)] 9, Sx.blk gb12 [.pointer (some ⟨g4, 0, none⟩)] 23, Sx.blk g4 [.string (s13_), .slice (A13_) (L13_.length) (c13_), .pointer (Pc.AT.ptr T13_)] 68, Pc.rowl (Φ7) 5 (A13_) (c13_) (L13_), Pc.lib (Φ7), Sx.blk b1 [.int .i64 (leave)] 3] ++ R) _ := h
         have hend_ := h
         replace h := st_selT [false, false, false, false, false, false, false, false, false] h
         refine qn_retD [_] hD_ ⟨⟨_, rfl, Sx.loadVar1 sh4 (by rw [Sx.blk_cell hend_ (i := 1) rfl]; rfl)⟩, trivial⟩ ?_
         have hCD_ : Pc.catB D5 = Pc.catB (Pc.chs s13_ L13_ (Pc.AT.fl T13_)) := by rw [ok13_.eD]
         have hDl_ : D5.length = (Pc.chs s13_ L13_ (Pc.AT.fl T13_)).length := by rw [ok13_.eD]
         have hfl_ := Pc.tok_len ok13_
         obtain ⟨suf_, hsf_⟩ := hx1_
         have hx4_ := Pc.catB_app pre suf_
         rw [← hsf_, ← hCD_] at hx4_
         have hx5_ := congrArg ByteArray.size hx4_
         rw [ByteArray.size_append] at hx5_
         have hx6_ := congrArg List.length hsf_
         rw [List.length_append, ← hDl_] at hx6_
         have hx7_ : Pc.catB pre = (Pc.catB D5).extract 0 (Pc.catB pre).size := by rw [hx4_, Pc.ap_left]
         have b_ : (decide ((Pc.catB pre) = ((Pc.catB D5).extract 0 ((Pc.catB pre).size)))) = true := by first | (apply decide_eq_true; omega) | (apply decide_eq_true; exact hx7_) | (apply decide_eq_true; exact hx1_) | (apply decide_eq_true; rw [hx1_, Pc.ex_all]) | (simp_all; done)
         exact ⟨congrArg (fun z => Ending.returned (Value.bool z)) b_, h⟩
        refine Sx.wy_haveS (fun w => Sx.St w0 F0 ([Sx.obj D_ (.deferred (some [])), Sx.blk b2 [.bool false] 4, Sx.blk b10 [.int .i64 ((pre.length : Int))] 3, Sx.blk b11 [.string (Pc.catB pre)] 9, Sx.blk gb12 [.pointer (some ⟨g4, 0, none⟩)] 23, Sx.blk g4 [.string (s13_), .slice (A13_) (L13_.length) (c13_), .pointer (Pc.AT.ptr T13_)] 68, Pc.rowl (Φ7) 5 (A13_) (c13_) (L13_), Pc.lib (Φ7), Sx.blk b1 [.int .i64 (leave)] 3] ++ R) w) 1 #[true, true, true, true, true, true, true, true, true, true, true, true, true, true, true, true, true, true, true, false] [(6, .pointer (some ⟨b2, 0, none⟩)), (7, .pointer (some ⟨g4, 0, none⟩)), (8, .string (Pc.catB D5)), (10, .pointer (some ⟨b10, 0, none⟩)), (11, .pointer (some ⟨b11, 0, none⟩)), (61, .bool (decide ((Pc.catB pre) = ((Pc.catB D5).extract 0 ((Pc.catB pre).size)))))] ?_ (fun nd122 => ?_)
        ·
         clear h
         intro w h
         refine Sx.wy_one 19 rfl (by kernel_rfl) ?_
         ·
          refine wl_storeb 1 _ [.bool (decide ((Pc.catB pre) = ((Pc.catB D5).extract 0 ((Pc.catB pre).size))))] h rfl rfl rfl rfl rfl rfl sh4 rfl rfl (fun _ h => ?_)
          refine wl_nil ?_
          refine qn_wyl (by kernel_rfl) ?_ (nd121 _ h)
          exact ⟨rfl, rfl, rfl, rfl, rfl, trivial⟩
        refine Sx.wy_haveS (fun w => Sx.St w0 F0 ([Sx.obj D_ (.deferred (some [])), Sx.blk b2 [.bool false] 4, Sx.blk b10 [.int .i64 ((pre.length : Int))] 3, Sx.blk b11 [.string (Pc.catB pre)] 9, Sx.blk gb12 [.pointer (some ⟨g4, 0, none⟩)] 23, Sx.blk g4 [.string (s13_), .slice (A13_) (L13_.length) (c13_), .pointer (Pc.AT.ptr T13_)] 68, Pc.rowl (Φ7) 5 (A13_) (c13_) (L13_), Pc.lib (Φ7), Sx.blk b1 [.int .i64 (leave)] 3] ++ R) w) 2 #[true, true, true, true, true, true, true, true, true, true, true, true, true, true, true, true, true, true, false, false] [(6, .pointer (some ⟨b2, 0, none⟩)), (7, .pointer (some ⟨g4, 0, none⟩)), (8, .string (Pc.catB D5)), (10, .pointer (some ⟨b10, 0, none⟩)), (11, .pointer (some ⟨b11, 0, none⟩)), (54, .bool true), (60, .bool (decide ((Pc.catB pre) = ((Pc.catB D5).extract 0 ((Pc.catB pre).size)))))] ?_ (fun nd123 => ?_)
        ·
         clear h
         intro w h
         refine Sx.wy_one 18 rfl (by kernel_rfl) ?_
         ·
          refine wl_v rfl rfl (ov_pick_true _ rfl rfl) ?_
          refine wl_nil ?_
          refine qn_wyl (by kernel_rfl) ?_ (nd122 _ h)
          exact ⟨rfl, rfl, rfl, rfl, rfl, rfl, trivial⟩
        refine Sx.wy_haveS (fun w => Sx.St w0 F0 ([Sx.obj D_ (.deferred (some [])), Sx.blk b2 [.bool false] 4, Sx.blk b10 [.int .i64 ((pre.length : Int))] 3, Sx.blk b11 [.string (Pc.catB pre)] 9, Sx.blk gb12 [.pointer (some ⟨g4, 0, none⟩)] 23, Sx.blk g4 [.string (s13_), .slice (A13_) (L13_.length) (c13_), .pointer (Pc.AT.ptr T13_)] 68, Pc.rowl (Φ7) 5 (A13_) (c13_) (L13_), Pc.lib (Φ7), Sx.blk b1 [.int .i64 (leave)] 3] ++ R) w) 3 #[true, true, true, true, true, true, true, true, true, true, true, true, true, true, true, true, true, false, false, false] [(6, .pointer (some ⟨b2, 0, none⟩)), (7, .pointer (some ⟨g4, 0, none⟩)), (8, .string (Pc.catB D5)), (10, .pointer (some ⟨b10, 0, none⟩)), (11, .pointer (some ⟨b11, 0, none⟩)), (54, .bool true), (55, .string (Pc.catB pre)), (59, .string ((Pc.catB D5).extract 0 ((Pc.catB pre).size)))] ?_ (fun nd124 => ?_)
        ·
         clear h
         intro w h
         refine Sx.wy_one 17 rfl (by kernel_rfl) ?_
         ·
          refine wl_v rfl rfl (ov_bin _ rfl rfl (binR_eqs)) ?_
          refine wl_nil ?_
          refine qn_wyl (by kernel_rfl) ?_ (nd123 _ h)
          exact ⟨rfl, rfl, rfl, rfl, rfl, rfl, rfl, trivial⟩
        refine Sx.wy_haveS (fun w => Sx.St w0 F0 ([Sx.obj D_ (.deferred (some [])), Sx.blk b2 [.bool false] 4, Sx.blk b10 [.int .i64 ((pre.length : Int))] 3, Sx.blk b11 [.string (Pc.catB pre)] 9, Sx.blk gb12 [.pointer (some ⟨g4, 0, none⟩)] 23, Sx.blk g4 [.string (s13_), .slice (A13_) (L13_.length) (c13_), .pointer (Pc.AT.ptr T13_)] 68, Pc.rowl (Φ7) 5 (A13_) (c13_) (L13_), Pc.lib (Φ7), Sx.blk b1 [.int .i64 (leave)] 3] ++ R) w) 4 #[true, true, true, true, true, true, true, true, true, true, true, true, true, true, true, true, false, false, false, false] [(6, .pointer (some ⟨b2, 0, none⟩)), (7, .pointer (some ⟨g4, 0, none⟩)), (8, .string (Pc.catB D5)), (10, .pointer (some ⟨b10, 0, none⟩)), (11, .pointer (some ⟨b11, 0, none⟩)), (54, .bool true), (55, .string (Pc.catB pre)), (56, .string (Pc.catB D5)), (58, .int .i64 (((Pc.catB pre).size : Int)))] ?_ (fun nd125 => ?_)
        ·
         clear h
         intro w h
         refine Sx.wy_one 16 rfl (by kernel_rfl) ?_
         ·
          refine wl_v rfl rfl (ov_slices _ 0 ((Pc.catB pre).size) (by rfl) (by exact rfl) (by exact ⟨_, _, rfl, rfl⟩) Try.underlying9 (by omega) (by omega)) ?_
          refine wl_nil ?_
          refine qn_wyl (by kernel_rfl) ?_ (nd124 _ h)
          exact ⟨rfl, rfl, rfl, rfl, rfl, rfl, rfl, rfl, trivial⟩
        refine Sx.wy_haveS (fun w => Sx.St w0 F0 ([Sx.obj D_ (.deferred (some [])), Sx.blk b2 [.bool false] 4, Sx.blk b10 [.int .i64 ((pre.length : Int))] 3, Sx.blk b11 [.string (Pc.catB pre)] 9, Sx.blk gb12 [.pointer (some ⟨g4, 0, none⟩)] 23, Sx.blk g4 [.string (s13_), .slice (A13_) (L13_.length) (c13_), .pointer (Pc.AT.ptr T13_)] 68, Pc.rowl (Φ7) 5 (A13_) (c13_) (L13_), Pc.lib (Φ7), Sx.blk b1 [.int .i64 (leave)] 3] ++ R) w) 4 #[true, true, true, true, true, true, true, true, true, true, true, true, false, true, true, true, true, false, false, false] [(6, .pointer (some ⟨b2, 0, none⟩)), (7, .pointer (some ⟨g4, 0, none⟩)), (8, .string (Pc.catB D5)), (10, .pointer (some ⟨b10, 0, none⟩)), (11, .pointer (some ⟨b11, 0, none⟩)), (54, .bool true), (59, .string ((Pc.catB D5).extract 0 ((Pc.catB pre).size)))] ?_ (fun nd126 => ?_)
        ·
         clear h
         intro w h
         refine Sx.wy_one 12 rfl (by kernel_rfl) ?_
         ·
          refine wl_v rfl rfl (ov_loadb 3 _ h rfl rfl sh9 rfl) ?_
          refine wl_nil ?_
          refine qn_wyl (by kernel_rfl) ?_ (nd124 _ h)
          exact ⟨rfl, rfl, rfl, rfl, rfl, rfl, rfl, rfl, trivial⟩
        refine Sx.wy_haveS (fun w => Sx.St w0 F0 ([Sx.obj D_ (.deferred (some [])), Sx.blk b2 [.bool false] 4, Sx.blk b10 [.int .i64 ((pre.length : Int))] 3, Sx.blk b11 [.string (Pc.catB pre)] 9, Sx.blk gb12 [.pointer (some ⟨g4, 0, none⟩)] 23, Sx.blk g4 [.string (s13_), .slice (A13_) (L13_.length) (c13_), .pointer (Pc.AT.ptr T13_)] 68, Pc.rowl (Φ7) 5 (A13_) (c13_) (L13_), Pc.lib (Φ7), Sx.blk b1 [.int .i64 (leave)] 3] ++ R) w) 5 #[true, true, true, true, true, true, true, true, true, true, true, true, true, true, true, false, false, false, false, false] [(6, .pointer (some ⟨b2, 0, none⟩)), (7, .pointer (some ⟨g4, 0, none⟩)), (8, .string (Pc.catB D5)), (10, .pointer (some ⟨b10, 0, none⟩)), (11, .pointer (some ⟨b11, 0, none⟩)), (54, .bool true), (55, .string (Pc.catB pre)), (56, .string (Pc.catB D5)), (57, .string (Pc.catB pre))] ?_ (fun nd127 => ?_)
        ·
         clear h
         intro w h
         refine Sx.wy_one 15 rfl (by kernel_rfl) ?_
         ·
          refine wl_v rfl rfl (ov_lens _ rfl Try.underlying9) ?_
          refine wl_nil ?_
          refine qn_wyl (by kernel_rfl) ?_ (nd125 _ h)
          exact ⟨rfl, rfl, rfl, rfl, rfl, rfl, rfl, rfl, rfl, trivial⟩
        refine Sx.wy_haveS (fun w => Sx.St w0 F0 ([Sx.obj D_ (.deferred (some [])), Sx.blk b2 [.bool false] 4, Sx.blk b10 [.int .i64 ((pre.length : Int))] 3, Sx.blk b11 [.string (Pc.catB pre)] 9, Sx.blk gb12 [.pointer (some ⟨g4, 0, none⟩)] 23, Sx.blk g4 [.string (s13_), .slice (A13_) (L13_.length) (c13_), .pointer (Pc.AT.ptr T13_)] 68, Pc.rowl (Φ7) 5 (A13_) (c13_) (L13_), Pc.lib (Φ7), Sx.blk b1 [.int .i64 (leave)] 3] ++ R) w) 5 #[true, true, true, true, true, true, true, true, true, true, true, true, true, false, true, true, false, false, false, false] [(6, .pointer (some ⟨b2, 0, none⟩)), (7, .pointer (some ⟨g4, 0, none⟩)), (8, .string (Pc.catB D5)), (10, .pointer (some ⟨b10, 0, none⟩)), (11, .pointer (some ⟨b11, 0, none⟩)), (54, .bool true), (55, .string (Pc.catB pre)), (58, .int .i64 (((Pc.catB pre).size : Int)))] ?_ (fun nd128 => ?_)
        ·
         clear h
         intro w h
         refine Sx.wy_one 13 rfl (by kernel_rfl) ?_
         ·
          refine wl_v rfl rfl (ov_move _ rfl) ?_
          refine wl_nil ?_
          refine qn_wyl (by kernel_rfl) ?_ (nd125 _ h)
          exact ⟨rfl, rfl, rfl, rfl, rfl, rfl, rfl, rfl, rfl, trivial⟩
        refine Sx.wy_haveS (fun w => Sx.St w0 F0 ([Sx.obj D_ (.deferred (some [])), Sx.blk b2 [.bool false] 4, Sx.blk b10 [.int .i64 ((pre.length : Int))] 3, Sx.blk b11 [.string (Pc.catB pre)] 9, Sx.blk gb12 [.pointer (some ⟨g4, 0, none⟩)] 23, Sx.blk g4 [.string (s13_), .slice (A13_) (L13_.length) (c13_), .pointer (Pc.AT.ptr T13_)] 68, Pc.rowl (Φ7) 5 (A13_) (c13_) (L13_), Pc.lib (Φ7), Sx.blk b1 [.int .i64 (leave)] 3] ++ R) w) 5 #[true, true, true, true, true, true, true, true, true, true, true, true, false, true, true, true, false, false, false, false] [(6, .pointer (some ⟨b2, 0, none⟩)), (7, .pointer (some ⟨g4, 0, none⟩)), (8, .string (Pc.catB D5)), (10, .pointer (some ⟨b10, 0, none⟩)), (11, .pointer (some ⟨b11, 0, none⟩)), (54, .bool true), (56, .string (Pc.catB D5)), (58, .int .i64 (((Pc.catB pre).size : Int)))] ?_ (fun nd129 => ?_)
        ·
         clear h
         intro w h
         refine Sx.wy_two 12 16 rfl rfl (by kernel_rfl) ?_ ?_
         ·
          refine wl_v rfl rfl (ov_loadb 3 _ h rfl rfl sh9 rfl) ?_
          refine wl_nil ?_
          refine qn_wyl (by kernel_rfl) ?_ (nd125 _ h)
          exact ⟨rfl, rfl, rfl, rfl, rfl, rfl, rfl, rfl, rfl, trivial⟩
         ·
          refine wl_v rfl rfl (ov_slices _ 0 ((Pc.catB pre).size) (by rfl) (by exact rfl) (by exact ⟨_, _, rfl, rfl⟩) Try.underlying9 (by omega) (by omega)) ?_
          refine wl_nil ?_
          refine qn_wyl (by kernel_rfl) ?_ (nd126 _ h)
          exact ⟨rfl, rfl, rfl, rfl, rfl, rfl, rfl, trivial⟩
        refine Sx.wy_haveS (fun w => Sx.St w0 F0 ([Sx.obj D_ (.deferred (some [])), Sx.blk b2 [.bool false] 4, Sx.blk b10 [.int .i64 ((pre.length : Int))] 3, Sx.blk b11 [.string (Pc.catB pre)] 9, Sx.blk gb12 [.pointer (some ⟨g4, 0, none⟩)] 23, Sx.blk g4 [.string (s13_), .slice (A13_) (L13_.length) (c13_), .pointer (Pc.AT.ptr T13_)] 68, Pc.rowl (Φ7) 5 (A13_) (c13_) (L13_), Pc.lib (Φ7), Sx.blk b1 [.int .i64 (leave)] 3] ++ R) w) 6 #[true, true, true, true, true, true, true, true, true, true, true, true, true, true, false, false, false, false, false, false] [(6, .pointer (some ⟨b2, 0, none⟩)), (7, .pointer (some ⟨g4, 0, none⟩)), (8, .string (Pc.catB D5)), (10, .pointer (some ⟨b10, 0, none⟩)), (11, .pointer (some ⟨b11, 0, none⟩)), (54, .bool true), (55, .string (Pc.catB pre)), (56, .string (Pc.catB D5))] ?_ (fun nd130 => ?_)
        ·
         clear h
         intro w h
         refine Sx.wy_one 14 rfl (by kernel_rfl) ?_
         ·
          refine wl_v rfl rfl (ov_loadb 3 _ h rfl rfl sh9 rfl) ?_
          refine wl_nil ?_
          refine qn_wyl (by kernel_rfl) ?_ (nd127 _ h)
          exact ⟨rfl, rfl, rfl, rfl, rfl, rfl, rfl, rfl, rfl, trivial⟩
        refine Sx.wy_haveS (fun w => Sx.St w0 F0 ([Sx.obj D_ (.deferred (some [])), Sx.blk b2 [.bool false] 4, Sx.blk b10 [.int .i64 ((pre.length : Int))] 3, Sx.blk b11 [.string (Pc.catB pre)] 9, Sx.blk gb12 [.pointer (some ⟨g4, 0, none⟩)] 23, Sx.blk g4 [.string (s13_), .slice (A13_) (L13_.length) (c13_), .pointer (Pc.AT.ptr T13_)] 68, Pc.rowl (Φ7) 5 (A13_) (c13_) (L13_), Pc.lib (Φ7), Sx.blk b1 [.int .i64 (leave)] 3] ++ R) w) 6 #[true, true, true, true, true, true, true, true, true, true, true, true, true, false, true, false, false, false, false, false] [(6, .pointer (some ⟨b2, 0, none⟩)), (7, .pointer (some ⟨g4, 0, none⟩)), (8, .string (Pc.catB D5)), (10, .pointer (some ⟨b10, 0, none⟩)), (11, .pointer (some ⟨b11, 0, none⟩)), (54, .bool true), (55, .string (Pc.catB pre)), (57, .string (Pc.catB pre))] ?_ (fun nd131 => ?_)
        ·
         clear h
         intro w h
         refine Sx.wy_two 13 15 rfl rfl (by kernel_rfl) ?_ ?_
         ·
          refine wl_v rfl rfl (ov_move _ rfl) ?_
          refine wl_nil ?_
          refine qn_wyl (by kernel_rfl) ?_ (nd127 _ h)
          exact ⟨rfl, rfl, rfl, rfl, rfl, rfl, rfl, rfl, rfl, trivial⟩
         ·
          refine wl_v rfl rfl (ov_lens _ rfl Try.underlying9) ?_
          refine wl_nil ?_
          refine qn_wyl (by kernel_rfl) ?_ (nd128 _ h)
          exact ⟨rfl, rfl, rfl, rfl, rfl, rfl, rfl, rfl, trivial⟩
        refine Sx.wy_haveS (fun w => Sx.St w0 F0 ([Sx.obj D_ (.deferred (some [])), Sx.blk b2 [.bool false] 4, Sx.blk b10 [.int .i64 ((pre.length : Int))] 3, Sx.blk b11 [.string (Pc.catB pre)] 9, Sx.blk gb12 [.pointer (some ⟨g4, 0, none⟩)] 23, Sx.blk g4 [.string (s13_), .slice (A13_) (L13_.length) (c13_), .pointer (Pc.AT.ptr T13_)] 68, Pc.rowl (Φ7) 5 (A13_) (c13_) (L13_), Pc.lib (Φ7), Sx.blk b1 [.int .i64 (leave)] 3] ++ R) w) 6 #[true, true, true, true, true, true, true, true, true, true, true, true, false, true, true, false, false, false, false, false] [(6, .pointer (some ⟨b2, 0, none⟩)), (7, .pointer (some ⟨g4, 0, none⟩)), (8, .string (Pc.catB D5)), (10, .pointer (some ⟨b10, 0, none⟩)), (11, .pointer (some ⟨b11, 0, none⟩)), (54, .bool true), (56, .string (Pc.catB D5)), (57, .string (Pc.catB pre))] ?_ (fun nd132 => ?_)
        ·
         clear h
         intro w h
         refine Sx.wy_two 12 15 rfl rfl (by kernel_rfl) ?_ ?_
         ·
          refine wl_v rfl rfl (ov_loadb 3 _ h rfl rfl sh9 rfl) ?_
          refine wl_nil ?_
          refine qn_wyl (by kernel_rfl) ?_ (nd127 _ h)
          exact ⟨rfl, rfl, rfl, rfl, rfl, rfl, rfl, rfl, rfl, trivial⟩
         ·
          refine wl_v rfl rfl (ov_lens _ rfl Try.underlying9) ?_
          refine wl_nil ?_
          refine qn_wyl (by kernel_rfl) ?_ (nd129 _ h)
          exact ⟨rfl, rfl, rfl, rfl, rfl, rfl, rfl, rfl, trivial⟩
        refine Sx.wy_haveS (fun w => Sx.St w0 F0 ([Sx.obj D_ (.deferred (some [])), Sx.blk b2 [.bool false] 4, Sx.blk b10 [.int .i64 ((pre.length : Int))] 3, Sx.blk b11 [.string (Pc.catB pre)] 9, Sx.blk gb12 [.pointer (some ⟨g4, 0, none⟩)] 23, Sx.blk g4 [.string (s13_), .slice (A13_) (L13_.length) (c13_), .pointer (Pc.AT.ptr T13_)] 68, Pc.rowl (Φ7) 5 (A13_) (c13_) (L13_), Pc.lib (Φ7), Sx.blk b1 [.int .i64 (leave)] 3] ++ R) w) 6 #[true, true, true, true, true, true, true, true, true, true, true, true, false, false, true, true, false, false, false, false] [(6, .pointer (some ⟨b2, 0, none⟩)), (7, .pointer (some ⟨g4, 0, none⟩)), (8, .string (Pc.catB D5)), (10, .pointer (some ⟨b10, 0, none⟩)), (11, .pointer (some ⟨b11, 0, none⟩)), (54, .bool true), (58, .int .i64 (((Pc.catB pre).size : Int)))] ?_ (fun nd133 => ?_)
        ·
         clear h
         intro w h
         refine Sx.wy_two 12 13 rfl rfl (by kernel_rfl) ?_ ?_
         ·
          refine wl_v rfl rfl (ov_loadb 3 _ h rfl rfl sh9 rfl) ?_
          refine wl_nil ?_
          refine qn_wyl (by kernel_rfl) ?_ (nd128 _ h)
          exact ⟨rfl, rfl, rfl, rfl, rfl, rfl, rfl, rfl, trivial⟩
         ·
          refine wl_v rfl rfl (ov_move _ rfl) ?_
          refine wl_nil ?_
          refine qn_wyl (by kernel_rfl) ?_ (nd129 _ h)
          exact ⟨rfl, rfl, rfl, rfl, rfl, rfl, rfl, rfl, trivial⟩
        refine Sx.wy_haveS (fun w => Sx.St w0 F0 ([Sx.obj D_ (.deferred (some [])), Sx.blk b2 [.bool false] 4, Sx.blk b10 [.int .i64 ((pre.length : Int))] 3, Sx.blk b11 [.string (Pc.catB pre)] 9, Sx.blk gb12 [.pointer (some ⟨g4, 0, none⟩)] 23, Sx.blk g4 [.string (s13_), .slice (A13_) (L13_.length) (c13_), .pointer (Pc.AT.ptr T13_)] 68, Pc.rowl (Φ7) 5 (A13_) (c13_) (L13_), Pc.lib (Φ7), Sx.blk b1 [.int .i64 (leave)] 3] ++ R) w) 7 #[true, true, true, true, true, true, true, true, true, true, true, true, true, false, false, false, false, false, false, false] [(6, .pointer (some ⟨b2, 0, none⟩)), (7, .pointer (some ⟨g4, 0, none⟩)), (8, .string (Pc.catB D5)), (10, .pointer (some ⟨b10, 0, none⟩)), (11, .pointer (some ⟨b11, 0, none⟩)), (54, .bool true), (55, .string (Pc.catB pre))] ?_ (fun nd134 => ?_)
        ·
         clear h
         intro w h
         refine Sx.wy_two 13 14 rfl rfl (by kernel_rfl) ?_ ?_
         ·
          refine wl_v rfl rfl (ov_move _ rfl) ?_
          refine wl_nil ?_
          refine qn_wyl (by kernel_rfl) ?_ (nd130 _ h)
          exact ⟨rfl, rfl, rfl, rfl, rfl, rfl, rfl, rfl, trivial⟩
         ·
          refine wl_v rfl rfl (ov_loadb 3 _ h rfl rfl sh9 rfl) ?_
          refine wl_nil ?_
          refine qn_wyl (by kernel_rfl) ?_ (nd131 _ h)
          exact ⟨rfl, rfl, rfl, rfl, rfl, rfl, rfl, rfl, trivial⟩
        refine Sx.wy_haveS (fun w => Sx.St w0 F0 ([Sx.obj D_ (.deferred (some [])), Sx.blk b2 [.bool false] 4, Sx.blk b10 [.int .i64 ((pre.length : Int))] 3, Sx.blk b11 [.string (Pc.catB pre)] 9, Sx.blk gb12 [.pointer (some ⟨g4, 0, none⟩)] 23, Sx.blk g4 [.string (s13_), .slice (A13_) (L13_.length) (c13_), .pointer (Pc.AT.ptr T13_)] 68, Pc.rowl (Φ7) 5 (A13_) (c13_) (L13_), Pc.lib (Φ7), Sx.blk b1 [.int .i64 (leave)] 3] ++ R) w) 7 #[true, true, true, true, true, true, true, true, true, true, true, true, false, true, false, false, false, false, false, false] [(6, .pointer (some ⟨b2, 0, none⟩)), (7, .pointer (some ⟨g4, 0, none⟩)), (8, .string (Pc.catB D5)), (10, .pointer (some ⟨b10, 0, none⟩)), (11, .pointer (some ⟨b11, 0, none⟩)), (54, .bool true), (56, .string (Pc.catB D5))] ?_ (fun nd135 => ?_)
        ·
         clear h
         intro w h
         refine Sx.wy_two 12 14 rfl rfl (by kernel_rfl) ?_ ?_
         ·
          refine wl_v rfl rfl (ov_loadb 3 _ h rfl rfl sh9 rfl) ?_
          refine wl_nil ?_
          refine qn_wyl (by kernel_rfl) ?_ (nd130 _ h)
          exact ⟨rfl, rfl, rfl, rfl, rfl, rfl, rfl, rfl, trivial⟩
         ·
          refine wl_v rfl rfl (ov_loadb 3 _ h rfl rfl sh9 rfl) ?_
          refine wl_nil ?_
          refine qn_wyl (by kernel_rfl) ?_ (nd132 _ h)
          exact ⟨rfl, rfl, rfl, rfl, rfl, rfl, rfl, rfl, trivial⟩
        refine Sx.wy_haveS (fun w => Sx.St w0 F0 ([Sx.obj D_ (.deferred (some [])), Sx.blk b2 [.bool false] 4, Sx.blk b10 [.int .i64 ((pre.length : Int))] 3, Sx.blk b11 [.string (Pc.catB pre)] 9, Sx.blk gb12 [.pointer (some ⟨g4, 0, none⟩)] 23, Sx.blk g4 [.string (s13_), .slice (A13_) (L13_.length) (c13_), .pointer (Pc.AT.ptr T13_)] 68, Pc.rowl (Φ7) 5 (A13_) (c13_) (L13_), Pc.lib (Φ7), Sx.blk b1 [.int .i64 (leave)] 3] ++ R) w) 7 #[true, true, true, true, true, true, true, true, true, true, true, true, false, false, true, false, false, false, false, false] [(6, .pointer (some ⟨b2, 0, none⟩)), (7, .pointer (some ⟨g4, 0, none⟩)), (8, .string (Pc.catB D5)), (10, .pointer (some ⟨b10, 0, none⟩)), (11, .pointer (some ⟨b11, 0, none⟩)), (54, .bool true), (57, .string (Pc.catB pre))] ?_ (fun nd136 => ?_)
        ·
         clear h
         intro w h
         refine Sx.wy_three 12 13 15 rfl rfl rfl (by kernel_rfl) ?_ ?_ ?_
         ·
          refine wl_v rfl rfl (ov_loadb 3 _ h rfl rfl sh9 rfl) ?_
          refine wl_nil ?_
          refine qn_wyl (by kernel_rfl) ?_ (nd131 _ h)
          exact ⟨rfl, rfl, rfl, rfl, rfl, rfl, rfl, rfl, trivial⟩
         ·
          refine wl_v rfl rfl (ov_move _ rfl) ?_
          refine wl_nil ?_
          refine qn_wyl (by kernel_rfl) ?_ (nd132 _ h)
          exact ⟨rfl, rfl, rfl, rfl, rfl, rfl, rfl, rfl, trivial⟩
         ·
          refine wl_v rfl rfl (ov_lens _ rfl Try.underlying9) ?_
          refine wl_nil ?_
          refine qn_wyl (by kernel_rfl) ?_ (nd133 _ h)
          exact ⟨rfl, rfl, rfl, rfl, rfl, rfl, rfl, trivial⟩
        refine Sx.wy_three 12 13 14 rfl rfl rfl (by kernel_rfl) ?_ ?_ ?_
        ·
         refine wl_v rfl rfl (ov_loadb 3 _ h rfl rfl sh9 rfl) ?_
         refine wl_nil ?_
         refine qn_wyl (by kernel_rfl) ?_ (nd134 _ h)
         exact ⟨rfl, rfl, rfl, rfl, rfl, rfl, rfl, trivial⟩
        ·
         refine wl_v rfl rfl (ov_move _ rfl) ?_
         refine wl_nil ?_
         refine qn_wyl (by kernel_rfl) ?_ (nd135 _ h)
         exact ⟨rfl, rfl, rfl, rfl, rfl, rfl, rfl, trivial⟩
        ·
         refine wl_v rfl rfl (ov_loadb 3 _ h rfl rfl sh9 rfl) ?_
         refine wl_nil ?_
         refine qn_wyl (by kernel_rfl) ?_ (nd136 _ h)
         exact ⟨rfl, rfl, rfl, rfl, rfl, rfl, rfl, trivial⟩
       ·
        refine Sx.wy_sub (f2 := [(6, .pointer (some ⟨b2, 0, none⟩)), (7, .pointer (some ⟨g4, 0, none⟩)), (8, .string (Pc.catB D5)), (10, .pointer (some ⟨b10, 0, none⟩)), (11, .pointer (some ⟨b11, 0, none⟩)), (54, .bool false)]) ⟨rfl, rfl, rfl, rfl, rfl, rfl, trivial⟩ ?_
        refine Sx.wy_haveS (fun w => Sx.St w0 F0 ([Sx.obj D_ (.deferred (some [])), Sx.blk b2 [.bool false] 4, Sx.blk b10 [.int .i64 ((pre.length : Int))] 3, Sx.blk b11 [.string (Pc.catB pre)] 9, Sx.blk gb12 [.pointer (some ⟨g4, 0, none⟩)] 23, Sx.blk g4 [.string (s13_), .slice (A13_) (L13_.length) (c13_), .pointer (Pc.AT.ptr T13_)] 68, Pc.rowl (Φ7) 5 (A13_) (c13_) (L13_), Pc.lib (Φ7), Sx.blk b1 [.int .i64 (leave)] 3] ++ R) w) 0 #[true, true, true, true, true, true, true, true, true, true, true, true, true, true, true, true, true, true, true, true] [(6, .pointer (some ⟨b2, 0, none⟩)), (7, .pointer (some ⟨g4, 0, none⟩)), (8, .string (Pc.catB D5)), (10, .pointer (some ⟨b10, 0, none⟩)), (11, .pointer (some ⟨b11, 0, none⟩))] ?_ (fun nd137 => ?_)
        ·
         clear h
         intro w h
         refine Sx.wy_done (by kernel_rfl) ?_
         refine Sx.qi_then ?_
         refine Sx.ci_ret ?_
         refine qn_then_ret ?_
         have hD_ := st_obj (i := 0) h rfl
         replace h := st_putobj (.deferred none) h
         replace h : Sx.St w0 F0 ([Sx.obj D_ (.deferred none), Sx.blk b2 [.bool false] 4, Sx.blk b10 [.int .i64 ((pre.length : Int))] 3, Sx.blk b11 [.string (Pc.catB pre)] 9, Sx.blk gb12 [.pointer (some ⟨g4, 0, none⟩)] 23, Sx.blk g4 [.string (s13_), .slice (A13_) (L13_.length) (c13_), .pointer (Pc.AT.ptr T13_)] 68, Pc.rowl (Φ7) 5 (A13_) (c13_) (L13_), Pc.lib (Φ7), Sx.blk b1 [.int .i64 (leave)] 3] ++ R) _ := h
         have hend_ := h
         replace h := st_selT [false, false, false, false, false, false, false, false, false] h
         refine qn_retD [_] hD_ ⟨⟨_, rfl, Sx.loadVar1 sh4 (by rw [Sx.blk_cell hend_ (i := 1) rfl]; rfl)⟩, trivial⟩ ?_
         have hCD_ : Pc.catB D5 = Pc.catB (Pc.chs s13_ L13_ (Pc.AT.fl T13_)) := by rw [ok13_.eD]
         have hDl_ : D5.length = (Pc.chs s13_ L13_ (Pc.AT.fl T13_)).length := by rw [ok13_.eD]
         have hfl_ := Pc.tok_len ok13_
         obtain ⟨suf_, hsf_⟩ := hx1_
         have hx4_ := Pc.catB_app pre suf_
         rw [← hsf_, ← hCD_] at hx4_
         have hx5_ := congrArg ByteArray.size hx4_
         rw [ByteArray.size_append] at hx5_
         have hx6_ := congrArg List.length hsf_
         rw [List.length_append, ← hDl_] at hx6_
         have hx7_ : Pc.catB pre = (Pc.catB D5).extract 0 (Pc.catB pre).size := by rw [hx4_, Pc.ap_left]
         exfalso
         first | omega | contradiction | (simp_all; done) | (simp_all; omega)
        refine Sx.wy_haveS (fun w => Sx.St w0 F0 ([Sx.obj D_ (.deferred (some [])), Sx.blk b2 [.bool false] 4, Sx.blk b10 [.int .i64 ((pre.length : Int))] 3, Sx.blk b11 [.string (Pc.catB pre)] 9, Sx.blk gb12 [.pointer (some ⟨g4, 0, none⟩)] 23, Sx.blk g4 [.string (s13_), .slice (A13_) (L13_.length) (c13_), .pointer (Pc.AT.ptr T13_)] 68, Pc.rowl (Φ7) 5 (A13_) (c13_) (L13_), Pc.lib (Φ7), Sx.blk b1 [.int .i64 (leave)] 3] ++ R) w) 1 #[true, true, true, true, true, true, true, true, true, true, true, true, true, true, true, true, true, true, true, false] [(6, .pointer (some ⟨b2, 0, none⟩)), (7, .pointer (some ⟨g4, 0, none⟩)), (8, .string (Pc.catB D5)), (10, .pointer (some ⟨b10, 0, none⟩)), (11, .pointer (some ⟨b11, 0, none⟩)), (61, .bool false)] ?_ (fun nd138 => ?_)
        ·
         clear h
         intro w h
         refine Sx.wy_one 19 rfl (by kernel_rfl) ?_
         ·
          refine wl_storeb 1 _ [.bool false] h rfl rfl rfl rfl rfl rfl sh4 rfl rfl (fun _ h => ?_)
          refine wl_nil ?_
          refine qn_wyl (by kernel_rfl) ?_ (nd137 _ h)
          exact ⟨rfl, rfl, rfl, rfl, rfl, trivial⟩
        refine Sx.wy_haveS (fun w => Sx.St w0 F0 ([Sx.obj D_ (.deferred (some [])), Sx.blk b2 [.bool false] 4, Sx.blk b10 [.int .i64 ((pre.length : Int))] 3, Sx.blk b11 [.string (Pc.catB pre)] 9, Sx.blk gb12 [.pointer (some ⟨g4, 0, none⟩)] 23, Sx.blk g4 [.string (s13_), .slice (A13_) (L13_.length) (c13_), .pointer (Pc.AT.ptr T13_)] 68, Pc.rowl (Φ7) 5 (A13_) (c13_) (L13_), Pc.lib (Φ7), Sx.blk b1 [.int .i64 (leave)] 3] ++ R) w) 2 #[true, true, true, true, true, true, true, true, true, true, true, true, true, true, true, true, true, true, false, false] [(6, .pointer (some ⟨b2, 0, none⟩)), (7, .pointer (some ⟨g4, 0, none⟩)), (8, .string (Pc.catB D5)), (10, .pointer (some ⟨b10, 0, none⟩)), (11, .pointer (some ⟨b11, 0, none⟩)), (54, .bool false), (60, undef)] ?_ (fun nd139 => ?_)
        ·
         clear h
         intro w h
         refine Sx.wy_one 18 rfl (by kernel_rfl) ?_
         ·
          refine wl_v rfl rfl (ov_pick_false _ rfl rfl) ?_
          refine wl_nil ?_
          refine qn_wyl (by kernel_rfl) ?_ (nd138 _ h)
          exact ⟨rfl, rfl, rfl, rfl, rfl, rfl, trivial⟩
        refine Sx.wy_haveS (fun w => Sx.St w0 F0 ([Sx.obj D_ (.deferred (some [])), Sx.blk b2 [.bool false] 4, Sx.blk b10 [.int .i64 ((pre.length : Int))] 3, Sx.blk b11 [.string (Pc.catB pre)] 9, Sx.blk gb12 [.pointer (some ⟨g4, 0, none⟩)] 23, Sx.blk g4 [.string (s13_), .slice (A13_) (L13_.length) (c13_), .pointer (Pc.AT.ptr T13_)] 68, Pc.rowl (Φ7) 5 (A13_) (c13_) (L13_), Pc.lib (Φ7), Sx.blk b1 [.int .i64 (leave)] 3] ++ R) w) 3 #[true, true, true, true, true, true, true, true, true, true, true, true, true, true, true, true, true, false, false, false] [(6, .pointer (some ⟨b2, 0, none⟩)), (7, .pointer (some ⟨g4, 0, none⟩)), (8, .string (Pc.catB D5)), (10, .pointer (some ⟨b10, 0, none⟩)), (11, .pointer (some ⟨b11, 0, none⟩)), (54, .bool false), (55, undef), (59, undef)] ?_ (fun nd140 => ?_)
        ·
         clear h
         intro w h
         refine Sx.wy_one 17 rfl (by kernel_rfl) ?_
         ·
          refine wl_skip rfl rfl ?_
          refine wl_nil ?_
          refine qn_wyl (by kernel_rfl) ?_ (nd139 _ h)
          exact ⟨rfl, rfl, rfl, rfl, rfl, rfl, rfl, trivial⟩
        refine Sx.wy_haveS (fun w => Sx.St w0 F0 ([Sx.obj D_ (.deferred (some [])), Sx.blk b2 [.bool false] 4, Sx.blk b10 [.int .i64 ((pre.length : Int))] 3, Sx.blk b11 [.string (Pc.catB pre)] 9, Sx.blk gb12 [.pointer (some ⟨g4, 0, none⟩)] 23, Sx.blk g4 [.string (s13_), .slice (A13_) (L13_.length) (c13_), .pointer (Pc.AT.ptr T13_)] 68, Pc.rowl (Φ7) 5 (A13_) (c13_) (L13_), Pc.lib (Φ7), Sx.blk b1 [.int .i64 (leave)] 3] ++ R) w) 4 #[true, true, true, true, true, true, true, true, true, true, true, true, true, true, true, true, false, false, false, false] [(6, .pointer (some ⟨b2, 0, none⟩)), (7, .pointer (some ⟨g4, 0, none⟩)), (8, .string (Pc.catB D5)), (10, .pointer (some ⟨b10, 0, none⟩)), (11, .pointer (some ⟨b11, 0, none⟩)), (54, .bool false), (55, undef), (56, undef), (58, undef)] ?_ (fun nd141 => ?_)
        ·
         clear h
         intro w h
         refine Sx.wy_one 16 rfl (by kernel_rfl) ?_
         ·
          refine wl_skip rfl rfl ?_
          refine wl_nil ?_
          refine qn_wyl (by kernel_rfl) ?_ (nd140 _ h)
          exact ⟨rfl, rfl, rfl, rfl, rfl, rfl, rfl, rfl, trivial⟩
        refine Sx.wy_haveS (fun w => Sx.St w0 F0 ([Sx.obj D_ (.deferred (some [])), Sx.blk b2 [.bool false] 4, Sx.blk b10 [.int .i64 ((pre.length : Int))] 3, Sx.blk b11 [.string (Pc.catB pre)] 9, Sx.blk gb12 [.pointer (some ⟨g4, 0, none⟩)] 23, Sx.blk g4 [.string (s13_), .slice (A13_) (L13_.length) (c13_), .pointer (Pc.AT.ptr T13_)] 68, Pc.rowl (Φ7) 5 (A13_) (c13_) (L13_), Pc.lib (Φ7), Sx.blk b1 [.int .i64 (leave)] 3] ++ R) w) 4 #[true, true, true, true, true, true, true, true, true, true, true, true, false, true, true, true, true, false, false, false] [(6, .pointer (some ⟨b2, 0, none⟩)), (7, .pointer (some ⟨g4, 0, none⟩)), (8, .string (Pc.catB D5)), (10, .pointer (some ⟨b10, 0, none⟩)), (11, .pointer (some ⟨b11, 0, none⟩)), (54, .bool false), (59, undef)] ?_ (fun nd142 => ?_)
        ·
         clear h
         intro w h
         refine Sx.wy_one 12 rfl (by kernel_rfl) ?_
         ·
          refine wl_skip rfl rfl ?_
          refine wl_nil ?_
          refine qn_wyl (by kernel_rfl) ?_ (nd140 _ h)
          exact ⟨rfl, rfl, rfl, rfl, rfl, rfl, rfl, rfl, trivial⟩
        refine Sx.wy_haveS (fun w => Sx.St w0 F0 ([Sx.obj D_ (.deferred (some [])), Sx.blk b2 [.bool false] 4, Sx.blk b10 [.int .i64 ((pre.length : Int))] 3, Sx.blk b11 [.string (Pc.catB pre)] 9, Sx.blk gb12 [.pointer (some ⟨g4, 0, none⟩)] 23, Sx.blk g4 [.string (s13_), .slice (A13_) (L13_.length) (c13_), .pointer (Pc.AT.ptr T13_)] 68, Pc.rowl (Φ7) 5 (A13_) (c13_) (L13_), Pc.lib (Φ7), Sx.blk b1 [.int .i64 (leave)] 3] ++ R) w) 5 #[true, true, true, true, true, true, true, true, true, true, true, true, true, true, true, false, false, false, false, false] [(6, .pointer (some ⟨b2, 0, none⟩)), (7, .pointer (some ⟨g4, 0, none⟩)), (8, .string (Pc.catB D5)), (10, .pointer (some ⟨b10, 0, none⟩)), (11, .pointer (some ⟨b11, 0, none⟩)), (54, .bool false), (55, undef), (56, undef), (57, undef)] ?_ (fun nd143 => ?_)
        ·
         clear h
         intro w h
         refine Sx.wy_one 15 rfl (by kernel_rfl) ?_
         ·
          refine wl_skip rfl rfl ?_
          refine wl_nil ?_
          refine qn_wyl (by kernel_rfl) ?_ (nd141 _ h)
          exact ⟨rfl, rfl, rfl, rfl, rfl, rfl, rfl, rfl, rfl, trivial⟩
        refine Sx.wy_haveS (fun w => Sx.St w0 F0 ([Sx.obj D_ (.deferred (some [])), Sx.blk b2 [.bool false] 4, Sx.blk b10 [.int .i64 ((pre.length : Int))] 3, Sx.blk b11 [.string (Pc.catB pre)] 9, Sx.blk gb12 [.pointer (some ⟨g4, 0, none⟩)] 23, Sx.blk g4 [.string (s13_), .slice (A13_) (L13_.length) (c13_), .pointer (Pc.AT.ptr T13_)] 68, Pc.rowl (Φ7) 5 (A13_) (c13_) (L13_), Pc.lib (Φ7), Sx.blk b1 [.int .i64 (leave)] 3] ++ R) w) 5 #[true, true, true, true, true, true, true, true, true, true, true, true, true, false, true, true, false, false, false, false] [(6, .pointer (some ⟨b2, 0, none⟩)), (7, .pointer (some ⟨g4, 0, none⟩)), (8, .string (Pc.catB D5)), (10, .pointer (some ⟨b10, 0, none⟩)), (11, .pointer (some ⟨b11, 0, none⟩)), (54, .bool false), (55, undef), (58, undef)] ?_ (fun nd144 => ?_)
        ·
         clear h
         intro w h
         refine Sx.wy_one 13 rfl (by kernel_rfl) ?_
         ·
          refine wl_skip rfl rfl ?_
          refine wl_nil ?_
          refine qn_wyl (by kernel_rfl) ?_ (nd141 _ h)
          exact ⟨rfl, rfl, rfl, rfl, rfl, rfl, rfl, rfl, rfl, trivial⟩
        refine Sx.wy_haveS (fun w => Sx.St w0 F0 ([Sx.obj D_ (.deferred (some [])), Sx.blk b2 [.bool false] 4, Sx.blk b10 [.int .i64 ((pre.length : Int))] 3, Sx.blk b11 [.string (Pc.catB pre)] 9, Sx.blk gb12 [.pointer (some ⟨g4, 0, none⟩)] 23, Sx.blk g4 [.string (s13_), .slice (A13_) (L13_.length) (c13_), .pointer (Pc.AT.ptr T13_)] 68, Pc.rowl (Φ7) 5 (A13_) (c13_) (L13_), Pc.lib (Φ7), Sx.blk b1 [.int .i64 (leave)] 3] ++ R) w) 5 #[true, true, true, true, true, true, true, true, true, true, true, true, false, true, true, true, false, false, false, false] [(6, .pointer (some ⟨b2, 0, none⟩)), (7, .pointer (some ⟨g4, 0, none⟩)), (8, .string (Pc.catB D5)), (10, .pointer (some ⟨b10, 0, none⟩)), (11, .pointer (some ⟨b11, 0, none⟩)), (54, .bool false), (56, undef), (58, undef)] ?_ (fun nd145 => ?_)
        ·
         clear h
         intro w h
         refine Sx.wy_two 12 16 rfl rfl (by kernel_rfl) ?_ ?_
         ·
          refine wl_skip rfl rfl ?_
          refine wl_nil ?_
          refine qn_wyl (by kernel_rfl) ?_ (nd141 _ h)
          exact ⟨rfl, rfl, rfl, rfl, rfl, rfl, rfl, rfl, rfl, trivial⟩
         ·
          refine wl_skip rfl rfl ?_
          refine wl_nil ?_
          refine qn_wyl (by kernel_rfl) ?_ (nd142 _ h)
          exact ⟨rfl, rfl, rfl, rfl, rfl, rfl, rfl, trivial⟩
        refine Sx.wy_haveS (fun w => Sx.St w0 F0 ([Sx.obj D_ (.deferred (some [])), Sx.blk b2 [.bool false] 4, Sx.blk b10 [.int .i64 ((pre.length : Int))] 3, Sx.blk b11 [.string (Pc.catB pre)] 9, Sx.blk gb12 [.pointer (some ⟨g4, 0, none⟩)] 23, Sx.blk g4 [.string (s13_), .slice (A13_) (L13_.length) (c13_), .pointer (Pc.AT.ptr T13_)] 68, Pc.rowl (Φ7) 5 (A13_) (c13_) (L13_), Pc.lib (Φ7), Sx.blk b1 [.int .i64 (leave)] 3] ++ R) w) 6 #[true, true, true, true, true, true, true, true, true, true, true, true, true, true, false, false, false, false, false, false] [(6, .pointer (some ⟨b2, 0, none⟩)), (7, .pointer (some ⟨g4, 0, none⟩)), (8, .string (Pc.catB D5)), (10, .pointer (some ⟨b10, 0, none⟩)), (11, .pointer (some ⟨b11, 0, none⟩)), (54, .bool false), (55, undef), (56, undef)] ?_ (fun nd146 => ?_)
        ·
         clear h
         intro w h
         refine Sx.wy_one 14 rfl (by kernel_rfl) ?_
         ·
          refine wl_skip rfl rfl ?_
          refine wl_nil ?_
          refine qn_wyl (by kernel_rfl) ?_ (nd143 _ h)
          exact ⟨rfl, rfl, rfl, rfl, rfl, rfl, rfl, rfl, rfl, trivial⟩
        refine Sx.wy_haveS (fun w => Sx.St w0 F0 ([Sx.obj D_ (.deferred (some [])), Sx.blk b2 [.bool false] 4, Sx.blk b10 [.int .i64 ((pre.length : Int))] 3, Sx.blk b11 [.string (Pc.catB pre)] 9, Sx.blk gb12 [.pointer (some ⟨g4, 0, none⟩)] 23, Sx.blk g4 [.string (s13_), .slice (A13_) (L13_.length) (c13_), .pointer (Pc.AT.ptr T13_)] 68, Pc.rowl (Φ7) 5 (A13_) (c13_) (L13_), Pc.lib (Φ7), Sx.blk b1 [.int .i64 (leave)] 3] ++ R) w) 6 #[true, true, true, true, true, true, true, true, true, true, true, true, true, false, true, false, false, false, false, false] [(6, .pointer (some ⟨b2, 0, none⟩)), (7, .pointer (some ⟨g4, 0, none⟩)), (8, .string (Pc.catB D5)), (10, .pointer (some ⟨b10, 0, none⟩)), (11, .pointer (some ⟨b11, 0, none⟩)), (54, .bool false), (55, undef), (57, undef)] ?_ (fun nd147 => ?_)
        ·
         clear h
         intro w h
         refine Sx.wy_two 13 15 rfl rfl (by kernel_rfl) ?_ ?_
         ·
          refine wl_skip rfl rfl ?_
          refine wl_nil ?_
          refine qn_wyl (by kernel_rfl) ?_ (nd143 _ h)
          exact ⟨rfl, rfl, rfl, rfl, rfl, rfl, rfl, rfl, rfl, trivial⟩
         ·
          refine wl_skip rfl rfl ?_
          refine wl_nil ?_
          refine qn_wyl (by kernel_rfl) ?_ (nd144 _ h)
          exact ⟨rfl, rfl, rfl, rfl, rfl, rfl, rfl, rfl, trivial⟩
        refine Sx.wy_haveS (fun w => Sx.St w0 F0 ([Sx.obj D_ (.deferred (some [])), Sx.blk b2 [.bool false] 4, Sx.blk b10 [.int .i64 ((pre.length : Int))] 3, Sx.blk b11 [.string (Pc.catB pre)] 9, Sx.blk gb12 [.pointer (some ⟨g4, 0, none⟩)] 23, Sx.blk g4 [.string (s13_), .slice (A13_) (L13_.length) (c13_), .pointer (Pc.AT.ptr T13_)] 68, Pc.rowl (Φ7) 5 (A13_) (c13_) (L13_), Pc.lib (Φ7), Sx.blk b1 [.int .i64 (leave)] 3] ++ R) w) 6 #[true, true, true, true, true, true, true, true, true, true, true, true, false, true, true, false, false, false, false, false] [(6, .pointer (some ⟨b2, 0, none⟩)), (7, .pointer (some ⟨g4, 0, none⟩)), (8, .string (Pc.catB D5)), (10, .pointer (some ⟨b10, 0, none⟩)), (11, .pointer (some ⟨b11, 0, none⟩)), (54, .bool false), (56, undef), (57, undef)] ?_ (fun nd148 => ?_)
        ·
         clear h
         intro w h
         refine Sx.wy_two 12 15 rfl rfl (by kernel_rfl) ?_ ?_
         ·
          refine wl_skip rfl rfl ?_
          refine wl_nil ?_
          refine qn_wyl (by kernel_rfl) ?_ (nd143 _ h)
          exact ⟨rfl, rfl, rfl, rfl, rfl, rfl, rfl, rfl, rfl, trivial⟩
         ·
          refine wl_skip rfl rfl ?_
          refine wl_nil ?_
          refine qn_wyl (by kernel_rfl) ?_ (nd145 _ h)
          exact ⟨rfl, rfl, rfl, rfl, rfl, rfl, rfl, rfl, trivial⟩
        refine Sx.wy_haveS (fun w => Sx.St w0 F0 ([Sx.obj D_ (.deferred (some [])), Sx.blk b2 [.bool false] 4, Sx.blk b10 [.int .i64 ((pre.length : Int))] 3, Sx.blk b11 [.string (Pc.catB pre)] 9, Sx.blk gb12 [.pointer (some ⟨g4, 0, none⟩)] 23, Sx.blk g4 [.string (s13_), .slice (A13_) (L13_.length) (c13_), .pointer (Pc.AT.ptr T13_)] 68, Pc.rowl (Φ7) 5 (A13_) (c13_) (L13_), Pc.lib (Φ7), Sx.blk b1 [.int .i64 (leave)] 3] ++ R) w) 6 #[true, true, true, true, true, true, true, true, true, true, true, true, false, false, true, true, false, false, false, false] [(6, .pointer (some ⟨b2, 0, none⟩)), (7, .pointer (some ⟨g4, 0, none⟩)), (8, .string (Pc.catB D5)), (10, .pointer (some ⟨b10, 0, none⟩)), (11, .pointer (some ⟨b11, 0, none⟩)), (54, .bool false), (58, undef)] ?_ (fun nd149 => ?_)
        ·
         clear h
         intro w h
         refine Sx.wy_two 12 13 rfl rfl (by kernel_rfl) ?_ ?_
         ·
          refine wl_skip rfl rfl ?_
          refine wl_nil ?_
          refine qn_wyl (by kernel_rfl) ?_ (nd144 _ h)
          exact ⟨rfl, rfl, rfl, rfl, rfl, rfl, rfl, rfl, trivial⟩
         ·
          refine wl_skip rfl rfl ?_
          refine wl_nil ?_
          refine qn_wyl (by kernel_rfl) ?_ (nd145 _ h)
          exact ⟨rfl, rfl, rfl, rfl, rfl, rfl, rfl, rfl, trivial⟩
        refine Sx.wy_haveS (fun w => Sx.St w0 F0 ([Sx.obj D_ (.deferred (some [])), Sx.blk b2 [.bool false] 4, Sx.blk b10 [.int .i64 ((pre.length : Int))] 3, Sx.blk b11 [.string (Pc.catB pre)] 9, Sx.blk gb12 [.pointer (some ⟨g4, 0, none⟩)] 23, Sx.blk g4 [.string (s13_), .slice (A13_) (L13_.length) (c13_), .pointer (Pc.AT.ptr T13_)] 68, Pc.rowl (Φ7) 5 (A13_) (c13_) (L13_), Pc.lib (Φ7), Sx.blk b1 [.int .i64 (leave)] 3] ++ R) w) 7 #[true, true, true, true, true, true, true, true, true, true, true, true, true, false, false, false, false, false, false, false] [(6, .pointer (some ⟨b2, 0, none⟩)), (7, .pointer (some ⟨g4, 0, none⟩)), (8, .string (Pc.catB D5)), (10, .pointer (some ⟨b10, 0, none⟩)), (11, .pointer (some ⟨b11, 0, none⟩)), (54, .bool false), (55, undef)] ?_ (fun nd150 => ?_)
        ·
         clear h
         intro w h
         refine Sx.wy_two 13 14 rfl rfl (by kernel_rfl) ?_ ?_
         ·
          refine wl_skip rfl rfl ?_
          refine wl_nil ?_
          refine qn_wyl (by kernel_rfl) ?_ (nd146 _ h)
          exact ⟨rfl, rfl, rfl, rfl, rfl, rfl, rfl, rfl, trivial⟩
         ·
          refine wl_skip rfl rfl ?_
          refine wl_nil ?_
          refine qn_wyl (by kernel_rfl) ?_ (nd147 _ h)
          exact ⟨rfl, rfl, rfl, rfl, rfl, rfl, rfl, rfl, trivial⟩
        refine Sx.wy_haveS (fun w => Sx.St w0 F0 ([Sx.obj D_ (.deferred (some [])), Sx.blk b2 [.bool false] 4, Sx.blk b10 [.int .i64 ((pre.length : Int))] 3, Sx.blk b11 [.string (Pc.catB pre)] 9, Sx.blk gb12 [.pointer (some ⟨g4, 0, none⟩)] 23, Sx.blk g4 [.string (s13_), .slice (A13_) (L13_.length) (c13_), .pointer (Pc.AT.ptr T13_)] 68, Pc.rowl (Φ7) 5 (A13_) (c13_) (L13_), Pc.lib (Φ7), Sx.blk b1 [.int .i64 (leave)] 3] ++ R) w) 7 #[true, true, true, true, true, true, true, true, true, true, true, true, false, true, false, false, false, false, false, false] [(6, .pointer (some ⟨b2, 0, none⟩)), (7, .pointer (some ⟨g4, 0, none⟩)), (8, .string (Pc.catB D5)), (10, .pointer (some ⟨b10, 0, none⟩)), (11, .pointer (some ⟨b11, 0, none⟩)), (54, .bool false), (56, undef)] ?_ (fun nd151 => ?_)
        ·
         clear h
         intro w h
         refine Sx.wy_two 12 14 rfl rfl (by kernel_rfl) ?_ ?_
         ·
          refine wl_skip rfl rfl ?_
          refine wl_nil ?_
          refine qn_wyl (by kernel_rfl) ?_ (nd146 _ h)
          exact ⟨rfl, rfl, rfl, rfl, rfl, rfl, rfl, rfl, trivial⟩
         ·
          refine wl_skip rfl rfl ?_
          refine wl_nil ?_
          refine qn_wyl (by kernel_rfl) ?_ (nd148 _ h)
          exact ⟨rfl, rfl, rfl, rfl, rfl, rfl, rfl, rfl, trivial⟩
        refine Sx.wy_haveS (fun w => Sx.St w0 F0 ([Sx.obj D_ (.deferred (some [])), Sx.blk b2 [.bool false] 4, Sx.blk b10 [.int .i64 ((pre.length : Int))] 3, Sx.blk b11 [.string (Pc.catB pre)] 9, Sx.blk gb12 [.pointer (some ⟨g4, 0, none⟩)] 23, Sx.blk g4 [.string (s13_), .slice (A13_) (L13_.length) (c13_), .pointer (Pc.AT.ptr T13_)] 68, Pc.rowl (Φ7) 5 (A13_) (c13_) (L13_), Pc.lib (Φ7), Sx.blk b1 [.int .i64 (leave)] 3] ++ R) w) 7 #[true, true, true, true, true, true, true, true, true, true, true, true, false, false, true, false, false, false, false, false] [(6, .pointer (some ⟨b2, 0, none⟩)), (7, .pointer (some ⟨g4, 0, none⟩)), (8, .string (Pc.catB D5)), (10, .pointer (some ⟨b10, 0, none⟩)), (11, .pointer (some ⟨b11, 0, none⟩)), (54, .bool false), (57, undef)] ?_ (fun nd152 => ?_)
        ·
         clear h
         intro w h
         refine Sx.wy_three 12 13 15 rfl rfl rfl (by kernel_rfl) ?_ ?_ ?_
         ·
          refine wl_skip rfl rfl ?_
          refine wl_nil ?_
          refine qn_wyl (by kernel_rfl) ?_ (nd147 _ h)
          exact ⟨rfl, rfl, rfl, rfl, rfl, rfl, rfl, rfl, trivial⟩
         ·
          refine wl_skip rfl rfl ?_
          refine wl_nil ?_
          refine qn_wyl (by kernel_rfl) ?_ (nd148 _ h)
          exact ⟨rfl, rfl, rfl, rfl, rfl, rfl, rfl, rfl, trivial⟩
         ·
          refine wl_skip rfl rfl ?_
          refine wl_nil ?_
          refine qn_wyl (by kernel_rfl) ?_ (nd149 _ h)
          exact ⟨rfl, rfl, rfl, rfl, rfl, rfl, rfl, trivial⟩
        refine Sx.wy_three 12 13 14 rfl rfl rfl (by kernel_rfl) ?_ ?_ ?_
        ·
         refine wl_skip rfl rfl ?_
         refine wl_nil ?_
         refine qn_wyl (by kernel_rfl) ?_ (nd150 _ h)
         exact ⟨rfl, rfl, rfl, rfl, rfl, rfl, rfl, trivial⟩
        ·
         refine wl_skip rfl rfl ?_
         refine wl_nil ?_
         refine qn_wyl (by kernel_rfl) ?_ (nd151 _ h)
         exact ⟨rfl, rfl, rfl, rfl, rfl, rfl, rfl, trivial⟩
        ·
         refine wl_skip rfl rfl ?_
         refine wl_nil ?_
         refine qn_wyl (by kernel_rfl) ?_ (nd152 _ h)
         exact ⟨rfl, rfl, rfl, rfl, rfl, rfl, rfl, trivial⟩
      refine Sx.wy_haveS (fun w => Sx.St w0 F0 ([Sx.obj D_ (.deferred (some [])), Sx.blk b2 [.bool false] 4, Sx.blk b10 [.int .i64 ((pre.length : Int))] 3, Sx.blk b11 [.string (Pc.catB pre)] 9, Sx.blk gb12 [.pointer (some ⟨g4, 0, none⟩)] 23, Sx.blk g4 [.string (s13_), .slice (A13_) (L13_.length) (c13_), .pointer (Pc.AT.ptr T13_)] 68, Pc.rowl (Φ7) 5 (A13_) (c13_) (L13_), Pc.lib (Φ7), Sx.blk b1 [.int .i64 (leave)] 3] ++ R) w) 9 #[true, true, true, true, true, true, true, true, true, true, true, false, false, false, false, false, false, false, false, false] [(6, .pointer (some ⟨b2, 0, none⟩)), (7, .pointer (some ⟨g4, 0, none⟩)), (8, .string (Pc.catB D5)), (10, .pointer (some ⟨b10, 0, none⟩)), (11, .pointer (some ⟨b11, 0, none⟩)), (53, .bool (decide ((((Pc.catB pre).size : Int) : Int) ≤ (((Pc.catB D5).size : Int)))))] ?_ (fun nd153 => ?_)
      ·
       clear h
       intro w h
       refine Sx.wy_one 11 rfl (by kernel_rfl) ?_
       ·
        refine wl_v rfl rfl (ov_move _ rfl) ?_
        refine wl_nil ?_
        refine qn_wyl (by kernel_rfl) ?_ (nd119 _ h)
        exact ⟨rfl, rfl, rfl, rfl, rfl, rfl, trivial⟩
      refine Sx.wy_haveS (fun w => Sx.St w0 F0 ([Sx.obj D_ (.deferred (some [])), Sx.blk b2 [.bool false] 4, Sx.blk b10 [.int .i64 ((pre.length : Int))] 3, Sx.blk b11 [.string (Pc.catB pre)] 9, Sx.blk gb12 [.pointer (some ⟨g4, 0, none⟩)] 23, Sx.blk g4 [.string (s13_), .slice (A13_) (L13_.length) (c13_), .pointer (Pc.AT.ptr T13_)] 68, Pc.rowl (Φ7) 5 (A13_) (c13_) (L13_), Pc.lib (Φ7), Sx.blk b1 [.int .i64 (leave)] 3] ++ R) w) 10 #[true, true, true, true, true, true, true, true, true, true, false, false, false, false, false, false, false, false, false, false] [(6, .pointer (some ⟨b2, 0, none⟩)), (7, .pointer (some ⟨g4, 0, none⟩)), (8, .string (Pc.catB D5)), (10, .pointer (some ⟨b10, 0, none⟩)), (11, .pointer (some ⟨b11, 0, none⟩)), (47, .bool true), (52, .bool (decide ((((Pc.catB pre).size : Int) : Int) ≤ (((Pc.catB D5).size : Int)))))] ?_ (fun nd154 => ?_)
      ·
       clear h
       intro w h
       refine Sx.wy_one 10 rfl (by kernel_rfl) ?_
       ·
        refine wl_v rfl rfl (ov_pick_true _ rfl rfl) ?_
        refine wl_nil ?_
        refine qn_wyl (by kernel_rfl) ?_ (nd153 _ h)
        exact ⟨rfl, rfl, rfl, rfl, rfl, rfl, trivial⟩
      refine Sx.wy_haveS (fun w => Sx.St w0 F0 ([Sx.obj D_ (.deferred (some [])), Sx.blk b2 [.bool false] 4, Sx.blk b10 [.int .i64 ((pre.length : Int))] 3, Sx.blk b11 [.string (Pc.catB pre)] 9, Sx.blk gb12 [.pointer (some ⟨g4, 0, none⟩)] 23, Sx.blk g4 [.string (s13_), .slice (A13_) (L13_.length) (c13_), .pointer (Pc.AT.ptr T13_)] 68, Pc.rowl (Φ7) 5 (A13_) (c13_) (L13_), Pc.lib (Φ7), Sx.blk b1 [.int .i64 (leave)] 3] ++ R) w) 11 #[true, true, true, true, true, true, true, true, true, false, false, false, false, false, false, false, false, false, false, false] [(6, .pointer (some ⟨b2, 0, none⟩)), (7, .pointer (some ⟨g4, 0, none⟩)), (8, .string (Pc.catB D5)), (10, .pointer (some ⟨b10, 0, none⟩)), (11, .pointer (some ⟨b11, 0, none⟩)), (47, .bool true), (49, .int .i64 (((Pc.catB pre).size : Int))), (51, .int .i64 (((Pc.catB D5).size : Int)))] ?_ (fun nd155 => ?_)
      ·
       clear h
       intro w h
       refine Sx.wy_one 9 rfl (by kernel_rfl) ?_
       ·
        refine wl_v rfl rfl (ov_bin _ rfl rfl (binR_leq)) ?_
        refine wl_nil ?_
        refine qn_wyl (by kernel_rfl) ?_ (nd154 _ h)
        exact ⟨rfl, rfl, rfl, rfl, rfl, rfl, rfl, trivial⟩
      refine Sx.wy_haveS (fun w => Sx.St w0 F0 ([Sx.obj D_ (.deferred (some [])), Sx.blk b2 [.bool false] 4, Sx.blk b10 [.int .i64 ((pre.length : Int))] 3, Sx.blk b11 [.string (Pc.catB pre)] 9, Sx.blk gb12 [.pointer (some ⟨g4, 0, none⟩)] 23, Sx.blk g4 [.string (s13_), .slice (A13_) (L13_.length) (c13_), .pointer (Pc.AT.ptr T13_)] 68, Pc.rowl (Φ7) 5 (A13_) (c13_) (L13_), Pc.lib (Φ7), Sx.blk b1 [.int .i64 (leave)] 3] ++ R) w) 12 #[true, true, true, true, true, true, true, true, false, false, false, false, false, false, false, false, false, false, false, false] [(6, .pointer (some ⟨b2, 0, none⟩)), (7, .pointer (some ⟨g4, 0, none⟩)), (8, .string (Pc.catB D5)), (10, .pointer (some ⟨b10, 0, none⟩)), (11, .pointer (some ⟨b11, 0, none⟩)), (47, .bool true), (49, .int .i64 (((Pc.catB pre).size : Int))), (50, .string (Pc.catB D5))] ?_ (fun nd156 => ?_)
      ·
       clear h
       intro w h
       refine Sx.wy_one 8 rfl (by kernel_rfl) ?_
       ·
        refine wl_v rfl rfl (ov_lens _ rfl Try.underlying9) ?_
        refine wl_nil ?_
        refine qn_wyl (by kernel_rfl) ?_ (nd155 _ h)
        exact ⟨rfl, rfl, rfl, rfl, rfl, rfl, rfl, rfl, trivial⟩
      refine Sx.wy_haveS (fun w => Sx.St w0 F0 ([Sx.obj D_ (.deferred (some [])), Sx.blk b2 [.bool false] 4, Sx.blk b10 [.int .i64 ((pre.length : Int))] 3, Sx.blk b11 [.string (Pc.catB pre)] 9, Sx.blk gb12 [.pointer (some ⟨g4, 0, none⟩)] 23, Sx.blk g4 [.string (s13_), .slice (A13_) (L13_.length) (c13_), .pointer (Pc.AT.ptr T13_)] 68, Pc.rowl (Φ7) 5 (A13_) (c13_) (L13_), Pc.lib (Φ7), Sx.blk b1 [.int .i64 (leave)] 3] ++ R) w) 12 #[true, true, true, true, true, true, false, true, true, false, false, false, false, false, false, false, false, false, false, false] [(6, .pointer (some ⟨b2, 0, none⟩)), (7, .pointer (some ⟨g4, 0, none⟩)), (8, .string (Pc.catB D5)), (10, .pointer (some ⟨b10, 0, none⟩)), (11, .pointer (some ⟨b11, 0, none⟩)), (47, .bool true), (48, .string (Pc.catB pre)), (51, .int .i64 (((Pc.catB D5).size : Int)))] ?_ (fun nd157 => ?_)
      ·
       clear h
       intro w h
       refine Sx.wy_one 6 rfl (by kernel_rfl) ?_
       ·
        refine wl_v rfl rfl (ov_lens _ rfl Try.underlying9) ?_
        refine wl_nil ?_
        refine qn_wyl (by kernel_rfl) ?_ (nd155 _ h)
        exact ⟨rfl, rfl, rfl, rfl, rfl, rfl, rfl, rfl, trivial⟩
      refine Sx.wy_haveS (fun w => Sx.St w0 F0 ([Sx.obj D_ (.deferred (some [])), Sx.blk b2 [.bool false] 4, Sx.blk b10 [.int .i64 ((pre.length : Int))] 3, Sx.blk b11 [.string (Pc.catB pre)] 9, Sx.blk gb12 [.pointer (some ⟨g4, 0, none⟩)] 23, Sx.blk g4 [.string (s13_), .slice (A13_) (L13_.length) (c13_), .pointer (Pc.AT.ptr T13_)] 68, Pc.rowl (Φ7) 5 (A13_) (c13_) (L13_), Pc.lib (Φ7), Sx.blk b1 [.int .i64 (leave)] 3] ++ R) w) 13 #[true, true, true, true, true, true, true, false, false, false, false, false, false, false, false, false, false, false, false, false] [(6, .pointer (some ⟨b2, 0, none⟩)), (7, .pointer (some ⟨g4, 0, none⟩)), (8, .string (Pc.catB D5)), (10, .pointer (some ⟨b10, 0, none⟩)), (11, .pointer (some ⟨b11, 0, none⟩)), (47, .bool true), (49, .int .i64 (((Pc.catB pre).size : Int)))] ?_ (fun nd158 => ?_)
      ·
       clear h
       intro w h
       refine Sx.wy_one 7 rfl (by kernel_rfl) ?_
       ·
        refine wl_v rfl rfl (ov_move _ rfl) ?_
        refine wl_nil ?_
        refine qn_wyl (by kernel_rfl) ?_ (nd156 _ h)
        exact ⟨rfl, rfl, rfl, rfl, rfl, rfl, rfl, rfl, trivial⟩
      refine Sx.wy_haveS (fun w => Sx.St w0 F0 ([Sx.obj D_ (.deferred (some [])), Sx.blk b2 [.bool false] 4, Sx.blk b10 [.int .i64 ((pre.length : Int))] 3, Sx.blk b11 [.string (Pc.catB pre)] 9, Sx.blk gb12 [.pointer (some ⟨g4, 0, none⟩)] 23, Sx.blk g4 [.string (s13_), .slice (A13_) (L13_.length) (c13_), .pointer (Pc.AT.ptr T13_)] 68, Pc.rowl (Φ7) 5 (A13_) (c13_) (L13_), Pc.lib (Φ7), Sx.blk b1 [.int .i64 (leave)] 3] ++ R) w) 13 #[true, true, true, true, true, true, false, true, false, false, false, false, false, false, false, false, false, false, false, false] [(6, .pointer (some ⟨b2, 0, none⟩)), (7, .pointer (some ⟨g4, 0, none⟩)), (8, .string (Pc.catB D5)), (10, .pointer (some ⟨b10, 0, none⟩)), (11, .pointer (some ⟨b11, 0, none⟩)), (47, .bool true), (48, .string (Pc.catB pre)), (50, .string (Pc.catB D5))] ?_ (fun nd159 => ?_)
      ·
       clear h
       intro w h
       refine Sx.wy_two 6 8 rfl rfl (by kernel_rfl) ?_ ?_
       ·
        refine wl_v rfl rfl (ov_lens _ rfl Try.underlying9) ?_
        refine wl_nil ?_
        refine qn_wyl (by kernel_rfl) ?_ (nd156 _ h)
        exact ⟨rfl, rfl, rfl, rfl, rfl, rfl, rfl, rfl, trivial⟩
       ·
        refine wl_v rfl rfl (ov_lens _ rfl Try.underlying9) ?_
        refine wl_nil ?_
        refine qn_wyl (by kernel_rfl) ?_ (nd157 _ h)
        exact ⟨rfl, rfl, rfl, rfl, rfl, rfl, rfl, rfl, trivial⟩
      refine Sx.wy_haveS (fun w => Sx.St w0 F0 ([Sx.obj D_ (.deferred (some [])), Sx.blk b2 [.bool false] 4, Sx.blk b10 [.int .i64 ((pre.length : Int))] 3, Sx.blk b11 [.string (Pc.catB pre)] 9, Sx.blk gb12 [.pointer (some ⟨g4, 0, none⟩)] 23, Sx.blk g4 [.string (s13_), .slice (A13_) (L13_.length) (c13_), .pointer (Pc.AT.ptr T13_)] 68, Pc.rowl (Φ7) 5 (A13_) (c13_) (L13_), Pc.lib (Φ7), Sx.blk b1 [.int .i64 (leave)] 3] ++ R) w) 13 #[true, true, true, true, true, false, false, true, true, false, false, false, false, false, false, false, false, false, false, false] [(6, .pointer (some ⟨b2, 0, none⟩)), (7, .pointer (some ⟨g4, 0, none⟩)), (8, .string (Pc.catB D5)), (10, .pointer (some ⟨b10, 0, none⟩)), (11, .pointer (some ⟨b11, 0, none⟩)), (47, .bool true), (51, .int .i64 (((Pc.catB D5).size : Int)))] ?_ (fun nd160 => ?_)
      ·
       clear h
       intro w h
       refine Sx.wy_one 5 rfl (by kernel_rfl) ?_
       ·
        refine wl_v rfl rfl (ov_loadb 3 _ h rfl rfl sh9 rfl) ?_
        refine wl_nil ?_
        refine qn_wyl (by kernel_rfl) ?_ (nd157 _ h)
        exact ⟨rfl, rfl, rfl, rfl, rfl, rfl, rfl, rfl, trivial⟩
      refine Sx.wy_haveS (fun w => Sx.St w0 F0 ([Sx.obj D_ (.deferred (some [])), Sx.blk b2 [.bool false] 4, Sx.blk b10 [.int .i64 ((pre.length : Int))] 3, Sx.blk b11 [.string (Pc.catB pre)] 9, Sx.blk gb12 [.pointer (some ⟨g4, 0, none⟩)] 23, Sx.blk g4 [.string (s13_), .slice (A13_) (L13_.length) (c13_), .pointer (Pc.AT.ptr T13_)] 68, Pc.rowl (Φ7) 5 (A13_) (c13_) (L13_), Pc.lib (Φ7), Sx.blk b1 [.int .i64 (leave)] 3] ++ R) w) 14 #[true, true, true, true, true, true, false, false, false, false, false, false, false, false, false, false, false, false, false, false] [(6, .pointer (some ⟨b2, 0, none⟩)), (7, .pointer (some ⟨g4, 0, none⟩)), (8, .string (Pc.catB D5)), (10, .pointer (some ⟨b10, 0, none⟩)), (11, .pointer (some ⟨b11, 0, none⟩)), (47, .bool true), (48, .string (Pc.catB pre))] ?_ (fun nd161 => ?_)
      ·
       clear h
       intro w h
       refine Sx.wy_two 6 7 rfl rfl (by kernel_rfl) ?_ ?_
       ·
        refine wl_v rfl rfl (ov_lens _ rfl Try.underlying9) ?_
        refine wl_nil ?_
        refine qn_wyl (by kernel_rfl) ?_ (nd158 _ h)
        exact ⟨rfl, rfl, rfl, rfl, rfl, rfl, rfl, trivial⟩
       ·
        refine wl_v rfl rfl (ov_move _ rfl) ?_
        refine wl_nil ?_
        refine qn_wyl (by kernel_rfl) ?_ (nd159 _ h)
        exact ⟨rfl, rfl, rfl, rfl, rfl, rfl, rfl, rfl, trivial⟩
      refine Sx.wy_haveS (fun w => Sx.St w0 F0 ([Sx.obj D_ (.deferred (some [])), Sx.blk b2 [.bool false] 4, Sx.blk b10 [.int .i64 ((pre.length : Int))] 3, Sx.blk b11 [.string (Pc.catB pre)] 9, Sx.blk gb12 [.pointer (some ⟨g4, 0, none⟩)] 23, Sx.blk g4 [.string (s13_), .slice (A13_) (L13_.length) (c13_), .pointer (Pc.AT.ptr T13_)] 68, Pc.rowl (Φ7) 5 (A13_) (c13_) (L13_), Pc.lib (Φ7), Sx.blk b1 [.int .i64 (leave)] 3] ++ R) w) 14 #[true, true, true, true, true, false, false, true, false, false, false, false, false, false, false, false, false, false, false, false] [(6, .pointer (some ⟨b2, 0, none⟩)), (7, .pointer (some ⟨g4, 0, none⟩)), (8, .string (Pc.catB D5)), (10, .pointer (some ⟨b10, 0, none⟩)), (11, .pointer (some ⟨b11, 0, none⟩)), (47, .bool true), (50, .string (Pc.catB D5))] ?_ (fun nd162 => ?_)
      ·
       clear h
       intro w h
       refine Sx.wy_two 5 8 rfl rfl (by kernel_rfl) ?_ ?_
       ·
        refine wl_v rfl rfl (ov_loadb 3 _ h rfl rfl sh9 rfl) ?_
        refine wl_nil ?_
        refine qn_wyl (by kernel_rfl) ?_ (nd159 _ h)
        exact ⟨rfl, rfl, rfl, rfl, rfl, rfl, rfl, rfl, trivial⟩
       ·
        refine wl_v rfl rfl (ov_lens _ rfl Try.underlying9) ?_
        refine wl_nil ?_
        refine qn_wyl (by kernel_rfl) ?_ (nd160 _ h)
        exact ⟨rfl, rfl, rfl, rfl, rfl, rfl, rfl, trivial⟩
      refine Sx.wy_two 5 7 rfl rfl (by kernel_rfl) ?_ ?_
      ·
       refine wl_v rfl rfl (ov_loadb 3 _ h rfl rfl sh9 rfl) ?_
       refine wl_nil ?_
       refine qn_wyl (by kernel_rfl) ?_ (nd161 _ h)
       exact ⟨rfl, rfl, rfl, rfl, rfl, rfl, rfl, trivial⟩
      ·
       refine wl_v rfl rfl (ov_move _ rfl) ?_
       refine wl_nil ?_
       refine qn_wyl (by kernel_rfl) ?_ (nd162 _ h)
       exact ⟨rfl, rfl, rfl, rfl, rfl, rfl, rfl, trivial⟩
     ·
      refine Sx.wy_sub (f2 := [(6, .pointer (some ⟨b2, 0, none⟩)), (7, .pointer (some ⟨g4, 0, none⟩)), (8, .string (Pc.catB D5)), (10, .pointer (some ⟨b10, 0, none⟩)), (11, .pointer (some ⟨b11, 0, none⟩)), (47, .bool false)]) ⟨rfl, rfl, rfl, rfl, rfl, rfl, trivial⟩ ?_
      refine Sx.wy_haveS (fun w => Sx.St w0 F0 ([Sx.obj D_ (.deferred (some [])), Sx.blk b2 [.bool false] 4, Sx.blk b10 [.int .i64 ((pre.length : Int))] 3, Sx.blk b11 [.string (Pc.catB pre)] 9, Sx.blk gb12 [.pointer (some ⟨g4, 0, none⟩)] 23, Sx.blk g4 [.string (s13_), .slice (A13_) (L13_.length) (c13_), .pointer (Pc.AT.ptr T13_)] 68, Pc.rowl (Φ7) 5 (A13_) (c13_) (L13_), Pc.lib (Φ7), Sx.blk b1 [.int .i64 (leave)] 3] ++ R) w) 0 #[true, true, true, true, true, true, true, true, true, true, true, true, true, true, true, true, true, true, true, true] [(6, .pointer (some ⟨b2, 0, none⟩)), (7, .pointer (some ⟨g4, 0, none⟩)), (8, .string (Pc.catB D5)), (10, .pointer (some ⟨b10, 0, none⟩)), (11, .pointer (some ⟨b11, 0, none⟩))] ?_ (fun nd163 => ?_)
      ·
       clear h
       intro w h
       refine Sx.wy_done (by kernel_rfl) ?_
       refine Sx.qi_then ?_
       refine Sx.ci_ret ?_
       refine qn_then_ret ?_
       have hD_ := st_obj (i := 0) h rfl
       replace h := st_putobj (.deferred none) h
       replace h : Sx.St w0 F0 ([Sx.obj D_ (.deferred none), Sx.blk b2 [.bool false] 4, Sx.blk b10 [.int .i64 ((pre.length : Int))] 3, Sx.blk b11 [.string (Pc.catB pre)] 9, Sx.blk gb12 [.pointer (some ⟨g4, 0, none⟩)] 23, Sx.blk g4 [.string (s13_), .slice (A13_) (L13_.length) (c13_), .pointer (Pc.AT.ptr T13_)] 68, Pc.rowl (Φ7) 5 (A13_) (c13_) (L13_), Pc.lib (Φ7), Sx.blk b1 [.int .i64 (leave)] 3] ++ R) _ := h
       have hend_ := h
       replace h := st_selT [false, false, false, false, false, false, false, false, false] h
       refine qn_retD [_] hD_ ⟨⟨_, rfl, Sx.loadVar1 sh4 (by rw [Sx.blk_cell hend_ (i := 1) rfl]; rfl)⟩, trivial⟩ ?_
       have hCD_ : Pc.catB D5 = Pc.catB (Pc.chs s13_ L13_ (Pc.AT.fl T13_)) := by rw [ok13_.eD]
       have hDl_ : D5.length = (Pc.chs s13_ L13_ (Pc.AT.fl T13_)).length := by rw [ok13_.eD]
       have hfl_ := Pc.tok_len ok13_
       obtain ⟨suf_, hsf_⟩ := hx1_
       have hx4_ := Pc.catB_app pre suf_
       rw [← hsf_, ← hCD_] at hx4_
       have hx5_ := congrArg ByteArray.size hx4_
       rw [ByteArray.size_append] at hx5_
       have hx6_ := congrArg List.length hsf_
       rw [List.length_append, ← hDl_] at hx6_
       have hx7_ : Pc.catB pre = (Pc.catB D5).extract 0 (Pc.catB pre).size := by rw [hx4_, Pc.ap_left]
       exfalso
       first | omega | contradiction | (simp_all; done) | (simp_all; omega)
      refine Sx.wy_haveS (fun w => Sx.St w0 F0 ([Sx.obj D_ (.deferred (some [])), Sx.blk b2 [.bool false] 4, Sx.blk b10 [.int .i64 ((pre.length : Int))] 3, Sx.blk b11 [.string (Pc.catB pre)] 9, Sx.blk gb12 [.pointer (some ⟨g4, 0, none⟩)] 23, Sx.blk g4 [.string (s13_), .slice (A13_) (L13_.length) (c13_), .pointer (Pc.AT.ptr T13_)] 68, Pc.rowl (Φ7) 5 (A13_) (c13_) (L13_), Pc.lib (Φ7), Sx.blk b1 [.int .i64 (leave)] 3] ++ R) w) 1 #[true, true, true, true, true, true, true, true, true, true, true, true, true, true, true, true, true, true, true, false] [(6, .pointer (some ⟨b2, 0, none⟩)), (7, .pointer (some ⟨g4, 0, none⟩)), (8, .string (Pc.catB D5)), (10, .pointer (some ⟨b10, 0, none⟩)), (11, .pointer (some ⟨b11, 0, none⟩)), (61, .bool false)] ?_ (fun nd164 => ?_)
      ·
       clear h
       intro w h
       refine Sx.wy_one 19 rfl (by kernel_rfl) ?_
       ·
        refine wl_storeb 1 _ [.bool false] h rfl rfl rfl rfl rfl rfl sh4 rfl rfl (fun _ h => ?_)
        refine wl_nil ?_
        refine qn_wyl (by kernel_rfl) ?_ (nd163 _ h)
        exact ⟨rfl, rfl, rfl, rfl, rfl, trivial⟩
      refine Sx.wy_haveS (fun w => Sx.St w0 F0 ([Sx.obj D_ (.deferred (some [])), Sx.blk b2 [.bool false] 4, Sx.blk b10 [.int .i64 ((pre.length : Int))] 3, Sx.blk b11 [.string (Pc.catB pre)] 9, Sx.blk gb12 [.pointer (some ⟨g4, 0, none⟩)] 23, Sx.blk g4 [.string (s13_), .slice (A13_) (L13_.length) (c13_), .pointer (Pc.AT.ptr T13_)] 68, Pc.rowl (Φ7) 5 (A13_) (c13_) (L13_), Pc.lib (Φ7), Sx.blk b1 [.int .i64 (leave)] 3] ++ R) w) 2 #[true, true, true, true, true, true, true, true, true, true, true, true, true, true, true, true, true, true, false, false] [(6, .pointer (some ⟨b2, 0, none⟩)), (7, .pointer (some ⟨g4, 0, none⟩)), (8, .string (Pc.catB D5)), (10, .pointer (some ⟨b10, 0, none⟩)), (11, .pointer (some ⟨b11, 0, none⟩)), (54, .bool false), (60, undef)] ?_ (fun nd165 => ?_)
      ·
       clear h
       intro w h
       refine Sx.wy_one 18 rfl (by kernel_rfl) ?_
       ·
        refine wl_v rfl rfl (ov_pick_false _ rfl rfl) ?_
        refine wl_nil ?_
        refine qn_wyl (by kernel_rfl) ?_ (nd164 _ h)
        exact ⟨rfl, rfl, rfl, rfl, rfl, rfl, trivial⟩
      refine Sx.wy_haveS (fun w => Sx.St w0 F0 ([Sx.obj D_ (.deferred (some [])), Sx.blk b2 [.bool false] 4, Sx.blk b10 [.int .i64 ((pre.length : Int))] 3, Sx.blk b11 [.string (Pc.catB pre)] 9, Sx.blk gb12 [.pointer (some ⟨g4, 0, none⟩)] 23, Sx.blk g4 [.string (s13_), .slice (A13_) (L13_.length) (c13_), .pointer (Pc.AT.ptr T13_)] 68, Pc.rowl (Φ7) 5 (A13_) (c13_) (L13_), Pc.lib (Φ7), Sx.blk b1 [.int .i64 (leave)] 3] ++ R) w) 3 #[true, true, true, true, true, true, true, true, true, true, true, true, true, true, true, true, true, false, false, false] [(6, .pointer (some ⟨b2, 0, none⟩)), (7, .pointer (some ⟨g4, 0, none⟩)), (8, .string (Pc.catB D5)), (10, .pointer (some ⟨b10, 0, none⟩)), (11, .pointer (some ⟨b11, 0, none⟩)), (54, .bool false), (55, undef), (59, undef)] ?_ (fun nd166 => ?_)
      ·
       clear h
       intro w h
       refine Sx.wy_one 17 rfl (by kernel_rfl) ?_
       ·
        refine wl_skip rfl rfl ?_
        refine wl_nil ?_
        refine qn_wyl (by kernel_rfl) ?_ (nd165 _ h)
        exact ⟨rfl, rfl, rfl, rfl, rfl, rfl, rfl, trivial⟩
      refine Sx.wy_haveS (fun w => Sx.St w0 F0 ([Sx.obj D_ (.deferred (some [])), Sx.blk b2 [.bool false] 4, Sx.blk b10 [.int .i64 ((pre.length : Int))] 3, Sx.blk b11 [.string (Pc.catB pre)] 9, Sx.blk gb12 [.pointer (some ⟨g4, 0, none⟩)] 23, Sx.blk g4 [.string (s13_), .slice (A13_) (L13_.length) (c13_), .pointer (Pc.AT.ptr T13_)] 68, Pc.rowl (Φ7) 5 (A13_) (c13_) (L13_), Pc.lib (Φ7), Sx.blk b1 [.int .i64 (leave)] 3] ++ R) w) 4 #[true, true, true, true, true, true, true, true, true, true, true, true, true, true, true, true, false, false, false, false] [(6, .pointer (some ⟨b2, 0, none⟩)), (7, .pointer (some ⟨g4, 0, none⟩)), (8, .string (Pc.catB D5)), (10, .pointer (some ⟨b10, 0, none⟩)), (11, .pointer (some ⟨b11, 0, none⟩)), (54, .bool false), (55, undef), (56, undef), (58, undef)] ?_ (fun nd167 => ?_)
      ·
       clear h
       intro w h
       refine Sx.wy_one 16 rfl (by kernel_rfl) ?_
       ·
        refine wl_skip rfl rfl ?_
        refine wl_nil ?_
        refine qn_wyl (by kernel_rfl) ?_ (nd166 _ h)
        exact ⟨rfl, rfl, rfl, rfl, rfl, rfl, rfl, rfl, trivial⟩
      refine Sx.wy_haveS (fun w => Sx.St w0 F0 ([Sx.obj D_ (.deferred (some [])), Sx.blk b2 [.bool false] 4, Sx.blk b10 [.int .i64 ((pre.length : Int))] 3, Sx.blk b11 [.string (Pc.catB pre)] 9, Sx.blk gb12 [.pointer (some ⟨g4, 0, none⟩)] 23, Sx.blk g4 [.string (s13_), .slice (A13_) (L13_.length) (c13_), .pointer (Pc.AT.ptr T13_)] 68, Pc.rowl (Φ7) 5 (A13_) (c13_) (L13_), Pc.lib (Φ7), Sx.blk b1 [.int .i64 (leave)] 3] ++ R) w) 4 #[true, true, true, true, true, true, true, true, true, true, true, true, false, true, true, true, true, false, false, false] [(6, .pointer (some ⟨b2, 0, none⟩)), (7, .pointer (some ⟨g4, 0, none⟩)), (8, .string (Pc.catB D5)), (10, .pointer (some ⟨b10, 0, none⟩)), (11, .pointer (some ⟨b11, 0, none⟩)), (54, .bool false), (59, undef)] ?_ (fun nd168 => ?_)
      ·
       clear h
       intro w h
       refine Sx.wy_one 12 rfl (by kernel_rfl) ?_
       ·
        refine wl_skip rfl rfl ?_
        refine wl_nil ?_
        refine qn_wyl (by kernel_rfl) ?_ (nd166 _ h)
        exact ⟨rfl, rfl, rfl, rfl, rfl, rfl, rfl, rfl, trivial⟩
      refine Sx.wy_haveS (fun w => Sx.St w0 F0 ([Sx.obj D_ (.deferred (some [])), Sx.blk b2 [.bool false] 4, Sx.blk b10 [.int .i64 ((pre.length : Int))] 3, Sx.blk b11 [.string (Pc.catB pre)] 9, Sx.blk gb12 [.pointer (some ⟨g4, 0, none⟩)] 23, Sx.blk g4 [.string (s13_), .slice (A13_) (L13_.length) (c13_), .pointer (Pc.AT.ptr T13_)] 68, Pc.rowl (Φ7) 5 (A13_) (c13_) (L13_), Pc.lib (Φ7), Sx.blk b1 [.int .i64 (leave)] 3] ++ R) w) 5 #[true, true, true, true, true, true, true, true, true, true, true, true, true, true, true, false, false, false, false, false] [(6, .pointer (some ⟨b2, 0, none⟩)), (7, .pointer (some ⟨g4, 0, none⟩)), (8, .string (Pc.catB D5)), (10, .pointer (some ⟨b10, 0, none⟩)), (11, .pointer (some ⟨b11, 0, none⟩)), (54, .bool false), (55, undef), (56, undef), (57, undef)] ?_ (fun nd169 => ?_)
      ·
       clear h
       intro w h
       refine Sx.wy_one 15 rfl (by kernel_rfl) ?_
       ·
        refine wl_skip rfl rfl ?_
        refine wl_nil ?_
        refine qn_wyl (by kernel_rfl) ?_ (nd167 _ h)
        exact ⟨rfl, rfl, rfl, rfl, rfl, rfl, rfl, rfl, rfl, trivial⟩
      refine Sx.wy_haveS (fun w => Sx.St w0 F0 ([Sx.obj D_ (.deferred (some [])), Sx.blk b2 [.bool false] 4, Sx.blk b10 [.int .i64 ((pre.length : Int))] 3, Sx.blk b11 [.string (Pc.catB pre)] 9, Sx.blk gb12 [.pointer (some ⟨g4, 0, none⟩)] 23, Sx.blk g4 [.string (s13_), .slice (A13_) (L13_.length) (c13_), .pointer (Pc.AT.ptr T13_)] 68, Pc.rowl (Φ7) 5 (A13_) (c13_) (L13_), Pc.lib (Φ7), Sx.blk b1 [.int .i64 (leave)] 3] ++ R) w) 5 #[true, true, true, true, true, true, true, true, true, true, true, true, true, false, true, true, false, false, false, false] [(6, .pointer (some ⟨b2, 0, none⟩)), (7, .pointer (some ⟨g4, 0, none⟩)), (8, .string (Pc.catB D5)), (10, .pointer (some ⟨b10, 0, none⟩)), (11, .pointer (some ⟨b11, 0, none⟩)), (54, .bool false), (55, undef), (58, undef)] ?_ (fun nd170 => ?_)
      ·
       clear h
       intro w h
       refine Sx.wy_one 13 rfl (by kernel_rfl) ?_
       ·
        refine wl_skip rfl rfl ?_
        refine wl_nil ?_
        refine qn_wyl (by kernel_rfl) ?_ (nd167 _ h)
        exact ⟨rfl, rfl, rfl, rfl, rfl, rfl, rfl, rfl, rfl, trivial⟩
      refine Sx.wy_haveS (fun w => Sx.St w0 F0 ([Sx.obj D_ (.deferred (some [])), Sx.blk b2 [.bool false] 4, Sx.blk b10 [.int .i64 ((pre.length : Int))] 3, Sx.blk b11 [.string (Pc.catB pre)] 9, Sx.blk gb12 [.pointer (some ⟨g4, 0, none⟩)] 23, Sx.blk g4 [.string (s13_), .slice (A13_) (L13_.length) (c13_), .pointer (Pc.AT.ptr T13_)] 68, Pc.rowl (Φ7) 5 (A13_) (c13_) (L13_), Pc.lib (Φ7), Sx.blk b1 [.int .i64 (leave)] 3] ++ R) w) 5 #[true, true, true, true, true, true, true, true, true, true, true, true, false, true, true, true, false, false, false, false] [(6, .pointer (some ⟨b2, 0, none⟩)), (7, .pointer (some ⟨g4, 0, none⟩)), (8, .string (Pc.catB D5)), (10, .pointer (some ⟨b10, 0, none⟩)), (11, .pointer (some ⟨b11, 0, none⟩)), (54, .bool false), (56, undef), (58, undef)] ?_ (fun nd171 => ?_)
      ·
       clear h
       intro w h
       refine Sx.wy_two 12 16 rfl rfl (by kernel_rfl) ?_ ?_
       ·
        refine wl_skip rfl rfl ?_
        refine wl_nil ?_
        refine qn_wyl (by kernel_rfl) ?_ (nd167 _ h)
        exact ⟨rfl, rfl, rfl, rfl, rfl, rfl, rfl, rfl, rfl, trivial⟩
       ·
        refine wl_skip rfl rfl ?_
        refine wl_nil ?_
        refine qn_wyl (by kernel_rfl) ?_ (nd168 _ h)
        exact ⟨rfl, rfl, rfl, rfl, rfl, rfl, rfl, trivial⟩
      refine Sx.wy_haveS (fun w => Sx.St w0 F0 ([Sx.obj D_ (.deferred (some [])), Sx.blk b2 [.bool false] 4, Sx.blk b10 [.int .i64 ((pre.length : Int))] 3, Sx.blk b11 [.string (Pc.catB pre)] 9, Sx.blk gb12 [.pointer (some ⟨g4, 0, none⟩)] 23, Sx.blk g4 [.string (s13_), .slice (A13_) (L13_.length) (c13_), .pointer (Pc.AT.ptr T13_)] 68, Pc.rowl (Φ7) 5 (A13_) (c13_) (L13_), Pc.lib (Φ7), Sx.blk b1 [.int .i64 (leave)] 3] ++ R) w) 6 #[true, true, true, true, true, true, true, true, true, true, true, true, true, true, false, false, false, false, false, false] [(6, .pointer (some ⟨b2, 0, none⟩)), (7, .pointer (some ⟨g4, 0, none⟩)), (8, .string (Pc.catB D5)), (10, .pointer (some ⟨b10, 0, none⟩)), (11, .pointer (some ⟨b11, 0, none⟩)), (54, .bool false), (55, undef), (56, undef)] ?_ (fun nd172 => ?_)
      ·
       clear h
       intro w h
       refine Sx.wy_one 14 rfl (by kernel_rfl) ?_
       ·
        refine wl_skip rfl rfl ?_
        refine wl_nil ?_
        refine qn_wyl (by kernel_rfl) ?_ (nd169 _ h)
        exact ⟨rfl, rfl, rfl, rfl, rfl, rfl, rfl, rfl, rfl, trivial⟩
      refine Sx.wy_haveS (fun w => Sx.St w0 F0 ([Sx.obj D_ (.deferred (some [])), Sx.blk b2 [.bool false] 4, Sx.blk b10 [.int .i64 ((pre.length : Int))] 3, Sx.blk b11 [.string (Pc.catB pre)] 9, Sx.blk gb12 [.pointer (some ⟨g4, 0, none⟩)] 23, Sx.blk g4 [.string (s13_), .slice (A13_) (L13_.length) (c13_), .pointer (Pc.AT.ptr T13_)] 68, Pc.rowl (Φ7) 5 (A13_) (c13_) (L13_), Pc.lib (Φ7), Sx.blk b1 [.int .i64 (leave)] 3] ++ R) w) 6 #[true, true, true, true, true, true, true, true, true, true, true, true, true, false, true, false, false, false, false, false] [(6, .pointer (some ⟨b2, 0, none⟩)), (7, .pointer (some ⟨g4, 0, none⟩)), (8, .string (Pc.catB D5)), (10, .pointer (some ⟨b10, 0, none⟩)), (11, .pointer (some ⟨b11, 0, none⟩)), (54, .bool false), (55, undef), (57, undef)] ?_ (fun nd173 => ?_)
      ·
       clear h
       intro w h
       refine Sx.wy_two 13 15 rfl rfl (by kernel_rfl) ?_ ?_
       ·
        refine wl_skip rfl rfl ?_
        refine wl_nil ?_
        refine qn_wyl (by kernel_rfl) ?_ (nd169 _ h)
        exact ⟨rfl, rfl, rfl, rfl, rfl, rfl, rfl, rfl, rfl, trivial⟩
       ·
        refine wl_skip rfl rfl ?_
        refine wl_nil ?_
        refine qn_wyl (by kernel_rfl) ?_ (nd170 _ h)
        exact ⟨rfl, rfl, rfl, rfl, rfl, rfl, rfl, rfl, trivial⟩
      refine Sx.wy_haveS (fun w => Sx.St w0 F0 ([Sx.obj D_ (.deferred (some [])), Sx.blk b2 [.bool false] 4, Sx.blk b10 [.int .i64 ((pre.length : Int))] 3, Sx.blk b11 [.string (Pc.catB pre)] 9, Sx.blk gb12 [.pointer (some ⟨g4, 0, none⟩)] 23, Sx.blk g4 [.string (s13_), .slice (A13_) (L13_.length) (c13_), .pointer (Pc.AT.ptr T13_)] 68, Pc.rowl (Φ7) 5 (A13_) (c13_) (L13_), Pc.lib (Φ7), Sx.blk b1 [.int .i64 (leave)] 3] ++ R) w) 6 #[true, true, true, true, true, true, true, true, true, true, true, true, false, true, true, false, false, false, false, false] [(6, .pointer (some ⟨b2, 0, none⟩)), (7, .pointer (some ⟨g4, 0, none⟩)), (8, .string (Pc.catB D5)), (10, .pointer (some ⟨b10, 0, none⟩)), (11, .pointer (some ⟨b11, 0, none⟩)), (54, .bool false), (56, undef), (57, undef)] ?_ (fun nd174 => ?_)
      ·
       clear h
       intro w h
       refine Sx.wy_two 12 15 rfl rfl (by kernel_rfl) ?_ ?_
       ·
        refine wl_skip rfl rfl ?_
        refine wl_nil ?_
        refine qn_wyl (by kernel_rfl) ?_ (nd169 _ h)
        exact ⟨rfl, rfl, rfl, rfl, rfl, rfl, rfl, rfl, rfl, trivial⟩
       ·
        refine wl_skip rfl rfl ?_
        refine wl_nil ?_
        refine qn_wyl (by kernel_rfl) ?_ (nd171 _ h)
        exact ⟨rfl, rfl, rfl, rfl, rfl, rfl, rfl, rfl, trivial⟩
      refine Sx.wy_haveS (fun w => Sx.St w0 F0 ([Sx.obj D_ (.deferred (some [])), Sx.blk b2 [.bool false] 4, Sx.blk b10 [.int .i64 ((pre.length : Int))] 3, Sx.blk b11 [.string (Pc.catB pre)] 9, Sx.blk gb12 [.pointer (some ⟨g4, 0, none⟩)] 23, Sx.blk g4 [.string (s13_), .slice (A13_) (L13_.length) (c13_), .pointer (Pc.AT.ptr T13_)] 68, Pc.rowl (Φ7) 5 (A13_) (c13_) (L13_), Pc.lib (Φ7), Sx.blk b1 [.int .i64 (leave)] 3] ++ R) w) 6 #[true, true, true, true, true, true, true, true, true, true, true, true, false, false, true, true, false, false, false, false] [(6, .pointer (some ⟨b2, 0, none⟩)), (7, .pointer (some ⟨g4, 0, none⟩)), (8, .string (Pc.catB D5)), (10, .pointer (some ⟨b10, 0, none⟩)), (11, .pointer (some ⟨b11, 0, none⟩)), (54, .bool false), (58, undef)] ?_ (fun nd175 => ?_)
      ·
       clear h
       intro w h
       refine Sx.wy_two 12 13 rfl rfl (by kernel_rfl) ?_ ?_
       ·
        refine wl_skip rfl rfl ?_
        refine wl_nil ?_
        refine qn_wyl (by kernel_rfl) ?_ (nd170 _ h)
        exact ⟨rfl, rfl, rfl, rfl, rfl, rfl, rfl, rfl, trivial⟩
       ·
        refine wl_skip rfl rfl ?_
        refine wl_nil ?_
        refine qn_wyl (by kernel_rfl) ?_ (nd171 _ h)
        exact ⟨rfl, rfl, rfl, rfl, rfl, rfl, rfl, rfl, trivial⟩
      refine Sx.wy_haveS (fun w => Sx.St w0 F0 ([Sx.obj D_ (.deferred (some [])), Sx.blk b2 [.bool false] 4, Sx.blk b10 [.int .i64 ((pre.length : Int))] 3, Sx.blk b11 [.string (Pc.catB pre)] 9, Sx.blk gb12 [.pointer (some ⟨g4, 0, none⟩)] 23, Sx.blk g4 [.string (s13_), .slice (A13_) (L13_.length) (c13_), .pointer (Pc.AT.ptr T13_)] 68, Pc.rowl (Φ7) 5 (A13_) (c13_) (L13_), Pc.lib (Φ7), Sx.blk b1 [.int .i64 (leave)] 3] ++ R) w) 7 #[true, true, true, true, true, true, true, true, true, true, true, true, true, false, false, false, false, false, false, false] [(6, .pointer (some ⟨b2, 0, none⟩)), (7, .pointer (some ⟨g4, 0, none⟩)), (8, .string (Pc.catB D5)), (10, .pointer (some ⟨b10, 0, none⟩)), (11, .pointer (some ⟨b11, 0, none⟩)), (54, .bool false), (55, undef)] ?_ (fun nd176 => ?_)
      ·
       clear h
       intro w h
       refine Sx.wy_two 13 14 rfl rfl (by kernel_rfl) ?_ ?_
       ·
        refine wl_skip rfl rfl ?_
        refine wl_nil ?_
        refine qn_wyl (by kernel_rfl) ?_ (nd172 _ h)
        exact ⟨rfl, rfl, rfl, rfl, rfl, rfl, rfl, rfl, trivial⟩
       ·
        refine wl_skip rfl rfl ?_
        refine wl_nil ?_
        refine qn_wyl (by kernel_rfl) ?_ (nd173 _ h)
        exact ⟨rfl, rfl, rfl, rfl, rfl, rfl, rfl, rfl, trivial⟩
      refine Sx.wy_haveS (fun w => Sx.St w0 F0 ([Sx.obj D_ (.deferred (some [])), Sx.blk b2 [.bool false] 4, Sx.blk b10 [.int .i64 ((pre.length : Int))] 3, Sx.blk b11 [.string (Pc.catB pre)] 9, Sx.blk gb12 [.pointer (some ⟨g4, 0, none⟩)] 23, Sx.blk g4 [.string (s13_), .slice (A13_) (L13_.length) (c13_), .pointer (Pc.AT.ptr T13_)] 68, Pc.rowl (Φ7) 5 (A13_) (c13_) (L13_), Pc.lib (Φ7), Sx.blk b1 [.int .i64 (leave)] 3] ++ R) w) 7 #[true, true, true, true, true, true, true, true, true, true, true, true, false, true, false, false, false, false, false, false] [(6, .pointer (some ⟨b2, 0, none⟩)), (7, .pointer (some ⟨g4, 0, none⟩)), (8, .string (Pc.catB D5)), (10, .pointer (some ⟨b10, 0, none⟩)), (11, .pointer (some ⟨b11, 0, none⟩)), (54, .bool false), (56, undef)] ?_ (fun nd177 => ?_)
      ·
       clear h
       intro w h
       refine Sx.wy_two 12 14 rfl rfl (by kernel_rfl) ?_ ?_
       ·
        refine wl_skip rfl rfl ?_
        refine wl_nil ?_
        refine qn_wyl (by kernel_rfl) ?_ (nd172 _ h)
        exact ⟨rfl, rfl, rfl, rfl, rfl, rfl, rfl, rfl, trivial⟩
       ·
        refine wl_skip rfl rfl ?_
        refine wl_nil ?_
        refine qn_wyl (by kernel_rfl) ?_ (nd174 _ h)
        exact ⟨rfl, rfl, rfl, rfl, rfl, rfl, rfl, rfl, trivial⟩
      refine Sx.wy_haveS (fun w => Sx.St w0 F0 ([Sx.obj D_ (.deferred (some [])), Sx.blk b2 [.bool false] 4, Sx.blk b10 [.int .i64 ((pre.length : Int))] 3, Sx.blk b11 [.string (Pc.catB pre)] 9, Sx.blk gb12 [.pointer (some ⟨g4, 0, none⟩)] 23, Sx.blk g4 [.string (s13_), .slice (A13_) (L13_.length) (c13_), .pointer (Pc.AT.ptr T13_)] 68, Pc.rowl (Φ7) 5 (A13_) (c13_) (L13_), Pc.lib (Φ7), Sx.blk b1 [.int .i64 (leave)] 3] ++ R) w) 7 #[true, true, true, true, true, true, true, true, true, true, true, true, false, false, true, false, false, false, false, false] [(6, .pointer (some ⟨b2, 0, none⟩)), (7, .pointer (some ⟨g4, 0, none⟩)), (8, .string (Pc.catB D5)), (10, .pointer (some ⟨b10, 0, none⟩)), (11, .pointer (some ⟨b11, 0, none⟩)), (54, .bool false), (57, undef)] ?_ (fun nd178 => ?_)
      ·
       clear h
       intro w h
       refine Sx.wy_three 12 13 15 rfl rfl rfl (by kernel_rfl) ?_ ?_ ?_
       ·
        refine wl_skip rfl rfl ?_
        refine wl_nil ?_
        refine qn_wyl (by kernel_rfl) ?_ (nd173 _ h)
        exact ⟨rfl, rfl, rfl, rfl, rfl, rfl, rfl, rfl, trivial⟩
       ·
        refine wl_skip rfl rfl ?_
        refine wl_nil ?_
        refine qn_wyl (by kernel_rfl) ?_ (nd174 _ h)
        exact ⟨rfl, rfl, rfl, rfl, rfl, rfl, rfl, rfl, trivial⟩
       ·
        refine wl_skip rfl rfl ?_
        refine wl_nil ?_
        refine qn_wyl (by kernel_rfl) ?_ (nd175 _ h)
        exact ⟨rfl, rfl, rfl, rfl, rfl, rfl, rfl, trivial⟩
      refine Sx.wy_haveS (fun w => Sx.St w0 F0 ([Sx.obj D_ (.deferred (some [])), Sx.blk b2 [.bool false] 4, Sx.blk b10 [.int .i64 ((pre.length : Int))] 3, Sx.blk b11 [.string (Pc.catB pre)] 9, Sx.blk gb12 [.pointer (some ⟨g4, 0, none⟩)] 23, Sx.blk g4 [.string (s13_), .slice (A13_) (L13_.length) (c13_), .pointer (Pc.AT.ptr T13_)] 68, Pc.rowl (Φ7) 5 (A13_) (c13_) (L13_), Pc.lib (Φ7), Sx.blk b1 [.int .i64 (leave)] 3] ++ R) w) 8 #[true, true, true, true, true, true, true, true, true, true, true, true, false, false, false, false, false, false, false, false] [(6, .pointer (some ⟨b2, 0, none⟩)), (7, .pointer (some ⟨g4, 0, none⟩)), (8, .string (Pc.catB D5)), (10, .pointer (some ⟨b10, 0, none⟩)), (11, .pointer (some ⟨b11, 0, none⟩)), (54, .bool false)] ?_ (fun nd179 => ?_)
      ·
       clear h
       intro w h
       refine Sx.wy_three 12 13 14 rfl rfl rfl (by kernel_rfl) ?_ ?_ ?_
       ·
        refine wl_skip rfl rfl ?_
        refine wl_nil ?_
        refine qn_wyl (by kernel_rfl) ?_ (nd176 _ h)
        exact ⟨rfl, rfl, rfl, rfl, rfl, rfl, rfl, trivial⟩
       ·
        refine wl_skip rfl rfl ?_
        refine wl_nil ?_
        refine qn_wyl (by kernel_rfl) ?_ (nd177 _ h)
        exact ⟨rfl, rfl, rfl, rfl, rfl, rfl, rfl, trivial⟩
       ·
        refine wl_skip rfl rfl ?_
        refine wl_nil ?_
        refine qn_wyl (by kernel_rfl) ?_ (nd178 _ h)
        exact ⟨rfl, rfl, rfl, rfl, rfl, rfl, rfl, trivial⟩
      refine Sx.wy_haveS (fun w => Sx.St w0 F0 ([Sx.obj D_ (.deferred (some [])), Sx.blk b2 [.bool false] 4, Sx.blk b10 [.int .i64 ((pre.length : Int))] 3, Sx.blk b11 [.string (Pc.catB pre)] 9, Sx.blk gb12 [.pointer (some ⟨g4, 0, none⟩)] 23, Sx.blk g4 [.string (s13_), .slice (A13_) (L13_.length) (c13_), .pointer (Pc.AT.ptr T13_)] 68, Pc.rowl (Φ7) 5 (A13_) (c13_) (L13_), Pc.lib (Φ7), Sx.blk b1 [.int .i64 (leave)] 3] ++ R) w) 9 #[true, true, true, true, true, true, true, true, true, true, true, false, false, false, false, false, false, false, false, false] [(6, .pointer (some ⟨b2, 0, none⟩)), (7, .pointer (some ⟨g4, 0, none⟩)), (8, .string (Pc.catB D5)), (10, .pointer (some ⟨b10, 0, none⟩)), (11, .pointer (some ⟨b11, 0, none⟩)), (53, .bool false)] ?_ (fun nd180 => ?_)
      ·
       clear h
       intro w h
       refine Sx.wy_one 11 rfl (by kernel_rfl) ?_
       ·
        refine wl_v rfl rfl (ov_move _ rfl) ?_
        refine wl_nil ?_
        refine qn_wyl (by kernel_rfl) ?_ (nd179 _ h)
        exact ⟨rfl, rfl, rfl, rfl, rfl, rfl, trivial⟩
      refine Sx.wy_haveS (fun w => Sx.St w0 F0 ([Sx.obj D_ (.deferred (some [])), Sx.blk b2 [.bool false] 4, Sx.blk b10 [.int .i64 ((pre.length : Int))] 3, Sx.blk b11 [.string (Pc.catB pre)] 9, Sx.blk gb12 [.pointer (some ⟨g4, 0, none⟩)] 23, Sx.blk g4 [.string (s13_), .slice (A13_) (L13_.length) (c13_), .pointer (Pc.AT.ptr T13_)] 68, Pc.rowl (Φ7) 5 (A13_) (c13_) (L13_), Pc.lib (Φ7), Sx.blk b1 [.int .i64 (leave)] 3] ++ R) w) 10 #[true, true, true, true, true, true, true, true, true, true, false, false, false, false, false, false, false, false, false, false] [(6, .pointer (some ⟨b2, 0, none⟩)), (7, .pointer (some ⟨g4, 0, none⟩)), (8, .string (Pc.catB D5)), (10, .pointer (some ⟨b10, 0, none⟩)), (11, .pointer (some ⟨b11, 0, none⟩)), (47, .bool false), (52, undef)] ?_ (fun nd181 => ?_)
      ·
       clear h
       intro w h
       refine Sx.wy_one 10 rfl (by kernel_rfl) ?_
       ·
        refine wl_v rfl rfl (ov_pick_false _ rfl rfl) ?_
        refine wl_nil ?_
        refine qn_wyl (by kernel_rfl) ?_ (nd180 _ h)
        exact ⟨rfl, rfl, rfl, rfl, rfl, rfl, trivial⟩
      refine Sx.wy_haveS (fun w => Sx.St w0 F0 ([Sx.obj D_ (.deferred (some [])), Sx.blk b2 [.bool false] 4, Sx.blk b10 [.int .i64 ((pre.length : Int))] 3, Sx.blk b11 [.string (Pc.catB pre)] 9, Sx.blk gb12 [.pointer (some ⟨g4, 0, none⟩)] 23, Sx.blk g4 [.string (s13_), .slice (A13_) (L13_.length) (c13_), .pointer (Pc.AT.ptr T13_)] 68, Pc.rowl (Φ7) 5 (A13_) (c13_) (L13_), Pc.lib (Φ7), Sx.blk b1 [.int .i64 (leave)] 3] ++ R) w) 11 #[true, true, true, true, true, true, true, true, true, false, false, false, false, false, false, false, false, false, false, false] [(6, .pointer (some ⟨b2, 0, none⟩)), (7, .pointer (some ⟨g4, 0, none⟩)), (8, .string (Pc.catB D5)), (10, .pointer (some ⟨b10, 0, none⟩)), (11, .pointer (some ⟨b11, 0, none⟩)), (47, .bool false), (49, undef), (51, undef)] ?_ (fun nd182 => ?_)
      ·
       clear h
       intro w h
       refine Sx.wy_one 9 rfl (by kernel_rfl) ?_
       ·
        refine wl_skip rfl rfl ?_
        refine wl_nil ?_
        refine qn_wyl (by kernel_rfl) ?_ (nd181 _ h)
        exact ⟨rfl, rfl, rfl, rfl, rfl, rfl, rfl, trivial⟩
      refine Sx.wy_haveS (fun w => Sx.St w0 F0 ([Sx.obj D_ (.deferred (some [])), Sx.blk b2 [.bool false] 4, Sx.blk b10 [.int .i64 ((pre.length : Int))] 3, Sx.blk b11 [.string (Pc.catB pre)] 9, Sx.blk gb12 [.pointer (some ⟨g4, 0, none⟩)] 23, Sx.blk g4 [.string (s13_), .slice (A13_) (L13_.length) (c13_), .pointer (Pc.AT.ptr T13_)] 68, Pc.rowl (Φ7) 5 (A13_) (c13_) (L13_), Pc.lib (Φ7), Sx.blk b1 [.int .i64 (leave)] 3] ++ R) w) 12 #[true, true, true, true, true, true, true, true, false, false, false, false, false, false, false, false, false, false, false, false] [(6, .pointer (some ⟨b2, 0, none⟩)), (7, .pointer (some ⟨g4, 0, none⟩)), (8, .string (Pc.catB D5)), (10, .pointer (some ⟨b10, 0, none⟩)), (11, .pointer (some ⟨b11, 0, none⟩)), (47, .bool false), (49, undef), (50, undef)] ?_ (fun nd183 => ?_)
      ·
       clear h
       intro w h
       refine Sx.wy_one 8 rfl (by kernel_rfl) ?_
       ·
        refine wl_skip rfl rfl ?_
        refine wl_nil ?_
        refine qn_wyl (by kernel_rfl) ?_ (nd182 _ h)
        exact ⟨rfl, rfl, rfl, rfl, rfl, rfl, rfl, rfl, trivial⟩
      refine Sx.wy_haveS (fun w => Sx.St w0 F0 ([Sx.obj D_ (.deferred (some [])), Sx.blk b2 [.bool false] 4, Sx.blk b10 [.int .i64 ((pre.length : Int))] 3, Sx.blk b11 [.string (Pc.catB pre)] 9, Sx.blk gb12 [.pointer (some ⟨g4, 0, none⟩)] 23, Sx.blk g4 [.string (s13_), .slice (A13_) (L13_.length) (c13_), .pointer (Pc.AT.ptr T13_)] 68, Pc.rowl (Φ7) 5 (A13_) (c13_) (L13_), Pc.lib (Φ7), Sx.blk b1 [.int .i64 (leave)] 3] ++ R) w) 12 #[true, true, true, true, true, true, false, true, true, false, false, false, false, false, false, false, false, false, false, false] [(6, .pointer (some ⟨b2, 0, none⟩)), (7, .pointer (some ⟨g4, 0, none⟩)), (8, .string (Pc.catB D5)), (10, .pointer (some ⟨b10, 0, none⟩)), (11, .pointer (some ⟨b11, 0, none⟩)), (47, .bool false), (48, undef), (51, undef)] ?_ (fun nd184 => ?_)
      ·
       clear h
       intro w h
       refine Sx.wy_one 6 rfl (by kernel_rfl) ?_
       ·
        refine wl_skip rfl rfl ?_
        refine wl_nil ?_
        refine qn_wyl (by kernel_rfl) ?_ (nd182 _ h)
        exact ⟨rfl, rfl, rfl, rfl, rfl, rfl, rfl, rfl, trivial⟩
      refine Sx.wy_haveS (fun w => Sx.St w0 F0 ([Sx.obj D_ (.deferred (some [])), Sx.blk b2 [.bool false] 4, Sx.blk b10 [.int .i64 ((pre.length : Int))] 3, Sx.blk b11 [.string (Pc.catB pre)] 9, Sx.blk gb12 [.pointer (some ⟨g4, 0, none⟩)] 23, Sx.blk g4 [.string (s13_), .slice (A13_) (L13_.length) (c13_), .pointer (Pc.AT.ptr T13_)] 68, Pc.rowl (Φ7) 5 (A13_) (c13_) (L13_), Pc.lib (Φ7), Sx.blk b1 [.int .i64 (leave)] 3] ++ R) w) 13 #[true, true, true, true, true, true, true, false, false, false, false, false, false, false, false, false, false, false, false, false] [(6, .pointer (some ⟨b2, 0, none⟩)), (7, .pointer (some ⟨g4, 0, none⟩)), (8, .string (Pc.catB D5)), (10, .pointer (some ⟨b10, 0, none⟩)), (11, .pointer (some ⟨b11, 0, none⟩)), (47, .bool false), (49, undef)] ?_ (fun nd185 => ?_)
      ·
       clear h
       intro w h
       refine Sx.wy_one 7 rfl (by kernel_rfl) ?_
       ·
        refine wl_skip rfl rfl ?_
        refine wl_nil ?_
        refine qn_wyl (by kernel_rfl) ?_ (nd183 _ h)
        exact ⟨rfl, rfl, rfl, rfl, rfl, rfl, rfl, rfl, trivial⟩
      refine Sx.wy_haveS (fun w => Sx.St w0 F0 ([Sx.obj D_ (.deferred (some [])), Sx.blk b2 [.bool false] 4, Sx.blk b10 [.int .i64 ((pre.length : Int))] 3, Sx.blk b11 [.string (Pc.catB pre)] 9, Sx.blk gb12 [.pointer (some ⟨g4, 0, none⟩)] 23, Sx.blk g4 [.string (s13_), .slice (A13_) (L13_.length) (c13_), .pointer (Pc.AT.ptr T13_)] 68, Pc.rowl (Φ7) 5 (A13_) (c13_) (L13_), Pc.lib (Φ7), Sx.blk b1 [.int .i64 (leave)] 3] ++ R) w) 13 #[true, true, true, true, true, true, false, true, false, false, false, false, false, false, false, false, false, false, false, false] [(6, .pointer (some ⟨b2, 0, none⟩)), (7, .pointer (some ⟨g4, 0, none⟩)), (8, .string (Pc.catB D5)), (10, .pointer (some ⟨b10, 0, none⟩)), (11, .pointer (some ⟨b11, 0, none⟩)), (47, .bool false), (48, undef), (50, undef)] ?_ (fun nd186 => ?_)
      ·
       clear h
       intro w h
       refine Sx.wy_two 6 8 rfl rfl (by kernel_rfl) ?_ ?_
       ·
        refine wl_skip rfl rfl ?_
        refine wl_nil ?_
        refine qn_wyl (by kernel_rfl) ?_ (nd183 _ h)
        exact ⟨rfl, rfl, rfl, rfl, rfl, rfl, rfl, rfl, trivial⟩
       ·
        refine wl_skip rfl rfl ?_
        refine wl_nil ?_
        refine qn_wyl (by kernel_rfl) ?_ (nd184 _ h)
        exact ⟨rfl, rfl, rfl, rfl, rfl, rfl, rfl, rfl, trivial⟩
      refine Sx.wy_haveS (fun w => Sx.St w0 F0 ([Sx.obj D_ (.deferred (some [])), Sx.blk b2 [.bool false] 4, Sx.blk b10 [.int .i64 ((pre.length : Int))] 3, Sx.blk b11 [.string (Pc.catB pre)] 9, Sx.blk gb12 [.pointer (some ⟨g4, 0, none⟩)] 23, Sx.blk g4 [.string (s13_), .slice (A13_) (L13_.length) (c13_), .pointer (Pc.AT.ptr T13_)] 68, Pc.rowl (Φ7) 5 (A13_) (c13_) (L13_), Pc.lib (Φ7), Sx.blk b1 [.int .i64 (leave)] 3] ++ R) w) 13 #[true, true, true, true, true, false, false, true, true, false, false, false, false, false, false, false, false, false, false, false] [(6, .pointer (some ⟨b2, 0, none⟩)), (7, .pointer (some ⟨g4, 0, none⟩)), (8, .string (Pc.catB D5)), (10, .pointer (some ⟨b10, 0, none⟩)), (11, .pointer (some ⟨b11, 0, none⟩)), (47, .bool false), (51, undef)] ?_ (fun nd187 => ?_)
      ·
       clear h
       intro w h
       refine Sx.wy_one 5 rfl (by kernel_rfl) ?_
       ·
        refine wl_skip rfl rfl ?_
        refine wl_nil ?_
        refine qn_wyl (by kernel_rfl) ?_ (nd184 _ h)
        exact ⟨rfl, rfl, rfl, rfl, rfl, rfl, rfl, rfl, trivial⟩
      refine Sx.wy_haveS (fun w => Sx.St w0 F0 ([Sx.obj D_ (.deferred (some [])), Sx.blk b2 [.bool false] 4, Sx.blk b10 [.int .i64 ((pre.length : Int))] 3, Sx.blk b11 [.string (Pc.catB pre)] 9, Sx.blk gb12 [.pointer (some ⟨g4, 0, none⟩)] 23, Sx.blk g4 [.string (s13_), .slice (A13_) (L13_.length) (c13_), .pointer (Pc.AT.ptr T13_)] 68, Pc.rowl (Φ7) 5 (A13_) (c13_) (L13_), Pc.lib (Φ7), Sx.blk b1 [.int .i64 (leave)] 3] ++ R) w) 14 #[true, true, true, true, true, true, false, false, false, false, false, false, false, false, false, false, false, false, false, false] [(6, .pointer (some ⟨b2, 0, none⟩)), (7, .pointer (some ⟨g4, 0, none⟩)), (8, .string (Pc.catB D5)), (10, .pointer (some ⟨b10, 0, none⟩)), (11, .pointer (some ⟨b11, 0, none⟩)), (47, .bool false), (48, undef)] ?_ (fun nd188 => ?_)
      ·
       clear h
       intro w h
       refine Sx.wy_two 6 7 rfl rfl (by kernel_rfl) ?_ ?_
       ·
        refine wl_skip rfl rfl ?_
        refine wl_nil ?_
        refine qn_wyl (by kernel_rfl) ?_ (nd185 _ h)
        exact ⟨rfl, rfl, rfl, rfl, rfl, rfl, rfl, trivial⟩
       ·
        refine wl_skip rfl rfl ?_
        refine wl_nil ?_
        refine qn_wyl (by kernel_rfl) ?_ (nd186 _ h)
        exact ⟨rfl, rfl, rfl, rfl, rfl, rfl, rfl, rfl, trivial⟩
      refine Sx.wy_haveS (fun w => Sx.St w0 F0 ([Sx.obj D_ (.deferred (some [])), Sx.blk b2 [.bool false] 4, Sx.blk b10 [.int .i64 ((pre.length : Int))] 3, Sx.blk b11 [.string (Pc.catB pre)] 9, Sx.blk gb12 [.pointer (some ⟨g4, 0, none⟩)] 23, Sx.blk g4 [.string (s13_), .slice (A13_) (L13_.length) (c13_), .pointer (Pc.AT.ptr T13_)] 68, Pc.rowl (Φ7) 5 (A13_) (c13_) (L13_), Pc.lib (Φ7), Sx.blk b1 [.int .i64 (leave)] 3] ++ R) w) 14 #[true, true, true, true, true, false, false, true, false, false, false, false, false, false, false, false, false, false, false, false] [(6, .pointer (some ⟨b2, 0, none⟩)), (7, .pointer (some ⟨g4, 0, none⟩)), (8, .string (Pc.catB D5)), (10, .pointer (some ⟨b10, 0, none⟩)), (11, .pointer (some ⟨b11, 0, none⟩)), (47, .bool false), (50, undef)] ?_ (fun nd189 => ?_)
      ·
       clear h
       intro w h
       refine Sx.wy_two 5 8 rfl rfl (by kernel_rfl) ?_ ?_
       ·
        refine wl_skip rfl rfl ?_
        refine wl_nil ?_
        refine qn_wyl (by kernel_rfl) ?_ (nd186 _ h)
        exact ⟨rfl, rfl, rfl, rfl, rfl, rfl, rfl, rfl, trivial⟩
       ·
        refine wl_skip rfl rfl ?_
        refine wl_nil ?_
        refine qn_wyl (by kernel_rfl) ?_ (nd187 _ h)
        exact ⟨rfl, rfl, rfl, rfl, rfl, rfl, rfl, trivial⟩
      refine Sx.wy_two 5 7 rfl rfl (by kernel_rfl) ?_ ?_
      ·
       refine wl_skip rfl rfl ?_
       refine wl_nil ?_
       refine qn_wyl (by kernel_rfl) ?_ (nd188 _ h)
       exact ⟨rfl, rfl, rfl, rfl, rfl, rfl, rfl, trivial⟩
      ·
       refine wl_skip rfl rfl ?_
       refine wl_nil ?_
       refine qn_wyl (by kernel_rfl) ?_ (nd189 _ h)
       exact ⟨rfl, rfl, rfl, rfl, rfl, rfl, rfl, trivial⟩
    refine Sx.wy_haveS (fun w => Sx.St w0 F0 ([Sx.obj D_ (.deferred (some [])), Sx.blk b2 [.bool false] 4, Sx.blk b10 [.int .i64 ((pre.length : Int))] 3, Sx.blk b11 [.string (Pc.catB pre)] 9, Sx.blk gb12 [.pointer (some ⟨g4, 0, none⟩)] 23, Sx.blk g4 [.string (s13_), .slice (A13_) (L13_.length) (c13_), .pointer (Pc.AT.ptr T13_)] 68, Pc.rowl (Φ7) 5 (A13_) (c13_) (L13_), Pc.lib (Φ7), Sx.blk b1 [.int .i64 (leave)] 3] ++ R) w) 16 #[true, true, true, true, false, false, false, false, false, false, false, false, false, false, false, false, false, false, false, false] [(6, .pointer (some ⟨b2, 0, none⟩)), (7, .pointer (some ⟨g4, 0, none⟩)), (8, .string (Pc.catB D5)), (10, .pointer (some ⟨b10, 0, none⟩)), (11, .pointer (some ⟨b11, 0, none⟩)), (46, .bool (decide (((pre.length : Int) : Int) ≤ ((((Pc.AT.fl T13_).length : Nat) : Int)))))] ?_ (fun nd190 => ?_)
    ·
     clear h
     intro w h
     refine Sx.wy_one 4 rfl (by kernel_rfl) ?_
     ·
      refine wl_v rfl rfl (ov_move _ rfl) ?_
      refine wl_nil ?_
      refine qn_wyl (by kernel_rfl) ?_ (nd117 _ h)
      exact ⟨rfl, rfl, rfl, rfl, rfl, rfl, trivial⟩
    refine Sx.wy_haveS (fun w => Sx.St w0 F0 ([Sx.obj D_ (.deferred (some [])), Sx.blk b2 [.bool false] 4, Sx.blk b10 [.int .i64 ((pre.length : Int))] 3, Sx.blk b11 [.string (Pc.catB pre)] 9, Sx.blk gb12 [.pointer (some ⟨g4, 0, none⟩)] 23, Sx.blk g4 [.string (s13_), .slice (A13_) (L13_.length) (c13_), .pointer (Pc.AT.ptr T13_)] 68, Pc.rowl (Φ7) 5 (A13_) (c13_) (L13_), Pc.lib (Φ7), Sx.blk b1 [.int .i64 (leave)] 3] ++ R) w) 17 #[true, true, true, false, false, false, false, false, false, false, false, false, false, false, false, false, false, false, false, false] [(6, .pointer (some ⟨b2, 0, none⟩)), (7, .pointer (some ⟨g4, 0, none⟩)), (8, .string (Pc.catB D5)), (10, .pointer (some ⟨b10, 0, none⟩)), (11, .pointer (some ⟨b11, 0, none⟩)), (43, .int .i64 ((pre.length : Int))), (45, .int .i64 ((((Pc.AT.fl T13_).length : Nat) : Int)))] ?_ (fun nd191 => ?_)
    ·
     clear h
     intro w h
     refine Sx.wy_one 3 rfl (by kernel_rfl) ?_
     ·
      refine wl_v rfl rfl (ov_bin _ rfl rfl (binR_leq)) ?_
      refine wl_nil ?_
      refine qn_wyl (by kernel_rfl) ?_ (nd190 _ h)
      exact ⟨rfl, rfl, rfl, rfl, rfl, rfl, trivial⟩
    refine Sx.wy_haveS (fun w => Sx.St w0 F0 ([Sx.obj D_ (.deferred (some [])), Sx.blk b2 [.bool false] 4, Sx.blk b10 [.int .i64 ((pre.length : Int))] 3, Sx.blk b11 [.string (Pc.catB pre)] 9, Sx.blk gb12 [.pointer (some ⟨g4, 0, none⟩)] 23, Sx.blk g4 [.string (s13_), .slice (A13_) (L13_.length) (c13_), .pointer (Pc.AT.ptr T13_)] 68, Pc.rowl (Φ7) 5 (A13_) (c13_) (L13_), Pc.lib (Φ7), Sx.blk b1 [.int .i64 (leave)] 3] ++ R) w) 18 #[true, true, false, false, false, false, false, false, false, false, false, false, false, false, false, false, false, false, false, false] [(6, .pointer (some ⟨b2, 0, none⟩)), (7, .pointer (some ⟨g4, 0, none⟩)), (8, .string (Pc.catB D5)), (10, .pointer (some ⟨b10, 0, none⟩)), (11, .pointer (some ⟨b11, 0, none⟩)), (43, .int .i64 ((pre.length : Int))), (44, .pointer (some ⟨g4, 0, none⟩))] ?_ (fun nd192 => ?_)
    ·
     clear h
     intro w h
     refine Sx.wy_one 2 rfl (by kernel_rfl) ?_
     ·
      refine wl_call _ rfl rfl rfl ent20 (RD.Pieces_calls (R := [Sx.obj D_ (.deferred (some [])), Sx.blk b2 [.bool false] 4, Sx.blk b10 [.int .i64 ((pre.length : Int))] 3, Sx.blk b11 [.string (Pc.catB pre)] 9, Sx.blk gb12 [.pointer (some ⟨g4, 0, none⟩)] 23, Sx.blk g4 [.string (s13_), .slice (A13_) (L13_.length) (c13_), .pointer (Pc.AT.ptr T13_)] 68, Pc.rowl (Φ7) 5 (A13_) (c13_) (L13_), Pc.lib (Φ7), Sx.blk b1 [.int .i64 (leave)] 3] ++ R) g4 s13_ A13_ c13_ L13_ T13_  (by omega) (by omega) hl13_ ok13_.by_ ok13_.wf (by omega) (Pc.en_blk (i := 5) rfl) (Pc.en_rowl (i := 6) (j := 7) rfl rfl (fun W_ z_ => z_)) (Pc.en_at (j := 7) rfl ok13_.at_)  h) ?_
      rintro e_ w_ ⟨rfl, h⟩
      refine ⟨_, rfl, ?_⟩
      refine wl_nil ?_
      refine qn_wyl (by kernel_rfl) ?_ (nd191 _ h)
      exact ⟨rfl, rfl, rfl, rfl, rfl, rfl, rfl, trivial⟩
    refine Sx.wy_haveS (fun w => Sx.St w0 F0 ([Sx.obj D_ (.deferred (some [])), Sx.blk b2 [.bool false] 4, Sx.blk b10 [.int .i64 ((pre.length : Int))] 3, Sx.blk b11 [.string (Pc.catB pre)] 9, Sx.blk gb12 [.pointer (some ⟨g4, 0, none⟩)] 23, Sx.blk g4 [.string (s13_), .slice (A13_) (L13_.length) (c13_), .pointer (Pc.AT.ptr T13_)] 68, Pc.rowl (Φ7) 5 (A13_) (c13_) (L13_), Pc.lib (Φ7), Sx.blk b1 [.int .i64 (leave)] 3] ++ R) w) 18 #[false, true, true, false, false, false, false, false, false, false, false, false, false, false, false, false, false, false, false, false] [(6, .pointer (some ⟨b2, 0, none⟩)), (7, .pointer (some ⟨g4, 0, none⟩)), (8, .string (Pc.catB D5)), (10, .pointer (some ⟨b10, 0, none⟩)), (11, .pointer (some ⟨b11, 0, none⟩)), (45, .int .i64 ((((Pc.AT.fl T13_).length : Nat) : Int)))] ?_ (fun nd193 => ?_)
    ·
     clear h
     intro w h
     refine Sx.wy_one 0 rfl (by kernel_rfl) ?_
     ·
      refine wl_v rfl rfl (ov_loadb 2 _ h rfl rfl sh3 rfl) ?_
      refine wl_nil ?_
      refine qn_wyl (by kernel_rfl) ?_ (nd191 _ h)
      exact ⟨rfl, rfl, rfl, rfl, rfl, rfl, rfl, trivial⟩
    refine Sx.wy_haveS (fun w => Sx.St w0 F0 ([Sx.obj D_ (.deferred (some [])), Sx.blk b2 [.bool false] 4, Sx.blk b10 [.int .i64 ((pre.length : Int))] 3, Sx.blk b11 [.string (Pc.catB pre)] 9, Sx.blk gb12 [.pointer (some ⟨g4, 0, none⟩)] 23, Sx.blk g4 [.string (s13_), .slice (A13_) (L13_.length) (c13_), .pointer (Pc.AT.ptr T13_)] 68, Pc.rowl (Φ7) 5 (A13_) (c13_) (L13_), Pc.lib (Φ7), Sx.blk b1 [.int .i64 (leave)] 3] ++ R) w) 19 #[true, false, false, false, false, false, false, false, false, false, false, false, false, false, false, false, false, false, false, false] [(6, .pointer (some ⟨b2, 0, none⟩)), (7, .pointer (some ⟨g4, 0, none⟩)), (8, .string (Pc.catB D5)), (10, .pointer (some ⟨b10, 0, none⟩)), (11, .pointer (some ⟨b11, 0, none⟩)), (43, .int .i64 ((pre.length : Int)))] ?_ (fun nd194 => ?_)
    ·
     clear h
     intro w h
     refine Sx.wy_one 1 rfl (by kernel_rfl) ?_
     ·
      refine wl_v rfl rfl (ov_move _ rfl) ?_
      refine wl_nil ?_
      refine qn_wyl (by kernel_rfl) ?_ (nd192 _ h)
      exact ⟨rfl, rfl, rfl, rfl, rfl, rfl, rfl, trivial⟩
    refine Sx.wy_haveS (fun w => Sx.St w0 F0 ([Sx.obj D_ (.deferred (some [])), Sx.blk b2 [.bool false] 4, Sx.blk b10 [.int .i64 ((pre.length : Int))] 3, Sx.blk b11 [.string (Pc.catB pre)] 9, Sx.blk gb12 [.pointer (some ⟨g4, 0, none⟩)] 23, Sx.blk g4 [.string (s13_), .slice (A13_) (L13_.length) (c13_), .pointer (Pc.AT.ptr T13_)] 68, Pc.rowl (Φ7) 5 (A13_) (c13_) (L13_), Pc.lib (Φ7), Sx.blk b1 [.int .i64 (leave)] 3] ++ R) w) 19 #[false, true, false, false, false, false, false, false, false, false, false, false, false, false, false, false, false, false, false, false] [(6, .pointer (some ⟨b2, 0, none⟩)), (7, .pointer (some ⟨g4, 0, none⟩)), (8, .string (Pc.catB D5)), (10, .pointer (some ⟨b10, 0, none⟩)), (11, .pointer (some ⟨b11, 0, none⟩)), (44, .pointer (some ⟨g4, 0, none⟩))] ?_ (fun nd195 => ?_)
    ·
     clear h
     intro w h
     refine Sx.wy_two 0 2 rfl rfl (by kernel_rfl) ?_ ?_
     ·
      refine wl_v rfl rfl (ov_loadb 2 _ h rfl rfl sh3 rfl) ?_
      refine wl_nil ?_
      refine qn_wyl (by kernel_rfl) ?_ (nd192 _ h)
      exact ⟨rfl, rfl, rfl, rfl, rfl, rfl, rfl, trivial⟩
     ·
      refine wl_call _ rfl rfl rfl ent20 (RD.Pieces_calls (R := [Sx.obj D_ (.deferred (some [])), Sx.blk b2 [.bool false] 4, Sx.blk b10 [.int .i64 ((pre.length : Int))] 3, Sx.blk b11 [.string (Pc.catB pre)] 9, Sx.blk gb12 [.pointer (some ⟨g4, 0, none⟩)] 23, Sx.blk g4 [.string (s13_), .slice (A13_) (L13_.length) (c13_), .pointer (Pc.AT.ptr T13_)] 68, Pc.rowl (Φ7) 5 (A13_) (c13_) (L13_), Pc.lib (Φ7), Sx.blk b1 [.int .i64 (leave)] 3] ++ R) g4 s13_ A13_ c13_ L13_ T13_  (by omega) (by omega) hl13_ ok13_.by_ ok13_.wf (by omega) (Pc.en_blk (i := 5) rfl) (Pc.en_rowl (i := 6) (j := 7) rfl rfl (fun W_ z_ => z_)) (Pc.en_at (j := 7) rfl ok13_.at_)  h) ?_
      rintro e_ w_ ⟨rfl, h⟩
      refine ⟨_, rfl, ?_⟩
      refine wl_nil ?_
      refine qn_wyl (by kernel_rfl) ?_ (nd193 _ h)
      exact ⟨rfl, rfl, rfl, rfl, rfl, rfl, trivial⟩
    refine Sx.wy_two 0 1 rfl rfl (by kernel_rfl) ?_ ?_
    ·
     refine wl_v rfl rfl (ov_loadb 2 _ h rfl rfl sh3 rfl) ?_
     refine wl_nil ?_
     refine qn_wyl (by kernel_rfl) ?_ (nd194 _ h)
     exact ⟨rfl, rfl, rfl, rfl, rfl, rfl, trivial⟩
    ·
     refine wl_v rfl rfl (ov_move _ rfl) ?_
     refine wl_nil ?_
     refine qn_wyl (by kernel_rfl) ?_ (nd195 _ h)
     exact ⟨rfl, rfl, rfl, rfl, rfl, rfl, trivial⟩
   ·
    refine Sx.ci_skip ?_
    refine Sx.qi_then ?_
    refine Sx.ci_seq ?_
    refine Sx.ci_drawy Sx.lax_wide (fun _ _ h_ => by cases (And.left h_)) (by kernel_rfl) (by kernel_rfl) ?_
    replace h := st_drew h
    refine Sx.wy_start (l2 := #[false, false, false, false, false, false, false, false, false, false]) (by kernel_rfl) ?_
    refine Sx.wy_sub (f2 := [(6, .pointer (some ⟨b2, 0, none⟩)), (7, .pointer (some ⟨g4, 0, none⟩)), (8, .string (Pc.catB D5)), (10, .pointer (some ⟨b10, 0, none⟩)), (11, .pointer (some ⟨b11, 0, none⟩))]) ⟨rfl, rfl, rfl, rfl, rfl, trivial⟩ ?_
    refine Sx.wy_haveS (fun w => Sx.St w0 F0 ([Sx.obj D_ (.deferred (some [])), Sx.blk b2 [.bool false] 4, Sx.blk b10 [.int .i64 ((pre.length : Int))] 3, Sx.blk b11 [.string (Pc.catB pre)] 9, Sx.blk gb12 [.pointer (some ⟨g4, 0, none⟩)] 23, Sx.blk g4 [.string (s13_), .slice (A13_) (L13_.length) (c13_), .pointer (Pc.AT.ptr T13_)] 68, Pc.rowl (Φ7) 5 (A13_) (c13_) (L13_), Pc.lib (Φ7), Sx.blk b1 [.int .i64 (leave)] 3] ++ R) w) 5 #[true, true, true, true, true, false, false, false, false, false] [(6, .pointer (some ⟨b2, 0, none⟩)), (8, .string (Pc.catB D5)), (11, .pointer (some ⟨b11, 0, none⟩)), (66, .bool (decide (((pre.length : Int) : Int) = ((((Pc.AT.fl T13_).length : Nat) : Int)))))] ?_ (fun nd196 => ?_)
    ·
     clear h
     intro w h
     refine Sx.wy_split 66 rfl (fun c197 => ?_) (fun c197 => ?_)
     ·
      refine Sx.wy_sub (f2 := [(6, .pointer (some ⟨b2, 0, none⟩)), (8, .string (Pc.catB D5)), (11, .pointer (some ⟨b11, 0, none⟩)), (66, .bool true)]) ⟨rfl, rfl, rfl, rfl, trivial⟩ ?_
      refine Sx.wy_haveS (fun w => Sx.St w0 F0 ([Sx.obj D_ (.deferred (some [])), Sx.blk b2 [.bool (decide ((Pc.catB pre) = (Pc.catB D5)))] 4, Sx.blk b10 [.int .i64 ((pre.length : Int))] 3, Sx.blk b11 [.string (Pc.catB pre)] 9, Sx.blk gb12 [.pointer (some ⟨g4, 0, none⟩)] 23, Sx.blk g4 [.string (s13_), .slice (A13_) (L13_.length) (c13_), .pointer (Pc.AT.ptr T13_)] 68, Pc.rowl (Φ7) 5 (A13_) (c13_) (L13_), Pc.lib (Φ7), Sx.blk b1 [.int .i64 (leave)] 3] ++ R) w) 0 #[true, true, true, true, true, true, true, true, true, true] [(6, .pointer (some ⟨b2, 0, none⟩))] ?_ (fun nd198 => ?_)
      ·
       clear h
       intro w h
       refine Sx.wy_done (by kernel_rfl) ?_
       refine Sx.qi_then ?_
       refine Sx.ci_ret ?_
       have hD_ := st_obj (i := 0) h rfl
       replace h := st_putobj (.deferred none) h
       replace h : Sx.St w0 F0 ([Sx.obj D_ (.deferred none), Sx.blk b2 [.bool (decide ((Pc.catB pre) = (Pc.catB D5)))] 4, Sx.blk b10 [.int .i64 ((pre.length : Int))] 3, Sx.blk b11 [.string (Pc.catB pre)] 9, Sx.blk gb12 [.pointer (some ⟨g4, 0, none⟩)] 23, Sx.blk g4 [.string (s13_), .slice (A13_) (L13_.length) (c13_), .pointer (Pc.AT.ptr T13_)] 68, Pc.rowl (Φ7) 5 (A13_) (c13_) (L13_), Pc.lib (Φ7), Sx.blk b1 [.int .i64 (leave)] 3] ++ R) _ := h
       have hend_ := h
       replace h := st_selT [false, false, false, false, false, false, false, false, false] h
       refine qn_retD [_] hD_ ⟨⟨_, rfl, Sx.loadVar1 sh4 (by rw [Sx.blk_cell hend_ (i := 1) rfl]; rfl)⟩, trivial⟩ ?_
       have hCD_ : Pc.catB D5 = Pc.catB (Pc.chs s13_ L13_ (Pc.AT.fl T13_)) := by rw [ok13_.eD]
       have hDl_ : D5.length = (Pc.chs s13_ L13_ (Pc.AT.fl T13_)).length := by rw [ok13_.eD]
       have hfl_ := Pc.tok_len ok13_
       obtain ⟨suf_, hsf_⟩ := hx1_
       have hx4_ := Pc.catB_app pre suf_
       rw [← hsf_, ← hCD_] at hx4_
       have hx5_ := congrArg ByteArray.size hx4_
       rw [ByteArray.size_append] at hx5_
       have hx6_ := congrArg List.length hsf_
       rw [List.length_append, ← hDl_] at hx6_
       have hx7_ : Pc.catB pre = (Pc.catB D5).extract 0 (Pc.catB pre).size := by rw [hx4_, Pc.ap_left]
       have b_ : (decide ((Pc.catB pre) = (Pc.catB D5))) = true := by first | (apply decide_eq_true; omega) | (apply decide_eq_true; exact hx7_) | (apply decide_eq_true; exact hx1_) | (apply decide_eq_true; rw [hx1_, Pc.ex_all]) | (simp_all; done)
       exact ⟨congrArg (fun z => Ending.returned (Value.bool z)) b_, h⟩
      refine Sx.wy_haveS (fun w => Sx.St w0 F0 ([Sx.obj D_ (.deferred (some [])), Sx.blk b2 [.bool false] 4, Sx.blk b10 [.int .i64 ((pre.length : Int))] 3, Sx.blk b11 [.string (Pc.catB pre)] 9, Sx.blk gb12 [.pointer (some ⟨g4, 0, none⟩)] 23, Sx.blk g4 [.string (s13_), .slice (A13_) (L13_.length) (c13_), .pointer (Pc.AT.ptr T13_)] 68, Pc.rowl (Φ7) 5 (A13_) (c13_) (L13_), Pc.lib (Φ7), Sx.blk b1 [.int .i64 (leave)] 3] ++ R) w) 1 #[true, true, true, true, true, true, true, true, true, false] [(6, .pointer (some ⟨b2, 0, none⟩)), (70, .bool (decide ((Pc.catB pre) = (Pc.catB D5))))] ?_ (fun nd199 => ?_)
      ·
       clear h
       intro w h
       refine Sx.wy_one 9 rfl (by kernel_rfl) ?_
       ·
        refine wl_storeb 1 _ [.bool (decide ((Pc.catB pre) = (Pc.catB D5)))] h rfl rfl rfl rfl rfl rfl sh4 rfl rfl (fun _ h => ?_)
        refine wl_nil ?_
        refine qn_wyl (by kernel_rfl) ?_ (nd198 _ h)
        exact ⟨rfl, trivial⟩
      refine Sx.wy_haveS (fun w => Sx.St w0 F0 ([Sx.obj D_ (.deferred (some [])), Sx.blk b2 [.bool false] 4, Sx.blk b10 [.int .i64 ((pre.length : Int))] 3, Sx.blk b11 [.string (Pc.catB pre)] 9, Sx.blk gb12 [.pointer (some ⟨g4, 0, none⟩)] 23, Sx.blk g4 [.string (s13_), .slice (A13_) (L13_.length) (c13_), .pointer (Pc.AT.ptr T13_)] 68, Pc.rowl (Φ7) 5 (A13_) (c13_) (L13_), Pc.lib (Φ7), Sx.blk b1 [.int .i64 (leave)] 3] ++ R) w) 2 #[true, true, true, true, true, true, true, true, false, false] [(6, .pointer (some ⟨b2, 0, none⟩)), (66, .bool true), (69, .bool (decide ((Pc.catB pre) = (Pc.catB D5))))] ?_ (fun nd200 => ?_)
      ·
       clear h
       intro w h
       refine Sx.wy_one 8 rfl (by kernel_rfl) ?_
       ·
        refine wl_v rfl rfl (ov_pick_true _ rfl rfl) ?_
        refine wl_nil ?_
        refine qn_wyl (by kernel_rfl) ?_ (nd199 _ h)
        exact ⟨rfl, rfl, trivial⟩
      refine Sx.wy_haveS (fun w => Sx.St w0 F0 ([Sx.obj D_ (.deferred (some [])), Sx.blk b2 [.bool false] 4, Sx.blk b10 [.int .i64 ((pre.length : Int))] 3, Sx.blk b11 [.string (Pc.catB pre)] 9, Sx.blk gb12 [.pointer (some ⟨g4, 0, none⟩)] 23, Sx.blk g4 [.string (s13_), .slice (A13_) (L13_.length) (c13_), .pointer (Pc.AT.ptr T13_)] 68, Pc.rowl (Φ7) 5 (A13_) (c13_) (L13_), Pc.lib (Φ7), Sx.blk b1 [.int .i64 (leave)] 3] ++ R) w) 3 #[true, true, true, true, true, true, true, false, false, false] [(6, .pointer (some ⟨b2, 0, none⟩)), (66, .bool true), (67, .string (Pc.catB pre)), (68, .string (Pc.catB D5))] ?_ (fun nd201 => ?_)
      ·
       clear h
       intro w h
       refine Sx.wy_one 7 rfl (by kernel_rfl) ?_
       ·
        refine wl_v rfl rfl (ov_bin _ rfl rfl (binR_eqs)) ?_
        refine wl_nil ?_
        refine qn_wyl (by kernel_rfl) ?_ (nd200 _ h)
        exact ⟨rfl, rfl, rfl, trivial⟩
      refine Sx.wy_haveS (fun w => Sx.St w0 F0 ([Sx.obj D_ (.deferred (some [])), Sx.blk b2 [.bool false] 4, Sx.blk b10 [.int .i64 ((pre.length : Int))] 3, Sx.blk b11 [.string (Pc.catB pre)] 9, Sx.blk gb12 [.pointer (some ⟨g4, 0, none⟩)] 23, Sx.blk g4 [.string (s13_), .slice (A13_) (L13_.length) (c13_), .pointer (Pc.AT.ptr T13_)] 68, Pc.rowl (Φ7) 5 (A13_) (c13_) (L13_), Pc.lib (Φ7), Sx.blk b1 [.int .i64 (leave)] 3] ++ R) w) 4 #[true, true, true, true, true, true, false, false, false, false] [(6, .pointer (some ⟨b2, 0, none⟩)), (8, .string (Pc.catB D5)), (66, .bool true), (67, .string (Pc.catB pre))] ?_ (fun nd202 => ?_)
      ·
       clear h
       intro w h
       refine Sx.wy_one 6 rfl (by kernel_rfl) ?_
       ·
        refine wl_v rfl rfl (ov_move _ rfl) ?_
        refine wl_nil ?_
        refine qn_wyl (by kernel_rfl) ?_ (nd201 _ h)
        exact ⟨rfl, rfl, rfl, rfl, trivial⟩
      refine Sx.wy_haveS (fun w => Sx.St w0 F0 ([Sx.obj D_ (.deferred (some [])), Sx.blk b2 [.bool false] 4, Sx.blk b10 [.int .i64 ((pre.length : Int))] 3, Sx.blk b11 [.string (Pc.catB pre)] 9, Sx.blk gb12 [.pointer (some ⟨g4, 0, none⟩)] 23, Sx.blk g4 [.string (s13_), .slice (A13_) (L13_.length) (c13_), .pointer (Pc.AT.ptr T13_)] 68, Pc.rowl (Φ7) 5 (A13_) (c13_) (L13_), Pc.lib (Φ7), Sx.blk b1 [.int .i64 (leave)] 3] ++ R) w) 4 #[true, true, true, true, true, false, true, false, false, false] [(6, .pointer (some ⟨b2, 0, none⟩)), (11, .pointer (some ⟨b11, 0, none⟩)), (66, .bool true), (68, .string (Pc.catB D5))] ?_ (fun nd203 => ?_)
      ·
       clear h
       intro w h
       refine Sx.wy_one 5 rfl (by kernel_rfl) ?_
       ·
        refine wl_v rfl rfl (ov_loadb 3 _ h rfl rfl sh9 rfl) ?_
        refine wl_nil ?_
        refine qn_wyl (by kernel_rfl) ?_ (nd201 _ h)
        exact ⟨rfl, rfl, rfl, rfl, trivial⟩
      refine Sx.wy_two 5 6 rfl rfl (by kernel_rfl) ?_ ?_
      ·
       refine wl_v rfl rfl (ov_loadb 3 _ h rfl rfl sh9 rfl) ?_
       refine wl_nil ?_
       refine qn_wyl (by kernel_rfl) ?_ (nd202 _ h)
       exact ⟨rfl, rfl, rfl, rfl, trivial⟩
      ·
       refine wl_v rfl rfl (ov_move _ rfl) ?_
       refine wl_nil ?_
       refine qn_wyl (by kernel_rfl) ?_ (nd203 _ h)
       exact ⟨rfl, rfl, rfl, rfl, trivial⟩
     ·
      refine Sx.wy_sub (f2 := [(6, .pointer (some ⟨b2, 0, none⟩)), (8, .string (Pc.catB D5)), (11, .pointer (some ⟨b11, 0, none⟩)), (66, .bool false)]) ⟨rfl, rfl, rfl, rfl, trivial⟩ ?_
      refine Sx.wy_haveS (fun w => Sx.St w0 F0 ([Sx.obj D_ (.deferred (some [])), Sx.blk b2 [.bool false] 4, Sx.blk b10 [.int .i64 ((pre.length : Int))] 3, Sx.blk b11 [.string (Pc.catB pre)] 9, Sx.blk gb12 [.pointer (some ⟨g4, 0, none⟩)] 23, Sx.blk g4 [.string (s13_), .slice (A13_) (L13_.length) (c13_), .pointer (Pc.AT.ptr T13_)] 68, Pc.rowl (Φ7) 5 (A13_) (c13_) (L13_), Pc.lib (Φ7), Sx.blk b1 [.int .i64 (leave)] 3] ++ R) w) 0 #[true, true, true, true, true, true, true, true, true, true] [(6, .pointer (some ⟨b2, 0, none⟩))] ?_ (fun nd204 => ?_)
      ·
       clear h
       intro w h
       refine Sx.wy_done (by kernel_rfl) ?_
       refine Sx.qi_then ?_
       refine Sx.ci_ret ?_
       have hD_ := st_obj (i := 0) h rfl
       replace h := st_putobj (.deferred none) h
       replace h : Sx.St w0 F0 ([Sx.obj D_ (.deferred none), Sx.blk b2 [.bool false] 4, Sx.blk b10 [.int .i64 ((pre.length : Int))] 3, Sx.blk b11 [.string (Pc.catB pre)] 9, Sx.blk gb12 [.pointer (some ⟨g4, 0, none⟩)] 23, Sx.blk g4 [.string (s13_), .slice (A13_) (L13_.length) (c13_), .pointer (Pc.AT.ptr T13_)] 68, Pc.rowl (Φ7) 5 (A13_) (c13_) (L13_), Pc.lib (Φ7), Sx.blk b1 [.int .i64 (leave)] 3] ++ R) _ := h
       have hend_ := h
       replace h := st_selT [false, false, false, false, false, false, false, false, false] h
       refine qn_retD [_] hD_ ⟨⟨_, rfl, Sx.loadVar1 sh4 (by rw [Sx.blk_cell hend_ (i := 1) rfl]; rfl)⟩, trivial⟩ ?_
       have hCD_ : Pc.catB D5 = Pc.catB (Pc.chs s13_ L13_ (Pc.AT.fl T13_)) := by rw [ok13_.eD]
       have hDl_ : D5.length = (Pc.chs s13_ L13_ (Pc.AT.fl T13_)).length := by rw [ok13_.eD]
       have hfl_ := Pc.tok_len ok13_
       obtain ⟨suf_, hsf_⟩ := hx1_
       have hx4_ := Pc.catB_app pre suf_
       rw [← hsf_, ← hCD_] at hx4_
       have hx5_ := congrArg ByteArray.size hx4_
       rw [ByteArray.size_append] at hx5_
       have hx6_ := congrArg List.length hsf_
       rw [List.length_append, ← hDl_] at hx6_
       have hx7_ : Pc.catB pre = (Pc.catB D5).extract 0 (Pc.catB pre).size := by rw [hx4_, Pc.ap_left]
       exfalso
       first | omega | contradiction | (simp_all; done) | (simp_all; omega)
      refine Sx.wy_haveS (fun w => Sx.St w0 F0 ([Sx.obj D_ (.deferred (some [])), Sx.blk b2 [.bool false] 4, Sx.blk b10 [.int .i64 ((pre.length : Int))] 3, Sx.blk b11 [.string (Pc.catB pre)] 9, Sx.blk gb12 [.pointer (some ⟨g4, 0, none⟩)] 23, Sx.blk g4 [.string (s13_), .slice (A13_) (L13_.length) (c13_), .pointer (Pc.AT.ptr T13_)] 68, Pc.rowl (Φ7) 5 (A13_) (c13_) (L13_), Pc.lib (Φ7), Sx.blk b1 [.int .i64 (leave)] 3] ++ R) w) 1 #[true, true, true, true, true, true, true, true, true, false] [(6, .pointer (some ⟨b2, 0, none⟩)), (70, .bool false)] ?_ (fun nd205 => ?_)
      ·
       clear h
       intro w h
       refine Sx.wy_one 9 rfl (by kernel_rfl) ?_
       ·
        refine wl_storeb 1 _ [.bool false] h rfl rfl rfl rfl rfl rfl sh4 rfl rfl (fun _ h => ?_)
        refine wl_nil ?_
        refine qn_wyl (by kernel_rfl) ?_ (nd204 _ h)
        exact ⟨rfl, trivial⟩
      refine Sx.wy_haveS (fun w => Sx.St w0 F0 ([Sx.obj D_ (.deferred (some [])), Sx.blk b2 [.bool false] 4, Sx.blk b10 [.int .i64 ((pre.length : Int))] 3, Sx.blk b11 [.string (Pc.catB pre)] 9, Sx.blk gb12 [.pointer (some ⟨g4, 0, none⟩)] 23, Sx.blk g4 [.string (s13_), .slice (A13_) (L13_.length) (c13_), .pointer (Pc.AT.ptr T13_)] 68, Pc.rowl (Φ7) 5 (A13_) (c13_) (L13_), Pc.lib (Φ7), Sx.blk b1 [.int .i64 (leave)] 3] ++ R) w) 2 #[true, true, true, true, true, true, true, true, false, false] [(6, .pointer (some ⟨b2, 0, none⟩)), (66, .bool false), (69, undef)] ?_ (fun nd206 => ?_)
      ·
       clear h
       intro w h
       refine Sx.wy_one 8 rfl (by kernel_rfl) ?_
       ·
        refine wl_v rfl rfl (ov_pick_false _ rfl rfl) ?_
        refine wl_nil ?_
        refine qn_wyl (by kernel_rfl) ?_ (nd205 _ h)
        exact ⟨rfl, rfl, trivial⟩
      refine Sx.wy_haveS (fun w => Sx.St w0 F0 ([Sx.obj D_ (.deferred (some [])), Sx.blk b2 [.bool false] 4, Sx.blk b10 [.int .i64 ((pre.length : Int))] 3, Sx.blk b11 [.string (Pc.catB pre)] 9, Sx.blk gb12 [.pointer (some ⟨g4, 0, none⟩)] 23, Sx.blk g4 [.string (s13_), .slice (A13_) (L13_.length) (c13_), .pointer (Pc.AT.ptr T13_)] 68, Pc.rowl (Φ7) 5 (A13_) (c13_) (L13_), Pc.lib (Φ7), Sx.blk b1 [.int .i64 (leave)] 3] ++ R) w) 3 #[true, true, true, true, true, true, true, false, false, false] [(6, .pointer (some ⟨b2, 0, none⟩)), (66, .bool false), (67, undef), (68, undef)] ?_ (fun nd207 => ?_)
      ·
       clear h
       intro w h
       refine Sx.wy_one 7 rfl (by kernel_rfl) ?_
       ·
        refine wl_skip rfl rfl ?_
        refine wl_nil ?_
        refine qn_wyl (by kernel_rfl) ?_ (nd206 _ h)
        exact ⟨rfl, rfl, rfl, trivial⟩
      refine Sx.wy_haveS (fun w => Sx.St w0 F0 ([Sx.obj D_ (.deferred (some [])), Sx.blk b2 [.bool false] 4, Sx.blk b10 [.int .i64 ((pre.length : Int))] 3, Sx.blk b11 [.string (Pc.catB pre)] 9, Sx.blk gb12 [.pointer (some ⟨g4, 0, none⟩)] 23, Sx.blk g4 [.string (s13_), .slice (A13_) (L13_.length) (c13_), .pointer (Pc.AT.ptr T13_)] 68, Pc.rowl (Φ7) 5 (A13_) (c13_) (L13_), Pc.lib (Φ7), Sx.blk b1 [.int .i64 (leave)] 3] ++ R) w) 4 #[true, true, true, true, true, true, false, false, false, false] [(6, .pointer (some ⟨b2, 0, none⟩)), (8, .string (Pc.catB D5)), (66, .bool false), (67, undef)] ?_ (fun nd208 => ?_)
      ·
       clear h
       intro w h
       refine Sx.wy_one 6 rfl (by kernel_rfl) ?_
       ·
        refine wl_skip rfl rfl ?_
        refine wl_nil ?_
        refine qn_wyl (by kernel_rfl) ?_ (nd207 _ h)
        exact ⟨rfl, rfl, rfl, rfl, trivial⟩
      refine Sx.wy_haveS (fun w => Sx.St w0 F0 ([Sx.obj D_ (.deferred (some [])), Sx.blk b2 [.bool false] 4, Sx.blk b10 [.int .i64 ((pre.length : Int))] 3, Sx.blk b11 [.string (Pc.catB pre)] 9, Sx.blk gb12 [.pointer (some ⟨g4, 0, none⟩)] 23, Sx.blk g4 [.string (s13_), .slice (A13_) (L13_.length) (c13_), .pointer (Pc.AT.ptr T13_)] 68, Pc.rowl (Φ7) 5 (A13_) (c13_) (L13_), Pc.lib (Φ7), Sx.blk b1 [.int .i64 (leave)] 3] ++ R) w) 4 #[true, true, true, true, true, false, true, false, false, false] [(6, .pointer (some ⟨b2, 0, none⟩)), (11, .pointer (some ⟨b11, 0, none⟩)), (66, .bool false), (68, undef)] ?_ (fun nd209 => ?_)
      ·
       clear h
       intro w h
       refine Sx.wy_one 5 rfl (by kernel_rfl) ?_
       ·
        refine wl_skip rfl rfl ?_
        refine wl_nil ?_
        refine qn_wyl (by kernel_rfl) ?_ (nd207 _ h)
        exact ⟨rfl, rfl, rfl, rfl, trivial⟩
      refine Sx.wy_two 5 6 rfl rfl (by kernel_rfl) ?_ ?_
      ·
       refine wl_skip rfl rfl ?_
       refine wl_nil ?_
       refine qn_wyl (by kernel_rfl) ?_ (nd208 _ h)
       exact ⟨rfl, rfl, rfl, rfl, trivial⟩
      ·
       refine wl_skip rfl rfl ?_
       refine wl_nil ?_
       refine qn_wyl (by kernel_rfl) ?_ (nd209 _ h)
       exact ⟨rfl, rfl, rfl, rfl, trivial⟩
    refine Sx.wy_haveS (fun w => Sx.St w0 F0 ([Sx.obj D_ (.deferred (some [])), Sx.blk b2 [.bool false] 4, Sx.blk b10 [.int .i64 ((pre.length : Int))] 3, Sx.blk b11 [.string (Pc.catB pre)] 9, Sx.blk gb12 [.pointer (some ⟨g4, 0, none⟩)] 23, Sx.blk g4 [.string (s13_), .slice (A13_) (L13_.length) (c13_), .pointer (Pc.AT.ptr T13_)] 68, Pc.rowl (Φ7) 5 (A13_) (c13_) (L13_), Pc.lib (Φ7), Sx.blk b1 [.int .i64 (leave)] 3] ++ R) w) 6 #[true, true, true, true, false, false, false, false, false, false] [(6, .pointer (some ⟨b2, 0, none⟩)), (8, .string (Pc.catB D5)), (11, .pointer (some ⟨b11, 0, none⟩)), (65, .bool (decide (((pre.length : Int) : Int) = ((((Pc.AT.fl T13_).length : Nat) : Int)))))] ?_ (fun nd210 => ?_)
    ·
     clear h
     intro w h
     refine Sx.wy_one 4 rfl (by kernel_rfl) ?_
     ·
      refine wl_v rfl rfl (ov_move _ rfl) ?_
      refine wl_nil ?_
      refine qn_wyl (by kernel_rfl) ?_ (nd196 _ h)
      exact ⟨rfl, rfl, rfl, rfl, trivial⟩
    refine Sx.wy_haveS (fun w => Sx.St w0 F0 ([Sx.obj D_ (.deferred (some [])), Sx.blk b2 [.bool false] 4, Sx.blk b10 [.int .i64 ((pre.length : Int))] 3, Sx.blk b11 [.string (Pc.catB pre)] 9, Sx.blk gb12 [.pointer (some ⟨g4, 0, none⟩)] 23, Sx.blk g4 [.string (s13_), .slice (A13_) (L13_.length) (c13_), .pointer (Pc.AT.ptr T13_)] 68, Pc.rowl (Φ7) 5 (A13_) (c13_) (L13_), Pc.lib (Φ7), Sx.blk b1 [.int .i64 (leave)] 3] ++ R) w) 7 #[true, true, true, false, false, false, false, false, false, false] [(6, .pointer (some ⟨b2, 0, none⟩)), (8, .string (Pc.catB D5)), (11, .pointer (some ⟨b11, 0, none⟩)), (62, .int .i64 ((pre.length : Int))), (64, .int .i64 ((((Pc.AT.fl T13_).length : Nat) : Int)))] ?_ (fun nd211 => ?_)
    ·
     clear h
     intro w h
     refine Sx.wy_one 3 rfl (by kernel_rfl) ?_
     ·
      refine wl_v rfl rfl (ov_bin _ rfl rfl (binR_eql)) ?_
      refine wl_nil ?_
      refine qn_wyl (by kernel_rfl) ?_ (nd210 _ h)
      exact ⟨rfl, rfl, rfl, rfl, trivial⟩
    refine Sx.wy_haveS (fun w => Sx.St w0 F0 ([Sx.obj D_ (.deferred (some [])), Sx.blk b2 [.bool false] 4, Sx.blk b10 [.int .i64 ((pre.length : Int))] 3, Sx.blk b11 [.string (Pc.catB pre)] 9, Sx.blk gb12 [.pointer (some ⟨g4, 0, none⟩)] 23, Sx.blk g4 [.string (s13_), .slice (A13_) (L13_.length) (c13_), .pointer (Pc.AT.ptr T13_)] 68, Pc.rowl (Φ7) 5 (A13_) (c13_) (L13_), Pc.lib (Φ7), Sx.blk b1 [.int .i64 (leave)] 3] ++ R) w) 8 #[true, true, false, false, false, false, false, false, false, false] [(6, .pointer (some ⟨b2, 0, none⟩)), (8, .string (Pc.catB D5)), (11, .pointer (some ⟨b11, 0, none⟩)), (62, .int .i64 ((pre.length : Int))), (63, .pointer (some ⟨g4, 0, none⟩))] ?_ (fun nd212 => ?_)
    ·
     clear h
     intro w h
     refine Sx.wy_one 2 rfl (by kernel_rfl) ?_
     ·
      refine wl_call _ rfl rfl rfl ent20 (RD.Pieces_calls (R := [Sx.obj D_ (.deferred (some [])), Sx.blk b2 [.bool false] 4, Sx.blk b10 [.int .i64 ((pre.length : Int))] 3, Sx.blk b11 [.string (Pc.catB pre)] 9, Sx.blk gb12 [.pointer (some ⟨g4, 0, none⟩)] 23, Sx.blk g4 [.string (s13_), .slice (A13_) (L13_.length) (c13_), .pointer (Pc.AT.ptr T13_)] 68, Pc.rowl (Φ7) 5 (A13_) (c13_) (L13_), Pc.lib (Φ7), Sx.blk b1 [.int .i64 (leave)] 3] ++ R) g4 s13_ A13_ c13_ L13_ T13_  (by omega) (by omega) hl13_ ok13_.by_ ok13_.wf (by omega) (Pc.en_blk (i := 5) rfl) (Pc.en_rowl (i := 6) (j := 7) rfl rfl (fun W_ z_ => z_)) (Pc.en_at (j := 7) rfl ok13_.at_)  h) ?_
      rintro e_ w_ ⟨rfl, h⟩
      refine ⟨_, rfl, ?_⟩
      refine wl_nil ?_
      refine qn_wyl (by kernel_rfl) ?_ (nd211 _ h)
      exact ⟨rfl, rfl, rfl, rfl, rfl, trivial⟩
    refine Sx.wy_haveS (fun w => Sx.St w0 F0 ([Sx.obj D_ (.deferred (some [])), Sx.blk b2 [.bool false] 4, Sx.blk b10 [.int .i64 ((pre.length : Int))] 3, Sx.blk b11 [.string (Pc.catB pre)] 9, Sx.blk gb12 [.pointer (some ⟨g4, 0, none⟩)] 23, Sx.blk g4 [.string (s13_), .slice (A13_) (L13_.length) (c13_), .pointer (Pc.AT.ptr T13_)] 68, Pc.rowl (Φ7) 5 (A13_) (c13_) (L13_), Pc.lib (Φ7), Sx.blk b1 [.int .i64 (leave)] 3] ++ R) w) 8 #[false, true, true, false, false, false, false, false, false, false] [(6, .pointer (some ⟨b2, 0, none⟩)), (8, .string (Pc.catB D5)), (10, .pointer (some ⟨b10, 0, none⟩)), (11, .pointer (some ⟨b11, 0, none⟩)), (64, .int .i64 ((((Pc.AT.fl T13_).length : Nat) : Int)))] ?_ (fun nd213 => ?_)
    ·
     clear h
     intro w h
     refine Sx.wy_one 0 rfl (by kernel_rfl) ?_
     ·
      refine wl_v rfl rfl (ov_loadb 2 _ h rfl rfl sh3 rfl) ?_
      refine wl_nil ?_
      refine qn_wyl (by kernel_rfl) ?_ (nd211 _ h)
      exact ⟨rfl, rfl, rfl, rfl, rfl, trivial⟩
    refine Sx.wy_haveS (fun w => Sx.St w0 F0 ([Sx.obj D_ (.deferred (some [])), Sx.blk b2 [.bool false] 4, Sx.blk b10 [.int .i64 ((pre.length : Int))] 3, Sx.blk b11 [.string (Pc.catB pre)] 9, Sx.blk gb12 [.pointer (some ⟨g4, 0, none⟩)] 23, Sx.blk g4 [.string (s13_), .slice (A13_) (L13_.length) (c13_), .pointer (Pc.AT.ptr T13_)] 68, Pc.rowl (Φ7) 5 (A13_) (c13_) (L13_), Pc.lib (Φ7), Sx.blk b1 [.int .i64 (leave)] 3] ++ R) w) 9 #[true, false, false, false, false, false, false, false, false, false] [(6, .pointer (some ⟨b2, 0, none⟩)), (7, .pointer (some ⟨g4, 0, none⟩)), (8, .string (Pc.catB D5)), (11, .pointer (some ⟨b11, 0, none⟩)), (62, .int .i64 ((pre.length : Int)))] ?_ (fun nd214 => ?_)
    ·
     clear h
     intro w h
     refine Sx.wy_one 1 rfl (by kernel_rfl) ?_
     ·
      refine wl_v rfl rfl (ov_move _ rfl) ?_
      refine wl_nil ?_
      refine qn_wyl (by kernel_rfl) ?_ (nd212 _ h)
      exact ⟨rfl, rfl, rfl, rfl, rfl, trivial⟩
    refine Sx.wy_haveS (fun w => Sx.St w0 F0 ([Sx.obj D_ (.deferred (some [])), Sx.blk b2 [.bool false] 4, Sx.blk b10 [.int .i64 ((pre.length : Int))] 3, Sx.blk b11 [.string (Pc.catB pre)] 9, Sx.blk gb12 [.pointer (some ⟨g4, 0, none⟩)] 23, Sx.blk g4 [.string (s13_), .slice (A13_) (L13_.length) (c13_), .pointer (Pc.AT.ptr T13_)] 68, Pc.rowl (Φ7) 5 (A13_) (c13_) (L13_), Pc.lib (Φ7), Sx.blk b1 [.int .i64 (leave)] 3] ++ R) w) 9 #[false, true, false, false, false, false, false, false, false, false] [(6, .pointer (some ⟨b2, 0, none⟩)), (8, .string (Pc.catB D5)), (10, .pointer (some ⟨b10, 0, none⟩)), (11, .pointer (some ⟨b11, 0, none⟩)), (63, .pointer (some ⟨g4, 0, none⟩))] ?_ (fun nd215 => ?_)
    ·
     clear h
     intro w h
     refine Sx.wy_two 0 2 rfl rfl (by kernel_rfl) ?_ ?_
     ·
      refine wl_v rfl rfl (ov_loadb 2 _ h rfl rfl sh3 rfl) ?_
      refine wl_nil ?_
      refine qn_wyl (by kernel_rfl) ?_ (nd212 _ h)
      exact ⟨rfl, rfl, rfl, rfl, rfl, trivial⟩
     ·
      refine wl_call _ rfl rfl rfl ent20 (RD.Pieces_calls (R := [Sx.obj D_ (.deferred (some [])), Sx.blk b2 [.bool false] 4, Sx.blk b10 [.int .i64 ((pre.length : Int))] 3, Sx.blk b11 [.string (Pc.catB pre)] 9, Sx.blk gb12 [.pointer (some ⟨g4, 0, none⟩)] 23, Sx.blk g4 [.string (s13_), .slice (A13_) (L13_.length) (c13_), .pointer (Pc.AT.ptr T13_)] 68, Pc.rowl (Φ7) 5 (A13_) (c13_) (L13_), Pc.lib (Φ7), Sx.blk b1 [.int .i64 (leave)] 3] ++ R) g4 s13_ A13_ c13_ L13_ T13_  (by omega) (by omega) hl13_ ok13_.by_ ok13_.wf (by omega) (Pc.en_blk (i := 5) rfl) (Pc.en_rowl (i := 6) (j := 7) rfl rfl (fun W_ z_ => z_)) (Pc.en_at (j := 7) rfl ok13_.at_)  h) ?_
      rintro e_ w_ ⟨rfl, h⟩
      refine ⟨_, rfl, ?_⟩
      refine wl_nil ?_
      refine qn_wyl (by kernel_rfl) ?_ (nd213 _ h)
      exact ⟨rfl, rfl, rfl, rfl, rfl, trivial⟩
    refine Sx.wy_two 0 1 rfl rfl (by kernel_rfl) ?_ ?_
    ·
     refine wl_v rfl rfl (ov_loadb 2 _ h rfl rfl sh3 rfl) ?_
     refine wl_nil ?_
     refine qn_wyl (by kernel_rfl) ?_ (nd214 _ h)
     exact ⟨rfl, rfl, rfl, rfl, rfl, trivial⟩
    ·
     refine wl_v rfl rfl (ov_move _ rfl) ?_
     refine wl_nil ?_
     refine qn_wyl (by kernel_rfl) ?_ (nd215 _ h)
     exact ⟨rfl, rfl, rfl, rfl, rfl, trivial⟩
end Go.Proofs.Ytieieindakbpoaa.L
