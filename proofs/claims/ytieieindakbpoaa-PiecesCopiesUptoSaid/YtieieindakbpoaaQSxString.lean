/- Pruned by wip/prune.py. -/
import Derived.Test.YtieieindakbpoaaProg
import Derived.Test.YtieieindakbpoaaQSxGlue
import Derived.Test.YtieieindakbpoaaQSxRanged
import Derived.Test.YtieieindakbpoaaQSxRange1
import Derived.Test.YtieieindakbpoaaQSxFlow
import Derived.Test.YtieieindakbpoaaQSxBytes
import Derived.Test.YtieieindakbpoaaQSxKinds
import Derived.Test.YtieieindakbpoaaQPcText
import Derived.Test.YtieieindakbpoaaQPcWalk
import Derived.Test.YtieieindakbpoaaQPcRead
import Derived.Test.YtieieindakbpoaaQSxTree
import Derived.Test.YtieieindakbpoaaQSxRunes
import Derived.Test.YtieieindakbpoaaQSxLast
import Derived.Test.YtieieindakbpoaaQSxWalk
import Derived.Test.YtieieindakbpoaaQSxChunks
import Derived.Test.YtieieindakbpoaaQSxRead
import Derived.Test.YtieieindakbpoaaQSxSplitR
namespace Go.Proofs.Ytieieindakbpoaa.ST
open Go Go.RowKit Go.Proofs.YtieieindakbpoaaW.PrintWords Go.Proofs.Ytieieindakbpoaa.Kinds Go.Proofs.Ytieieindakbpoaa.Given Go.Proofs.Ytieieindakbpoaa.Rn Go.Proofs.Ytieieindakbpoaa.Sx Go.Proofs.Ytieieindakbpoaa.Pc 
set_option linter.unusedVariables false
set_option linter.unusedSimpArgs false
theorem ent16 : Sx.Ent Try.prog 16 := ⟨Try.f16, Try.func16, by kernel_rfl, by kernel_rfl⟩
theorem inf5 : (Try.prog.info? 5).map (fun i => (i.zero, i.size, i.bytes)) = some (some (.int .u8 (0)), 1, 1) := by kernel_rfl
theorem zo41 : Sx.zeroOf Try.prog 41 = some (.slice (none) (0) (0)) := by kernel_rfl
theorem sh41 : Sx.shapeOf Try.prog 41 = some (false, 1) := by kernel_rfl
theorem ent19 : Sx.Ent Try.prog 19 := ⟨Try.f19, Try.func19, by kernel_rfl, by kernel_rfl⟩
theorem ent40 : Sx.Ent Try.prog 40 := ⟨Try.f40, Try.func40, by kernel_rfl, by kernel_rfl⟩
theorem szf5 : (Try.prog.info? 5).map (·.size) = some 1 := by kernel_rfl
set_option maxRecDepth 100000 in
theorem Chunks_calls {w0 w : World} {F0 : Nat → Prop} {R : List Sx.HP} (gt : Nat)  (h : Sx.St w0 F0 ([] ++ R) w) : Calls Try.prog 19 #[.pointer (some ⟨gt, 0, none⟩)] w (fun e w1 => ∃ g, e = .returned (.func (.func 40) #[] #[.pointer (some ⟨g, 0, none⟩)]) ∧ Sx.St w0 F0 (Sx.blk g [.pointer (some ⟨gt, 0, none⟩)] 23 :: R) w1) := by
 refine Sx.calls_fn (vs := [.pointer (some ⟨gt, 0, none⟩)]) Try.func19 rfl Try.ntmps19 rfl ?_
 refine wc_seq ?_
 refine wc_region ?_
 refine wl_box _ h rfl rfl rfl (fun b1 _ h => ?_)
 replace h : Sx.St _ _ (Sx.blk b1 [.pointer (some ⟨gt, 0, none⟩)] 23 :: _) _ := h
 refine wl_v rfl rfl (ov_assign _ rfl) ?_
 refine wl_nil ?_
 refine qn_then ?_
 refine wc_seq ?_
 refine wc_region ?_
 refine wl_v rfl rfl (ov_makeFunc _ rfl) ?_
 refine wl_v rfl rfl (ov_assign _ rfl) ?_
 refine wl_nil ?_
 refine qn_then ?_
 refine wc_ret ?_
 refine qn_ret [_] ⟨rfl, trivial⟩ ?_
 exact ⟨_, rfl, h⟩
set_option maxHeartbeats 4000000 in
set_option maxRecDepth 100000 in
theorem String_calls {w0 w : World} {F0 : Nat → Prop} {R : List Sx.HP} (gt : Nat) (s0 : ByteArray) (A : Option Addr) (c : Nat) (L : List Int) (T : Pc.AT) (Φ : World → Prop) (Ψ : World → Prop) (hΨ : ∀ W, Φ W → Ψ W) (hT : ∀ W, Φ W → Pc.At W T) (hz0 : s0.size ≤ 1000000) (hzL : L.length ≤ 1000000) (hlc : L.length ≤ c) (hb : Pc.Bytes L) (hw : Pc.Wf s0 L (Pc.AT.fl T)) (hcz : (Pc.cat s0 L (Pc.AT.fl T)).size ≤ 1000000) (h : Sx.St w0 F0 ([Sx.blk gt [.string (s0), .slice (A) (L.length) (c), .pointer (Pc.AT.ptr T)] 68, Pc.rowl (Ψ) 5 (A) (c) (L), Pc.lib (Φ)] ++ R) w) : Calls Try.prog 15 #[.pointer (some ⟨gt, 0, none⟩)] w (fun e w1 => e = .returned (.string (Pc.cat s0 L (Pc.AT.fl T))) ∧ Sx.St w0 F0 ([Sx.blk gt [.string (s0), .slice (A) (L.length) (c), .pointer (Pc.AT.ptr T)] 68, Pc.rowl (Ψ) 5 (A) (c) (L), Pc.lib (Φ)] ++ R) w1) := by
 refine Sx.calls_fnM (vs := [.pointer (some ⟨gt, 0, none⟩)]) Try.func15 rfl Try.ntmps15 rfl ?_
 refine wc_seq ?_
 refine wc_region ?_
 refine wl_v rfl rfl (ov_assign _ rfl) ?_
 refine wl_nil ?_
 refine qn_then ?_
 refine wc_seq ?_
 refine wc_region ?_
 refine wl_v rfl rfl (ov_move _ rfl) ?_
 refine wl_call _ rfl rfl rfl ent16 (RD.Len_calls (R := [Sx.blk gt [.string (s0), .slice (A) (L.length) (c), .pointer (Pc.AT.ptr T)] 68, Pc.rowl (Ψ) 5 (A) (c) (L), Pc.lib (Φ)] ++ R) gt s0 A c L T  hz0 hzL hlc hb hw hcz (Pc.en_blk (i := 0) rfl) (Pc.en_rowl (i := 1) (j := 2) rfl rfl (fun W_ z_ => (hΨ W_ z_))) (Pc.en_at (j := 2) rfl hT)  h) ?_
 rintro e_ w_ ⟨rfl, h⟩
 refine ⟨_, rfl, ?_⟩
 refine wl_makecap ((Pc.cat s0 L (Pc.AT.fl T)).size) h rfl rfl rfl (my := Pc.szF (Pc.AT.fl T)) rfl ((Pc.cat_size hw).symm) Try.underlying41 inf5 (by omega) (fun bo1 _ h => ?_)
 refine wl_alloc _ h rfl rfl zo41 (fun b2 _ h => ?_)
 replace h : Sx.St _ _ (Sx.blk b2 [.slice (none) (0) (0)] 41 :: _) _ := h
 refine wl_storeb 0 _ [.slice (some ⟨bo1, 0, none⟩) (0) ((Pc.cat s0 L (Pc.AT.fl T)).size)] h rfl rfl rfl rfl rfl rfl sh41 rfl rfl (fun _ h => ?_)
 refine wl_nil ?_
 refine qn_then ?_
 refine wc_seq ?_
 refine wc_seq ?_
 refine wc_region ?_
 refine wl_v rfl rfl (ov_move _ rfl) ?_
 refine wl_call _ rfl rfl rfl ent19 (ST.Chunks_calls (R := [Sx.blk b2 [.slice (some ⟨bo1, 0, none⟩) (0) ((Pc.cat s0 L (Pc.AT.fl T)).size)] 41, Sx.blk bo1 (Sx.obuf ((Pc.cat s0 L (Pc.AT.fl T)).size) (ByteArray.empty)) 5, Sx.blk gt [.string (s0), .slice (A) (L.length) (c), .pointer (Pc.AT.ptr T)] 68, Pc.rowl (Ψ) 5 (A) (c) (L), Pc.lib (Φ)] ++ R) gt h) ?_
 rintro e_ w_ ⟨gb3, rfl, h⟩
 refine ⟨_, rfl, ?_⟩
 replace h : Sx.St w0 F0 ([Sx.blk gb3 [.pointer (some ⟨gt, 0, none⟩)] 23, Sx.blk b2 [.slice (some ⟨bo1, 0, none⟩) (0) ((Pc.cat s0 L (Pc.AT.fl T)).size)] 41, Sx.blk bo1 (Sx.obuf ((Pc.cat s0 L (Pc.AT.fl T)).size) (ByteArray.empty)) 5, Sx.blk gt [.string (s0), .slice (A) (L.length) (c), .pointer (Pc.AT.ptr T)] 68, Pc.rowl (Ψ) 5 (A) (c) (L), Pc.lib (Φ)] ++ R) _ := h
 refine wl_nil ?_
 refine qn_then ?_
 refine wc_block ?_
 replace h := st_front 5 h
 replace h := st_front 5 h
 replace h := st_front 5 h
 replace h := st_front 3 h
 replace h := st_front 5 h
 replace h := st_front 5 h
 replace h : Sx.St w0 F0 (Sx.pcs [(b2, 41), (bo1, 5)] [[.slice (some ⟨bo1, 0, none⟩) ((Pc.catB ([] : List ByteArray)).size) ((Pc.cat s0 L (Pc.AT.fl T)).size)], Sx.obuf ((Pc.cat s0 L (Pc.AT.fl T)).size) (Pc.catB ([] : List ByteArray))] ++ ([Sx.blk gb3 [.pointer (some ⟨gt, 0, none⟩)] 23, Sx.blk gt [.string (s0), .slice (A) (L.length) (c), .pointer (Pc.AT.ptr T)] 68, Pc.rowl (Ψ) 5 (A) (c) (L), Pc.lib (Φ)] ++ R)) _ := h
 have hcat_ := Pc.catB_chs s0 L (Pc.AT.fl T)
 refine wc_range1 (α := ByteArray) [(b2, 41), (bo1, 5)] (fun s_ => [[.slice (some ⟨bo1, 0, none⟩) ((Pc.catB s_).size) ((Pc.cat s0 L (Pc.AT.fl T)).size)], Sx.obuf ((Pc.cat s0 L (Pc.AT.fl T)).size) (Pc.catB s_)]) (fun c_ s_ => [[.slice (some ⟨bo1, 0, none⟩) ((Pc.catB s_).size) ((Pc.cat s0 L (Pc.AT.fl T)).size)], Sx.obuf ((Pc.cat s0 L (Pc.AT.fl T)).size) (Pc.catB s_)]) ([Sx.blk gb3 [.pointer (some ⟨gt, 0, none⟩)] 23, Sx.blk gt [.string (s0), .slice (A) (L.length) (c), .pointer (Pc.AT.ptr T)] 68, Pc.rowl (Ψ) 5 (A) (c) (L), Pc.lib (Φ)] ++ R) (e1 := fun x_ => .string (x_)) (fun s_ => ∃ suf, (Pc.chs s0 L (Pc.AT.fl T)) = s_ ++ suf) (fun c_ s_ => False) h (fun _ => rfl) (fun c_ _ => rfl) rfl ent40 rfl (TC.chunks_seq hz0 hzL (Sx.stab_blk (i := 0) h rfl rfl) (Sx.stab_blk (i := 1) h rfl rfl) (Pc.stab_rowl (i := 2) (j := 3) h rfl rfl rfl hΨ).2 hlc (Pc.stab_at (i := 3) h rfl rfl T hT) hw) (⟨_, rfl⟩) ?_ ?_ ?_ ?_
 ·
  clear h
  intro l_ D_ oR oB od pre x w0 Qm Qr hngm hngr hnpm hnpr hJ hN hkc hmid hnorm hretr hexitr h
  obtain ⟨F0, hF0_⟩ : ∃ F_ : Nat → Prop, F_ = Sx.FX [(b2, 41), (bo1, 5)] l_ D_ := ⟨_, rfl⟩
  rw [← hF0_] at hkc hmid hnorm hretr hexitr h
  replace h : Sx.St w0 F0 ([Sx.obj l_ oR, Sx.obj D_ od, Sx.blk b2 [.slice (some ⟨bo1, 0, none⟩) ((Pc.catB pre).size) ((Pc.cat s0 L (Pc.AT.fl T)).size)] 41, Sx.blk bo1 (Sx.obuf ((Pc.cat s0 L (Pc.AT.fl T)).size) (Pc.catB pre)) 5] ++ []) w0 := h
  have hroom_ : (Pc.catB pre).size + x.size ≤ (Pc.cat s0 L (Pc.AT.fl T)).size := by
    obtain ⟨suf_, hs_⟩ := hN
    have q_ := congrArg ByteArray.size hcat_
    rw [hs_, Pc.catB_app] at q_
    simp only [Pc.catB] at q_
    rw [ByteArray.size_append, ByteArray.size_append] at q_
    omega
  refine Sx.ci_region (Sx.lax_round l_) (fun a_ w_ h_ => hngm a_ w_ h_) (by kernel_rfl) ?_
  refine wl_v rfl rfl (ov_assign _ rfl) ?_
  refine wl_nil ?_
  refine hmid _ _ _ h (fun w_ h => ?_)
  replace h : Sx.St w0 F0 ([Sx.obj l_ oB, Sx.obj D_ od, Sx.blk b2 [.slice (some ⟨bo1, 0, none⟩) ((Pc.catB pre).size) ((Pc.cat s0 L (Pc.AT.fl T)).size)] 41, Sx.blk bo1 (Sx.obuf ((Pc.cat s0 L (Pc.AT.fl T)).size) (Pc.catB pre)) 5] ++ []) w_ := h
  refine Sx.ci_block ?_
  refine Sx.ci_region (Sx.lax_round l_) (fun a_ w_ h_ => hngr a_ w_ h_) (by kernel_rfl) ?_
  refine wl_v rfl rfl (ov_loadb 2 _ h rfl rfl sh41 rfl) ?_
  refine wl_v rfl rfl (ov_move _ rfl) ?_
  refine wl_appendroom 3 (Pc.catB pre) (x) h rfl rfl rfl rfl (rfl) rfl Try.underlying41 Try.underlying9 szf5 (hroom_) (fun _ h => ?_)
  replace h : Sx.St w0 F0 ([Sx.obj l_ oB, Sx.obj D_ od, Sx.blk b2 [.slice (some ⟨bo1, 0, none⟩) ((Pc.catB pre).size) ((Pc.cat s0 L (Pc.AT.fl T)).size)] 41, Sx.blk bo1 (Sx.obuf ((Pc.cat s0 L (Pc.AT.fl T)).size) ((Pc.catB pre) ++ (x))) 5] ++ []) _ := h
  refine wl_storeb 2 _ [.slice (some ⟨bo1, 0, none⟩) (((Pc.catB pre) ++ (x)).size) ((Pc.cat s0 L (Pc.AT.fl T)).size)] h rfl rfl rfl rfl rfl rfl sh41 rfl rfl (fun _ h => ?_)
  refine wl_nil ?_
  refine qn_block_normal ?_
  replace h := st_front 3 h
  replace h := st_front 3 h
  replace h := st_front 3 h
  replace h := st_front 3 h
  replace h : Sx.St w0 F0 ([Sx.obj l_ oB, Sx.obj D_ od, Sx.blk b2 [.slice (some ⟨bo1, 0, none⟩) (((Pc.catB pre) ++ (x)).size) ((Pc.cat s0 L (Pc.AT.fl T)).size)] 41, Sx.blk bo1 (Sx.obuf ((Pc.cat s0 L (Pc.AT.fl T)).size) ((Pc.catB pre) ++ (x))) 5] ++ []) _ := h
  refine hnorm _ _ ?_ ?_
  · obtain ⟨suf_, hs_⟩ := hN
    exact ⟨suf_, by rw [hs_]; simp⟩
  · have ec_ : Pc.catB (pre ++ [x]) = Pc.catB pre ++ x := by rw [Pc.catB_app, Pc.catB_one]
    show Sx.St w0 F0 [Sx.obj l_ oB, Sx.obj D_ od, Sx.blk b2 [.slice (some ⟨bo1, 0, none⟩) ((Pc.catB (pre ++ [x])).size) ((Pc.cat s0 L (Pc.AT.fl T)).size)] 41, Sx.blk bo1 (Sx.obuf ((Pc.cat s0 L (Pc.AT.fl T)).size) (Pc.catB (pre ++ [x]))) 5] _
    rw [ec_]
    exact h
 ·
  clear h
  intro D_ xs w hS hJ h
  have hS2_ := hS
  have hcs3_ : (Pc.catB xs).size ≤ 1000000 := by rw [hS, hcat_]; exact hcz
  replace h : Sx.St w0 F0 ([Sx.obj D_ (.deferred (some [])), Sx.blk b2 [.slice (some ⟨bo1, 0, none⟩) ((Pc.catB xs).size) ((Pc.cat s0 L (Pc.AT.fl T)).size)] 41, Sx.blk bo1 (Sx.obuf ((Pc.cat s0 L (Pc.AT.fl T)).size) (Pc.catB xs)) 5, Sx.blk gb3 [.pointer (some ⟨gt, 0, none⟩)] 23, Sx.blk gt [.string (s0), .slice (A) (L.length) (c), .pointer (Pc.AT.ptr T)] 68, Pc.rowl (Ψ) 5 (A) (c) (L), Pc.lib (Φ)] ++ R) w := h
  refine Sx.qd_block_normal ?_
  refine Sx.qd_then ?_
  refine Sx.ci_seq ?_
  refine Sx.ci_region Sx.lax_wide (fun _ _ h_ => by cases (And.left h_)) (by kernel_rfl) ?_
  refine wl_v rfl rfl (ov_loadb 1 _ h rfl rfl sh41 rfl) ?_
  refine wl_v rfl rfl (ov_string rfl (Sx.obuf_C h (i := 2) rfl (by omega)) Try.underlying41 Try.underlying5 Try.underlying9) ?_
  refine wl_v rfl rfl (ov_assign _ rfl) ?_
  refine wl_nil ?_
  refine Sx.qi_then ?_
  refine Sx.ci_ret ?_
  have hD_ := st_obj (i := 0) h rfl
  replace h := st_putobj (.deferred none) h
  replace h : Sx.St w0 F0 ([Sx.obj D_ (.deferred none), Sx.blk b2 [.slice (some ⟨bo1, 0, none⟩) ((Pc.catB xs).size) ((Pc.cat s0 L (Pc.AT.fl T)).size)] 41, Sx.blk bo1 (Sx.obuf ((Pc.cat s0 L (Pc.AT.fl T)).size) (Pc.catB xs)) 5, Sx.blk gb3 [.pointer (some ⟨gt, 0, none⟩)] 23, Sx.blk gt [.string (s0), .slice (A) (L.length) (c), .pointer (Pc.AT.ptr T)] 68, Pc.rowl (Ψ) 5 (A) (c) (L), Pc.lib (Φ)] ++ R) _ := h
  have hend_ := h
  replace h := st_front 6 h
  replace h := st_front 6 h
  replace h := st_front 6 h
  replace h := st_selT [true, true, true, false, false, false, false] h
  refine qn_retD [_] hD_ ⟨rfl, trivial⟩ ?_
  have e_ : strOfNums (bytesOf (Pc.catB xs)) = (Pc.cat s0 L (Pc.AT.fl T)) := by rw [Pc.sn_bytes, hS, Pc.catB_chs]
  rw [e_]
  exact ⟨rfl, h⟩
 ·
  clear h
  intro D_ pre w hS hx h
  exact hx.elim
 ·
  clear h
  intro id_ D_ pre w hS hx h
  exact hx.elim
end Go.Proofs.Ytieieindakbpoaa.ST
