/- Pruned by wip/prune.py. -/
import Derived.Test.YtieieindakbpoaaProg
import Derived.Test.YtieieindakbpoaaQSxGlue
import Derived.Test.YtieieindakbpoaaQSxRanged
import Derived.Test.YtieieindakbpoaaQSxRange1
import Derived.Test.YtieieindakbpoaaQSxFlow
import Derived.Test.YtieieindakbpoaaQSxBytes
import Derived.Test.YtieieindakbpoaaQSxKinds
import Derived.Test.YtieieindakbpoaaQPcText
import Derived.Test.YtieieindakbpoaaQPcWalk
import Derived.Test.YtieieindakbpoaaQPcRead
import Derived.Test.YtieieindakbpoaaQSxTree
import Derived.Test.YtieieindakbpoaaQSxRunes
import Derived.Test.YtieieindakbpoaaQSxLast
import Derived.Test.YtieieindakbpoaaQSxWalk
import Derived.Test.YtieieindakbpoaaQSxChunks
import Derived.Test.YtieieindakbpoaaQPcTx
import Derived.Test.YtieieindakbpoaaQSxRead
import Derived.Test.YtieieindakbpoaaQSxSplitR
import Derived.Test.YtieieindakbpoaaQSxString
import Derived.Test.YtieieindakbpoaaQSxText
import Derived.Test.YtieieindakbpoaaQSxEdit
import Derived.Test.YtieieindakbpoaaQSxWhole
import Derived.Test.YtieieindakbpoaaQPcEdit
import Derived.Test.YtieieindakbpoaaQPcCopy
namespace Go.Proofs.Ytieieindakbpoaa.CP
open Go Go.RowKit Go.Proofs.YtieieindakbpoaaW.PrintWords Go.Proofs.Ytieieindakbpoaa.Kinds Go.Proofs.Ytieieindakbpoaa.Given Go.Proofs.Ytieieindakbpoaa.Rn Go.Proofs.Ytieieindakbpoaa.Sx Go.Proofs.Ytieieindakbpoaa.Pc 
set_option linter.unusedVariables false
set_option linter.unusedSimpArgs false
theorem fo68_1 : Sx.fieldOff Try.prog 68 1 = some 1 := by kernel_rfl
theorem sh41 : Sx.shapeOf Try.prog 41 = some (false, 1) := by kernel_rfl
theorem es41 : Sx.elemSz Try.prog 41 = some (5, 1) := by kernel_rfl
theorem fo68_0 : Sx.fieldOff Try.prog 68 0 = some 0 := by kernel_rfl
theorem sh9 : Sx.shapeOf Try.prog 9 = some (false, 1) := by kernel_rfl
theorem fo68_2 : Sx.fieldOff Try.prog 68 2 = some 2 := by kernel_rfl
theorem sh66 : Sx.shapeOf Try.prog 66 = some (false, 1) := by kernel_rfl
set_option maxHeartbeats 4000000 in
set_option maxRecDepth 100000 in
theorem Copy_calls {w0 w : World} {F0 : Nat → Prop} {R : List Sx.HP} (Φ : World → Prop) (g : Nat) (D : List ByteArray) (d : Int) (h : Sx.St w0 F0 ([Pc.tx Φ g D d, Pc.lib Φ] ++ R) w) : Calls Try.prog 26 #[.pointer (some ⟨g, 0, none⟩)] w (fun e w1 => ∃ (g2 : Nat) (Φ2 : World → Prop), e = .returned (.pointer (some ⟨g2, 0, none⟩)) ∧ (∀ W, Φ2 W → Φ W) ∧ Sx.St w0 F0 ([Pc.tx Φ2 g D d, Pc.tx Φ2 g2 D d, Pc.lib Φ2] ++ R) w1) := by
 obtain ⟨s1_, A1_, c1_, L1_, T1_, ok1_, hl1_, h⟩ := Pc.tx_open h
 have hz1_ := ok1_.z0
 have hy1_ := ok1_.zL
 have hx1_ := ok1_.zc
 have hcz1_ := Pc.cat_size ok1_.wf
 replace h : Sx.St w0 F0 ([Sx.blk g [.string (s1_), .slice (A1_) (L1_.length) (c1_), .pointer (Pc.AT.ptr T1_)] 68, Pc.rowl (Φ) 5 (A1_) (c1_) (L1_), Pc.lib (Φ)] ++ R) _ := h
 refine Sx.calls_fn (vs := [.pointer (some ⟨g, 0, none⟩)]) Try.func26 rfl Try.ntmps26 rfl ?_
 refine wc_seq ?_
 refine wc_region ?_
 refine wl_v rfl rfl (ov_assign _ rfl) ?_
 refine wl_nil ?_
 refine qn_then ?_
 refine wc_seq ?_
 refine wc_region ?_
 refine wl_v rfl rfl (ov_move _ rfl) ?_
 refine wl_v rfl rfl (ov_nilCheck _ rfl) ?_
 refine wl_v rfl rfl (ov_fieldAddr _ ⟨g, 1, none⟩ _ rfl fo68_1 rfl) ?_
 refine wl_v rfl rfl (ov_loadb 0 _ h rfl rfl sh41 rfl) ?_
 refine wl_v rfl rfl (ov_len _ _ _ _ _ rfl es41) ?_
 refine wl_v rfl rfl (ov_assign _ rfl) ?_
 refine wl_nil ?_
 refine qn_then ?_
 refine wc_seq ?_
 refine wc_region ?_
 refine wl_v rfl rfl (ov_move _ rfl) ?_
 refine wl_v rfl rfl (ov_move _ rfl) ?_
 refine wl_v rfl rfl (ov_nilCheck _ rfl) ?_
 refine wl_v rfl rfl (ov_fieldAddr _ ⟨g, 1, none⟩ _ rfl fo68_1 rfl) ?_
 refine wl_v rfl rfl (ov_loadb 0 _ h rfl rfl sh41 rfl) ?_
 refine wl_v rfl rfl (ov_move _ rfl) ?_
 refine wl_v rfl rfl (ov_move _ rfl) ?_
 refine wl_v rfl rfl (Pc.ov_slice3 _ _ _ L1_.length rfl rfl rfl rfl es41 (by first | exact Nat.le_refl _ | exact hl1_ | omega)) ?_
 refine wl_v rfl rfl (ov_nilCheck _ rfl) ?_
 refine wl_v rfl rfl (ov_fieldAddr _ ⟨g, 1, none⟩ _ rfl fo68_1 rfl) ?_
 refine wl_storeb 0 _ [.string (s1_), .slice (A1_) (L1_.length) (L1_.length), .pointer (Pc.AT.ptr T1_)] h rfl rfl rfl rfl rfl rfl sh41 rfl rfl (fun _ h => ?_)
 refine wl_nil ?_
 refine qn_then ?_
 refine wc_seq ?_
 refine wc_draw (fun w => Sx.St w0 F0 ([Sx.blk g [.string (s1_), .slice (A1_) (L1_.length) (L1_.length), .pointer (Pc.AT.ptr T1_)] 68, Pc.rowl (Φ) 5 (A1_) (c1_) (L1_), Pc.lib (Φ)] ++ R) w) (by kernel_rfl) ?_
 replace h := st_drew h
 refine wa_tk 0 rfl rfl rfl (st_selT [true, true, true] h) (fun w_ hS => ov_move _ rfl) ?_
 refine wa_tk 1 rfl rfl rfl (st_selT [true, true, true] h) (fun w_ hS => ov_nilCheck _ rfl) ?_
 refine wa_tk 2 rfl rfl rfl (st_selT [true, true, true] h) (fun w_ hS => ov_fieldAddr _ ⟨g, 0, none⟩ _ rfl fo68_0 rfl) ?_
 refine wa_tk 3 rfl rfl rfl (st_selT [true, true, true] h) (fun w_ hS => ov_loadb 0 _ hS rfl rfl sh9 rfl) ?_
 refine wa_tk 4 rfl rfl rfl (st_selT [true, true, true] h) (fun w_ hS => ov_move _ rfl) ?_
 refine wa_tk 5 rfl rfl rfl (st_selT [true, true, true] h) (fun w_ hS => ov_nilCheck _ rfl) ?_
 refine wa_tk 6 rfl rfl rfl (st_selT [true, true, true] h) (fun w_ hS => ov_fieldAddr _ ⟨g, 1, none⟩ _ rfl fo68_1 rfl) ?_
 refine wa_tk 7 rfl rfl rfl (st_selT [true, true, true] h) (fun w_ hS => ov_loadb 0 _ hS rfl rfl sh41 rfl) ?_
 refine wa_tk 8 rfl rfl rfl (st_selT [true, true, true] h) (fun w_ hS => ov_move _ rfl) ?_
 refine wa_tk 9 rfl rfl rfl (st_selT [true, true, true] h) (fun w_ hS => ov_move _ rfl) ?_
 refine wa_tk 10 rfl rfl rfl (st_selT [true, true, true] h) (fun w_ hS => by exact Pc.ov_slice3 _ _ _ L1_.length rfl rfl rfl rfl es41 (by first | exact Nat.le_refl _ | exact hl1_ | omega)) ?_
 refine wa_tk 11 rfl rfl rfl (st_selT [true, true, true] h) (fun w_ hS => ov_move _ rfl) ?_
 refine wa_tk 12 rfl rfl rfl (st_selT [true, true, true] h) (fun w_ hS => ov_nilCheck _ rfl) ?_
 refine wa_tk 13 rfl rfl rfl (st_selT [true, true, true] h) (fun w_ hS => ov_fieldAddr _ ⟨g, 2, none⟩ _ rfl fo68_2 rfl) ?_
 refine wa_tk 14 rfl rfl rfl (st_selT [true, true, true] h) (fun w_ hS => ov_loadb 0 _ hS rfl rfl sh66 rfl) ?_
 refine wa_tk 15 rfl rfl rfl (st_selT [true, true, true] h) (fun w_ hS => ov_build [(0, .string (s1_)), (1, .slice (A1_) (L1_.length) (L1_.length)), (2, .pointer (Pc.AT.ptr T1_))] [.string (s1_), .slice (A1_) (L1_.length) (L1_.length), .pointer (Pc.AT.ptr T1_)] rfl rfl (by kernel_rfl)) ?_
 refine wa_one 16 rfl (by kernel_rfl) ?_
 refine wl_box _ h rfl rfl rfl (fun b2 _ h => ?_)
 replace h : Sx.St _ _ (Sx.blk b2 [.string (s1_), .slice (A1_) (L1_.length) (L1_.length), .pointer (Pc.AT.ptr T1_)] 68 :: _) _ := h
 refine wl_nil ?_
 refine qn_wa (st_selT [false, true, true, true] h) ?_
 refine wa_tk 17 rfl rfl rfl (st_selT [false, true, true, true] h) (fun w_ hS => ov_assign _ rfl) ?_
 refine wa_done (by kernel_rfl) ?_
 refine qn_then ?_
 refine wc_ret ?_
 refine qn_ret [_] ⟨rfl, trivial⟩ ?_
 replace h := st_front 1 h
 replace h := st_front 3 h
 replace h := st_front 3 h
 obtain ⟨Φ2, hs2_, hC2_, h⟩ := Pc.rowl_share h
 have hok2_ : Pc.TxOk Φ2 s1_ L1_ T1_ D d := ⟨fun W_ z_ => ok1_.at_ W_ (hs2_ W_ z_), ok1_.bal, ok1_.wf, ok1_.by_, ok1_.eD, ok1_.ed, ok1_.z0, ok1_.zL, ok1_.zc⟩
 replace h := st_front 2 h
 replace h := Pc.tx_close rfl hok2_ (st_front 1 (Pc.full_rowl (Φ := Φ2) (e := 5) (A := A1_) (c := L1_.length) rfl hC2_ h))
 replace h := st_front 2 h
 replace h := Pc.tx_close rfl hok2_ (st_front 1 (Pc.full_rowl (Φ := Φ2) (e := 5) (A := A1_) (c := L1_.length) rfl hC2_ h))
 exact ⟨b2, Φ2, rfl, hs2_, h⟩
end Go.Proofs.Ytieieindakbpoaa.CP
