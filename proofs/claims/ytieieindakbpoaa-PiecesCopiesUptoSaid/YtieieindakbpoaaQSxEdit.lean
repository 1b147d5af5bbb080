/- Pruned by wip/prune.py. -/
import Derived.Test.YtieieindakbpoaaProg
import Derived.Test.YtieieindakbpoaaQSxGlue
import Derived.Test.YtieieindakbpoaaQSxRanged
import Derived.Test.YtieieindakbpoaaQSxRange1
import Derived.Test.YtieieindakbpoaaQSxFlow
import Derived.Test.YtieieindakbpoaaQSxBytes
import Derived.Test.YtieieindakbpoaaQSxKinds
import Derived.Test.YtieieindakbpoaaQPcText
import Derived.Test.YtieieindakbpoaaQPcWalk
import Derived.Test.YtieieindakbpoaaQPcRead
import Derived.Test.YtieieindakbpoaaQSxTree
import Derived.Test.YtieieindakbpoaaQSxRunes
import Derived.Test.YtieieindakbpoaaQSxLast
import Derived.Test.YtieieindakbpoaaQSxWalk
import Derived.Test.YtieieindakbpoaaQSxChunks
import Derived.Test.YtieieindakbpoaaQPcTx
import Derived.Test.YtieieindakbpoaaQSxRead
import Derived.Test.YtieieindakbpoaaQSxSplitR
import Derived.Test.YtieieindakbpoaaQSxString
import Derived.Test.YtieieindakbpoaaQSxText
namespace Go.Proofs.Ytieieindakbpoaa.ED
open Go Go.RowKit Go.Proofs.YtieieindakbpoaaW.PrintWords Go.Proofs.Ytieieindakbpoaa.Kinds Go.Proofs.Ytieieindakbpoaa.Given Go.Proofs.Ytieieindakbpoaa.Rn Go.Proofs.Ytieieindakbpoaa.Sx Go.Proofs.Ytieieindakbpoaa.Pc 
set_option linter.unusedVariables false
set_option linter.unusedSimpArgs false
theorem ent31 : Sx.Ent Try.prog 31 := ⟨Try.f31, Try.func31, by kernel_rfl, by kernel_rfl⟩
theorem ent36 : Sx.Ent Try.prog 36 := ⟨Try.f36, Try.func36, by kernel_rfl, by kernel_rfl⟩
theorem ent16 : Sx.Ent Try.prog 16 := ⟨Try.f16, Try.func16, by kernel_rfl, by kernel_rfl⟩
theorem fo68_2 : Sx.fieldOff Try.prog 68 2 = some 2 := by kernel_rfl
theorem sh66 : Sx.shapeOf Try.prog 66 = some (false, 1) := by kernel_rfl
theorem ent45 : Sx.Ent Try.prog 45 := ⟨Try.f45, Try.func45, by kernel_rfl, by kernel_rfl⟩
theorem fo68_1 : Sx.fieldOff Try.prog 68 1 = some 1 := by kernel_rfl
theorem sh41 : Sx.shapeOf Try.prog 41 = some (false, 1) := by kernel_rfl
theorem es41 : Sx.elemSz Try.prog 41 = some (5, 1) := by kernel_rfl
theorem ent46 : Sx.Ent Try.prog 46 := ⟨Try.f46, Try.func46, by kernel_rfl, by kernel_rfl⟩
theorem zo77 : Sx.zeroOf Try.prog 77 = some (.agg #[.bool false, .int .i64 (0), .int .i64 (0), .int .i64 (0)]) := by kernel_rfl
theorem sh77 : Sx.shapeOf Try.prog 77 = some (true, 4) := by kernel_rfl
theorem inf5 : (Try.prog.info? 5).map (fun i => (i.zero, i.size, i.bytes)) = some (some (.int .u8 (0)), 1, 1) := by kernel_rfl
theorem ent47 : Sx.Ent Try.prog 47 := ⟨Try.f47, Try.func47, by kernel_rfl, by kernel_rfl⟩
theorem fo77_0 : Sx.fieldOff Try.prog 77 0 = some 0 := by kernel_rfl
theorem sh4 : Sx.shapeOf Try.prog 4 = some (false, 1) := by kernel_rfl
theorem fo77_1 : Sx.fieldOff Try.prog 77 1 = some 1 := by kernel_rfl
theorem sh3 : Sx.shapeOf Try.prog 3 = some (false, 1) := by kernel_rfl
theorem fo77_2 : Sx.fieldOff Try.prog 77 2 = some 2 := by kernel_rfl
theorem fo77_3 : Sx.fieldOff Try.prog 77 3 = some 3 := by kernel_rfl
theorem ent48 : Sx.Ent Try.prog 48 := ⟨Try.f48, Try.func48, by kernel_rfl, by kernel_rfl⟩
theorem ent49 : Sx.Ent Try.prog 49 := ⟨Try.f49, Try.func49, by kernel_rfl, by kernel_rfl⟩
theorem ent52 : Sx.Ent Try.prog 52 := ⟨Try.f52, Try.func52, by kernel_rfl, by kernel_rfl⟩
theorem ent53 : Sx.Ent Try.prog 53 := ⟨Try.f53, Try.func53, by kernel_rfl, by kernel_rfl⟩
/-- Insert's answer, and the text then. -/
def pins (C : ByteArray) (k : Int) (s : ByteArray) : Int := if RD.pchk C k ≠ 0 then RD.pchk C k else if checkV s ≠ 0 then checkV s else if 65536 < C.size + s.size then 31 else 0
def insT (C : ByteArray) (k : Int) (s : ByteArray) : ByteArray := if pins C k s = 0 then C.extract 0 k.toNat ++ s ++ C.extract k.toNat C.size else C
def delT (C : ByteArray) (a b : Int) : ByteArray := if RD.pspan C a b = 0 then C.extract 0 a.toNat ++ C.extract b.toNat C.size else C
theorem chk0 {C : ByteArray} {k : Int} (h : RD.pchk C k = 0) : 0 ≤ k ∧ k ≤ C.size := by
  unfold RD.pchk at h
  split at h
  · omega
  · omega
theorem span0 {C : ByteArray} {a b : Int} (h : RD.pspan C a b = 0) : 0 ≤ a ∧ a ≤ b ∧ b ≤ C.size ∧ RD.pchk C a = 0 ∧ RD.pchk C b = 0 := by
  unfold RD.pspan at h
  split at h
  · omega
  · split at h
    · omega
    · have : RD.pchk C a = 0 := Classical.not_not.1 (by assumption)
      omega
theorem ins_size {C s : ByteArray} {k : Int} (h0 : 0 ≤ k) (h1 : k ≤ C.size) : (C.extract 0 k.toNat ++ s ++ C.extract k.toNat C.size).size = C.size + s.size := by
  rw [ByteArray.size_append, ByteArray.size_append, ByteArray.size_extract, ByteArray.size_extract]
  omega
theorem del_size {C : ByteArray} {a b : Int} (h0 : 0 ≤ a) (h1 : a ≤ b) (h2 : b ≤ C.size) : (C.extract 0 a.toNat ++ C.extract b.toNat C.size).size = C.size - (b.toNat - a.toNat) := by
  rw [ByteArray.size_append, ByteArray.size_extract, ByteArray.size_extract]
  omega
theorem ins_none {C : ByteArray} {k : Int} (h0 : 0 ≤ k) (h1 : k ≤ C.size) : C.extract 0 k.toNat ++ ByteArray.empty ++ C.extract k.toNat C.size = C := by
  rw [ByteArray.append_empty, Pc.ex_app _ (by omega) (by omega), Pc.ex_all]
theorem ht_nd (g : Nat) (l : Pc.AT) (p : S77) (r : Pc.AT) : 0 < Pc.AT.ht (Pc.AT.nd g l p r) := by
  have h1 := Pc.AT.ht_nonneg l
  have h2 := Pc.AT.ht_nonneg r
  simp only [Pc.AT.ht]
  omega
set_option maxHeartbeats 4000000 in
set_option maxRecDepth 100000 in
theorem Insert_calls {w0 w : World} {F0 : Nat → Prop} {R : List Sx.HP} (Φ : World → Prop) (g : Nat) (D : List ByteArray) (d : Int) (k : Int) (s : ByteArray) (hs9 : s.size ≤ 1125899906842624) (h : Sx.St w0 F0 ([Pc.tx (Φ) g (D) (d), Pc.lib (Φ)] ++ R) w) : Calls Try.prog 25 #[.pointer (some ⟨g, 0, none⟩), .int .i64 (k), .string (s)] w (fun e w1 => ∃ (D2 : List ByteArray) (d2 : Int) (Φ2 : World → Prop), e = .returned (.int .i64 (ED.pins (Pc.catB D) k s)) ∧ (∀ W, Φ2 W → Φ W) ∧ (Pc.catB D2 = ED.insT (Pc.catB D) k s ∧ D2.length ≤ D.length + 2) ∧ Sx.St w0 F0 ([Pc.tx Φ2 g D2 d2, Pc.lib Φ2] ++ R) w1) := by
 obtain ⟨s1_, A1_, c1_, L1_, T1_, ok1_, hl1_, h⟩ := Pc.tx_open h
 have hz1_ := ok1_.z0
 have hy1_ := ok1_.zL
 have hx1_ := ok1_.zc
 have hcz1_ := Pc.cat_size ok1_.wf
 replace h : Sx.St w0 F0 ([Sx.blk g [.string (s1_), .slice (A1_) (L1_.length) (c1_), .pointer (Pc.AT.ptr T1_)] 68, Pc.rowl (Φ) 5 (A1_) (c1_) (L1_), Pc.lib (Φ)] ++ R) _ := h
 have hC_ := Pc.tok_cat ok1_
 have hDl_ := Pc.tok_len ok1_
 rw [hC_]
 refine Sx.calls_fn (vs := [.pointer (some ⟨g, 0, none⟩), .int .i64 (k), .string (s)]) Try.func25 rfl Try.ntmps25 rfl ?_
 refine wc_seq ?_
 refine wc_region ?_
 refine wl_v rfl rfl (ov_assign _ rfl) ?_
 refine wl_nil ?_
 refine qn_then ?_
 refine wc_seq ?_
 refine wc_seq ?_
 refine wc_region ?_
 refine wl_v rfl rfl (ov_move _ rfl) ?_
 refine wl_v rfl rfl (ov_move _ rfl) ?_
 refine wl_call _ rfl rfl rfl ent31 (RD.Check_calls (R := [Sx.blk g [.string (s1_), .slice (A1_) (L1_.length) (c1_), .pointer (Pc.AT.ptr T1_)] 68, Pc.rowl (Φ) 5 (A1_) (c1_) (L1_), Pc.lib (Φ)] ++ R) g s1_ A1_ c1_ L1_ T1_ (k) (by omega) (by omega) hl1_ ok1_.by_ ok1_.wf (by omega) (Pc.en_blk (i := 0) rfl) (Pc.en_rowl (i := 1) (j := 2) rfl rfl (fun W_ z_ => z_)) (Pc.en_at (j := 2) rfl ok1_.at_)  h) ?_
 rintro e_ w_ ⟨rfl, h⟩
 refine ⟨_, rfl, ?_⟩
 have hck_ := RD.inside_le (Pc.cat s1_ L1_ (Pc.AT.fl T1_)) (k)
 refine wl_v rfl rfl (ov_assign _ rfl) ?_
 refine wl_nil ?_
 refine qn_then ?_
 refine wc_seq ?_
 refine wc_region ?_
 refine wl_v rfl rfl (ov_move _ rfl) ?_
 refine wl_v rfl rfl (ov_bin _ rfl rfl (binR_neq)) ?_
 refine wl_nil ?_
 refine qn_then ?_
 refine wc_cond (by rfl) (fun c2 => ?_) (fun c2 => ?_)
 ·
  refine wc_seq ?_
  refine wc_region ?_
  refine wl_v rfl rfl (ov_move _ rfl) ?_
  refine wl_v rfl rfl (ov_assign _ rfl) ?_
  refine wl_nil ?_
  refine qn_then ?_
  refine wc_ret ?_
  refine qn_then_ret ?_
  have ep_ : ED.pins (Pc.cat s1_ L1_ (Pc.AT.fl T1_)) k s = RD.pchk (Pc.cat s1_ L1_ (Pc.AT.fl T1_)) (k) := by
    unfold ED.pins
    first | exact if_pos (by omega) | (rw [if_neg (by omega)]; first | exact if_pos (by omega) | (rw [if_neg (by omega)]; exact if_pos (by omega)))
  have et_ : ED.insT (Pc.cat s1_ L1_ (Pc.AT.fl T1_)) k s = (Pc.cat s1_ L1_ (Pc.AT.fl T1_)) := by unfold ED.insT; exact if_neg (by omega)
  rw [ep_, et_]
  refine qn_ret [_] ⟨rfl, trivial⟩ ?_
  replace h := st_front 2 h
  replace h := st_front 2 h
  replace h := st_front 2 h
  exact ⟨D, d, Φ, rfl, fun _ z_ => z_, ⟨hC_, Nat.le_add_right _ _⟩, Pc.tx_close rfl ok1_ h⟩
 ·
  refine wc_skip ?_
  refine qn_then ?_
  refine wc_seq ?_
  refine wc_seq ?_
  refine wc_region ?_
  refine wl_v rfl rfl (ov_move _ rfl) ?_
  refine wl_call _ rfl rfl rfl ent36 (RN.RCheck_calls (R := [Sx.blk g [.string (s1_), .slice (A1_) (L1_.length) (c1_), .pointer (Pc.AT.ptr T1_)] 68, Pc.rowl (Φ) 5 (A1_) (c1_) (L1_), Pc.lib (Φ)] ++ R) s (by omega) h) ?_
  rintro e_ w_ ⟨rfl, h⟩
  refine ⟨_, rfl, ?_⟩
  refine wl_v rfl rfl (ov_assign _ rfl) ?_
  refine wl_nil ?_
  refine qn_then ?_
  refine wc_seq ?_
  refine wc_region ?_
  refine wl_v rfl rfl (ov_move _ rfl) ?_
  refine wl_v rfl rfl (ov_bin _ rfl rfl (binR_neq)) ?_
  refine wl_nil ?_
  refine qn_then ?_
  refine wc_cond (by rfl) (fun c3 => ?_) (fun c3 => ?_)
  ·
   have hcv_ := TX.check_two s
   refine wc_seq ?_
   refine wc_region ?_
   refine wl_v rfl rfl (ov_move _ rfl) ?_
   refine wl_v rfl rfl (ov_assign _ rfl) ?_
   refine wl_nil ?_
   refine qn_then ?_
   refine wc_ret ?_
   refine qn_then_ret ?_
   have ep_ : ED.pins (Pc.cat s1_ L1_ (Pc.AT.fl T1_)) k s = checkV s := by
     unfold ED.pins
     first | exact if_pos (by omega) | (rw [if_neg (by omega)]; first | exact if_pos (by omega) | (rw [if_neg (by omega)]; exact if_pos (by omega)))
   have et_ : ED.insT (Pc.cat s1_ L1_ (Pc.AT.fl T1_)) k s = (Pc.cat s1_ L1_ (Pc.AT.fl T1_)) := by unfold ED.insT; exact if_neg (by omega)
   rw [ep_, et_]
   refine qn_ret [_] ⟨rfl, trivial⟩ ?_
   replace h := st_front 2 h
   replace h := st_front 2 h
   replace h := st_front 2 h
   exact ⟨D, d, Φ, rfl, fun _ z_ => z_, ⟨hC_, Nat.le_add_right _ _⟩, Pc.tx_close rfl ok1_ h⟩
  ·
   have hcv_ := TX.check_two s
   refine wc_skip ?_
   refine qn_then ?_
   refine wc_seq ?_
   refine wc_seq ?_
   refine wc_region ?_
   refine wl_v rfl rfl (ov_move _ rfl) ?_
   refine wl_v rfl rfl (ov_lens _ rfl Try.underlying9) ?_
   refine wl_v rfl rfl (ov_move _ rfl) ?_
   refine wl_call _ rfl rfl rfl ent16 (RD.Len_calls (R := [Sx.blk g [.string (s1_), .slice (A1_) (L1_.length) (c1_), .pointer (Pc.AT.ptr T1_)] 68, Pc.rowl (Φ) 5 (A1_) (c1_) (L1_), Pc.lib (Φ)] ++ R) g s1_ A1_ c1_ L1_ T1_  (by omega) (by omega) hl1_ ok1_.by_ ok1_.wf (by omega) (Pc.en_blk (i := 0) rfl) (Pc.en_rowl (i := 1) (j := 2) rfl rfl (fun W_ z_ => z_)) (Pc.en_at (j := 2) rfl ok1_.at_)  h) ?_
   rintro e_ w_ ⟨rfl, h⟩
   refine ⟨_, rfl, ?_⟩
   refine wl_v rfl rfl (ov_bin _ rfl rfl (binR_sub (r := 65536 - (Pc.szF (Pc.AT.fl T1_))) (Sx.w64 (by omega)))) ?_
   refine wl_v rfl rfl (ov_bin _ rfl rfl (binR_gtr)) ?_
   refine wl_nil ?_
   refine qn_then ?_
   refine wc_cond (by rfl) (fun c4 => ?_) (fun c4 => ?_)
   ·
    refine wc_seq ?_
    refine wc_region ?_
    refine wl_v rfl rfl (ov_assign _ rfl) ?_
    refine wl_nil ?_
    refine qn_then ?_
    refine wc_ret ?_
    refine qn_then_ret ?_
    have ep_ : ED.pins (Pc.cat s1_ L1_ (Pc.AT.fl T1_)) k s = 31 := by
      unfold ED.pins
      first | exact if_pos (by omega) | (rw [if_neg (by omega)]; first | exact if_pos (by omega) | (rw [if_neg (by omega)]; exact if_pos (by omega)))
    have et_ : ED.insT (Pc.cat s1_ L1_ (Pc.AT.fl T1_)) k s = (Pc.cat s1_ L1_ (Pc.AT.fl T1_)) := by unfold ED.insT; exact if_neg (by omega)
    rw [ep_, et_]
    refine qn_ret [_] ⟨rfl, trivial⟩ ?_
    replace h := st_front 2 h
    replace h := st_front 2 h
    replace h := st_front 2 h
    exact ⟨D, d, Φ, rfl, fun _ z_ => z_, ⟨hC_, Nat.le_add_right _ _⟩, Pc.tx_close rfl ok1_ h⟩
   ·
    refine wc_skip ?_
    refine qn_then ?_
    refine wc_seq ?_
    refine wc_seq ?_
    refine wc_region ?_
    refine wl_v rfl rfl (ov_move _ rfl) ?_
    refine wl_v rfl rfl (ov_bin _ rfl rfl (binR_eqs)) ?_
    refine wl_nil ?_
    refine qn_then ?_
    refine wc_cond (by rfl) (fun c5 => ?_) (fun c5 => ?_)
    ·
     refine wc_seq ?_
     refine wc_region ?_
     refine wl_v rfl rfl (ov_assign _ rfl) ?_
     refine wl_nil ?_
     refine qn_then ?_
     refine wc_ret ?_
     refine qn_then_ret ?_
     have hse_ : s = ByteArray.empty := c5
     obtain ⟨hk0_, hk1_⟩ := ED.chk0 (C := (Pc.cat s1_ L1_ (Pc.AT.fl T1_))) (k := k) (by omega)
     have ep_ : ED.pins (Pc.cat s1_ L1_ (Pc.AT.fl T1_)) k s = 0 := by
       unfold ED.pins
       rw [if_neg (by omega), if_neg (by omega), if_neg (by omega)]
     have et_ : ED.insT (Pc.cat s1_ L1_ (Pc.AT.fl T1_)) k s = (Pc.cat s1_ L1_ (Pc.AT.fl T1_)) := by unfold ED.insT; rw [if_pos ep_, hse_]; exact ED.ins_none hk0_ hk1_
     rw [ep_, et_]
     refine qn_ret [_] ⟨rfl, trivial⟩ ?_
     replace h := st_front 2 h
     replace h := st_front 2 h
     replace h := st_front 2 h
     exact ⟨D, d, Φ, rfl, fun _ z_ => z_, ⟨hC_, Nat.le_add_right _ _⟩, Pc.tx_close rfl ok1_ h⟩
    ·
     have hs1_ : 0 < s.size := by
       rcases Nat.eq_zero_or_pos s.size with z_ | z_
       · exact absurd (Pc.size_zero z_) c5
       · exact z_
     refine wc_skip ?_
     refine qn_then ?_
     refine wc_seq ?_
     refine wc_region ?_
     refine wl_v rfl rfl (ov_move _ rfl) ?_
     refine wl_v rfl rfl (ov_move _ rfl) ?_
     refine wl_v rfl rfl (ov_nilCheck _ rfl) ?_
     refine wl_v rfl rfl (ov_fieldAddr _ ⟨g, 2, none⟩ _ rfl fo68_2 rfl) ?_
     refine wl_v rfl rfl (ov_loadb 0 _ h rfl rfl sh66 rfl) ?_
     refine wl_v rfl rfl (ov_move _ rfl) ?_
     obtain ⟨hk0_, hk1_⟩ := ED.chk0 (C := (Pc.cat s1_ L1_ (Pc.AT.fl T1_))) (k := k) (by omega)
     replace h := st_front 2 h
     refine wl_call _ rfl rfl rfl ent45 (SR.split_calls (R := [Sx.blk g [.string (s1_), .slice (A1_) (L1_.length) (c1_), .pointer (Pc.AT.ptr T1_)] 68, Pc.rowl (Φ) 5 (A1_) (c1_) (L1_)] ++ R) g s1_ A1_ c1_ L1_ (Pc.AT.ptr T1_) (Φ) T1_ (k) (by omega) (by omega) hl1_ (Pc.en_blk (i := 0) rfl) (fun cs_ W_ z_ h_ => Pc.rowl_below (i := 1) rfl cs_ W_ z_ h_) ok1_.at_ ok1_.bal ok1_.wf (by omega) (by omega) (by omega)  h) ?_
     rintro e_ w_ ⟨T6, T7, Φ8, rfl, hsub9, hT10, hT11, ⟨hsb12, hsb13, htw14⟩, h⟩
     refine ⟨_, rfl, ?_⟩
     have hts15 := Pc.two_size htw14
     refine wl_v rfl rfl (ov_move _ rfl) ?_
     refine wl_v rfl rfl (ov_extract [.pointer (Pc.AT.ptr T6), .pointer (Pc.AT.ptr T7)] _ rfl rfl) ?_
     refine wl_v rfl rfl (ov_extract [.pointer (Pc.AT.ptr T6), .pointer (Pc.AT.ptr T7)] _ rfl rfl) ?_
     refine wl_v rfl rfl (ov_assign _ rfl) ?_
     refine wl_v rfl rfl (ov_assign _ rfl) ?_
     refine wl_nil ?_
     refine qn_then ?_
     refine wc_seq ?_
     refine wc_draw (fun w => Sx.St w0 F0 ([Pc.lib (Φ8), Sx.blk g [.string (s1_), .slice (A1_) (L1_.length) (c1_), .pointer (Pc.AT.ptr T1_)] 68, Pc.rowl (Φ) 5 (A1_) (c1_) (L1_)] ++ R) w) (by kernel_rfl) ?_
     replace h := st_drew h
     refine wa_tk 0 rfl rfl rfl (st_selT [true, true, true] h) (fun w_ hS => ov_move _ rfl) ?_
     refine wa_tk 1 rfl rfl rfl (st_selT [true, true, true] h) (fun w_ hS => ov_nilCheck _ rfl) ?_
     refine wa_tk 2 rfl rfl rfl (st_selT [true, true, true] h) (fun w_ hS => ov_fieldAddr _ ⟨g, 1, none⟩ _ rfl fo68_1 rfl) ?_
     refine wa_tk 3 rfl rfl rfl (st_selT [true, true, true] h) (fun w_ hS => ov_loadb 1 _ hS rfl rfl sh41 rfl) ?_
     refine wa_tk 4 rfl rfl rfl (st_selT [true, true, true] h) (fun w_ hS => ov_len _ _ _ _ _ rfl es41) ?_
     refine wa_tk 5 rfl rfl rfl (st_selT [true, true, true] h) (fun w_ hS => ov_move _ rfl) ?_
     refine wa_tk 6 rfl rfl rfl (st_selT [true, true, true] h) (fun w_ hS => ov_lens _ rfl Try.underlying9) ?_
     refine wa_tk 7 rfl rfl rfl (st_selT [true, true, true] h) (fun w_ hS => ov_move _ rfl) ?_
     refine wa_two 8 10 rfl rfl (by kernel_rfl) ?_ ?_
     ·
      refine wl_call _ rfl rfl rfl ent46 (RN.Lines_calls (R := [Pc.lib (Φ8), Sx.blk g [.string (s1_), .slice (A1_) (L1_.length) (c1_), .pointer (Pc.AT.ptr T1_)] 68, Pc.rowl (Φ) 5 (A1_) (c1_) (L1_)] ++ R) s (by omega) h) ?_
      rintro e_ w_ ⟨rfl, h⟩
      refine ⟨_, rfl, ?_⟩
      have hnb16 := Pc.nlB_le s
      refine wl_nil ?_
      refine qn_wa (st_selT [true, true, true] h) ?_
      refine wa_tk 9 rfl rfl rfl (st_selT [true, true, true] h) (fun w_ hS => ov_build [(0, .bool true), (1, .int .i64 (((L1_.length : Nat) : Int))), (2, .int .i64 (((s).size : Int))), (3, .int .i64 (Pc.nlB s))] [.bool true, .int .i64 (((L1_.length : Nat) : Int)), .int .i64 (((s).size : Int)), .int .i64 (Pc.nlB s)] rfl rfl (by kernel_rfl)) ?_
      refine wa_one 10 rfl (by kernel_rfl) ?_
      refine wl_alloc _ h rfl rfl zo77 (fun b17 _ h => ?_)
      replace h : Sx.St _ _ (Sx.blk b17 [.bool false, .int .i64 (0), .int .i64 (0), .int .i64 (0)] 77 :: _) _ := h
      refine wl_nil ?_
      refine qn_wa (st_selT [false, true, true, true] h) ?_
      refine wa_one 11 rfl (by kernel_rfl) ?_
      refine wl_storebN 0 [.bool true, .int .i64 (((L1_.length : Nat) : Int)), .int .i64 (((s).size : Int)), .int .i64 (Pc.nlB s)] [.bool true, .int .i64 (((L1_.length : Nat) : Int)), .int .i64 (((s).size : Int)), .int .i64 (Pc.nlB s)] h rfl rfl rfl rfl (by simp [Value.oneCell']) sh77 rfl rfl (fun _ h => ?_)
      refine wl_nil ?_
      refine qn_wa (st_selT [false, true, true, true] h) ?_
      refine wa_done (by kernel_rfl) ?_
      refine qn_then ?_
      refine wc_seq ?_
      refine wc_region ?_
      refine wl_v rfl rfl (ov_move _ rfl) ?_
      refine wl_v rfl rfl (ov_move _ rfl) ?_
      refine wl_v rfl rfl (ov_nilCheck _ rfl) ?_
      refine wl_v rfl rfl (ov_fieldAddr _ ⟨g, 1, none⟩ _ rfl fo68_1 rfl) ?_
      refine wl_v rfl rfl (ov_loadb 2 _ h rfl rfl sh41 rfl) ?_
      refine wl_v rfl rfl (ov_move _ rfl) ?_
      replace h := st_front 3 h
      replace h := Pc.rowl_weak (Ψ := Φ8) (fun W_ z_ => (hsub9 W_ z_)) h
      refine Pc.wl_appendrowl (s) h (Pc.lib_now h (i := 2) rfl) (by omega) rfl rfl rfl rfl Try.underlying41 Try.underlying9 inf5 (by omega) rfl (fun A18 cp19 _ h => ?_)
      replace h := Pc.row_rowl (Φ := Φ8) h
      refine wl_v rfl rfl (ov_nilCheck _ rfl) ?_
      refine wl_v rfl rfl (ov_fieldAddr _ ⟨g, 1, none⟩ _ rfl fo68_1 rfl) ?_
      refine wl_storeb 3 _ [.string (s1_), .slice (A18) ((L1_ ++ bytesOf s).length) (cp19), .pointer (Pc.AT.ptr T1_)] h rfl rfl rfl rfl rfl rfl sh41 rfl rfl (fun _ h => ?_)
      refine wl_nil ?_
      refine qn_then ?_
      refine wc_seq ?_
      refine wc_seq ?_
      refine wc_region ?_
      refine wl_v rfl rfl (ov_move _ rfl) ?_
      refine wl_v rfl rfl (ov_bin _ rfl rfl (binR_nenil Try.underlying66)) ?_
      refine wl_nil ?_
      refine qn_then ?_
      refine wc_cond (by rfl) (fun c20 => ?_) (fun c20 => ?_)
      ·
       obtain ⟨g21, tl22, tp23, tr24, rfl⟩ := Pc.AT.ptr_some c20
       refine wc_seq ?_
       refine wc_region ?_
       refine wl_v rfl rfl (ov_move _ rfl) ?_
       have hsl_ := Pc.two_size htw14
       replace h := st_front 2 h
       refine wl_call _ rfl rfl rfl ent47 (TL.last_calls (R := [Pc.rowl (Φ8) 5 (A18) (cp19) (L1_ ++ bytesOf s), Sx.blk b17 [.bool true, .int .i64 (((L1_.length : Nat) : Int)), .int .i64 (((s).size : Int)), .int .i64 (Pc.nlB s)] 77, Sx.blk g [.string (s1_), .slice (A18) ((L1_ ++ bytesOf s).length) (cp19), .pointer (Pc.AT.ptr T1_)] 68] ++ R) (Φ8) (Pc.AT.nd g21 tl22 tp23 tr24) hT10 hsb12 (Pc.wf_sm htw14.wa (by omega)) (ED.ht_nd _ _ _ _)  h) ?_
       rintro e_ w_ ⟨T25, q26, Φ27, rfl, hsub28, hT29, ⟨hlf30, hlb31⟩, h⟩
       refine ⟨_, rfl, ?_⟩
       have htw2_ := htw14
       rw [hlf30] at htw2_
       have hwq_ := (Pc.wf_cons.1 (Pc.wf_app.1 htw2_.wa).2).1
       have hq0_ := hwq_.f0
       have hq1_ := hwq_.f1
       have hq2_ := Pc.wf_small (by omega) (by omega) hwq_
       have hq3_ := hwq_.f3
       have hq4_ := Pc.nlB_le (Pc.txP s1_ L1_ q26)
       refine wl_v rfl rfl (ov_move _ rfl) ?_
       refine wl_v rfl rfl (ov_extract [.pointer (Pc.AT.ptr T25), .agg #[.bool ((q26).f0), .int .i64 ((q26).f1), .int .i64 ((q26).f2), .int .i64 ((q26).f3)]] _ rfl rfl) ?_
       refine wl_v rfl rfl (ov_extract [.pointer (Pc.AT.ptr T25), .agg #[.bool ((q26).f0), .int .i64 ((q26).f1), .int .i64 ((q26).f2), .int .i64 ((q26).f3)]] _ rfl rfl) ?_
       refine wl_alloc _ h rfl rfl zo77 (fun b32 _ h => ?_)
       replace h : Sx.St _ _ (Sx.blk b32 [.bool false, .int .i64 (0), .int .i64 (0), .int .i64 (0)] 77 :: _) _ := h
       refine wl_v rfl rfl (ov_assign _ rfl) ?_
       refine wl_storebN 0 [.bool ((q26).f0), .int .i64 ((q26).f1), .int .i64 ((q26).f2), .int .i64 ((q26).f3)] [.bool ((q26).f0), .int .i64 ((q26).f1), .int .i64 ((q26).f2), .int .i64 ((q26).f3)] h rfl rfl rfl rfl (by simp [Value.oneCell']) sh77 rfl rfl (fun _ h => ?_)
       refine wl_nil ?_
       refine qn_then ?_
       refine wc_seq ?_
       refine wc_region ?_
       refine wl_v rfl rfl (ov_fieldAddr _ ⟨b32, 0, none⟩ _ rfl fo77_0 rfl) ?_
       refine wl_v rfl rfl (ov_loadb 0 _ h rfl rfl sh4 rfl) ?_
       refine wl_v rfl rfl (ov_move _ rfl) ?_
       refine wl_splitb 71 rfl (fun c33 => ?_) (fun c33 => ?_)
       ·
        refine wl_v rfl rfl (ov_fieldAddr _ ⟨b32, 1, none⟩ _ rfl fo77_1 rfl) ?_
        refine wl_v rfl rfl (ov_loadb 0 _ h rfl rfl sh3 rfl) ?_
        refine wl_v rfl rfl (ov_fieldAddr _ ⟨b32, 2, none⟩ _ rfl fo77_2 rfl) ?_
        refine wl_v rfl rfl (ov_loadb 0 _ h rfl rfl sh3 rfl) ?_
        refine wl_v rfl rfl (ov_bin _ rfl rfl (binR_add (r := ((q26).f1) + ((q26).f2)) (Sx.w64 (by omega)))) ?_
        refine wl_v rfl rfl (ov_fieldAddr _ ⟨b17, 1, none⟩ _ rfl fo77_1 rfl) ?_
        refine wl_v rfl rfl (ov_loadb 3 _ h rfl rfl sh3 rfl) ?_
        refine wl_v rfl rfl (ov_bin _ rfl rfl (binR_eql)) ?_
        refine wl_v rfl rfl (ov_pick_true _ rfl rfl) ?_
        refine wl_nil ?_
        refine qn_then ?_
        refine wc_cond (by rfl) (fun c34 => ?_) (fun c34 => ?_)
        ·
         refine wc_seq ?_
         refine wc_region ?_
         refine wl_v rfl rfl (ov_fieldAddr _ ⟨b32, 2, none⟩ _ rfl fo77_2 rfl) ?_
         refine wl_v rfl rfl (ov_loadb 0 _ h rfl rfl sh3 rfl) ?_
         refine wl_v rfl rfl (ov_fieldAddr _ ⟨b17, 2, none⟩ _ rfl fo77_2 rfl) ?_
         refine wl_v rfl rfl (ov_loadb 3 _ h rfl rfl sh3 rfl) ?_
         refine wl_v rfl rfl (ov_bin _ rfl rfl (binR_add (r := ((q26).f2) + (((s).size : Int))) (Sx.w64 (by omega)))) ?_
         refine wl_v rfl rfl (ov_fieldAddr _ ⟨b32, 2, none⟩ _ rfl fo77_2 rfl) ?_
         refine wl_storeb 0 _ [.bool ((q26).f0), .int .i64 ((q26).f1), .int .i64 (((q26).f2) + (((s).size : Int))), .int .i64 ((q26).f3)] h rfl rfl rfl rfl rfl rfl sh3 rfl rfl (fun _ h => ?_)
         refine wl_nil ?_
         refine qn_then ?_
         refine wc_seq ?_
         refine wc_region ?_
         refine wl_v rfl rfl (ov_fieldAddr _ ⟨b32, 3, none⟩ _ rfl fo77_3 rfl) ?_
         refine wl_v rfl rfl (ov_loadb 0 _ h rfl rfl sh3 rfl) ?_
         refine wl_v rfl rfl (ov_fieldAddr _ ⟨b17, 3, none⟩ _ rfl fo77_3 rfl) ?_
         refine wl_v rfl rfl (ov_loadb 3 _ h rfl rfl sh3 rfl) ?_
         refine wl_v rfl rfl (ov_bin _ rfl rfl (binR_add (r := ((q26).f3) + (Pc.nlB s)) (Sx.w64 (by omega)))) ?_
         refine wl_v rfl rfl (ov_fieldAddr _ ⟨b32, 3, none⟩ _ rfl fo77_3 rfl) ?_
         refine wl_storeb 0 _ [.bool ((q26).f0), .int .i64 ((q26).f1), .int .i64 (((q26).f2) + (((s).size : Int))), .int .i64 (((q26).f3) + (Pc.nlB s))] h rfl rfl rfl rfl rfl rfl sh3 rfl rfl (fun _ h => ?_)
         refine wl_nil ?_
         refine qn_then ?_
         refine wc_draw (fun w => Sx.St w0 F0 ([Sx.blk b32 [.bool ((q26).f0), .int .i64 ((q26).f1), .int .i64 (((q26).f2) + (((s).size : Int))), .int .i64 (((q26).f3) + (Pc.nlB s))] 77, Pc.lib (Φ27), Pc.rowl (Φ8) 5 (A18) (cp19) (L1_ ++ bytesOf s), Sx.blk g [.string (s1_), .slice (A18) ((L1_ ++ bytesOf s).length) (cp19), .pointer (Pc.AT.ptr T1_)] 68] ++ R) w) (by kernel_rfl) ?_
         replace h := st_drew h
         refine wa_tk 0 rfl rfl rfl (st_selT [true, true, true, false, true] h) (fun w_ hS => ov_move _ rfl) ?_
         refine wa_tk 1 rfl rfl rfl (st_selT [true, true, true, false, true] h) (fun w_ hS => ov_loadbN 0 [.bool ((q26).f0), .int .i64 ((q26).f1), .int .i64 (((q26).f2) + (((s).size : Int))), .int .i64 (((q26).f3) + (Pc.nlB s))] hS rfl rfl sh77 rfl) ?_
         refine wa_tk 2 rfl rfl rfl (st_selT [true, true, true, false, true] h) (fun w_ hS => ov_assign _ rfl) ?_
         refine wa_one 3 rfl (by kernel_rfl) ?_
         refine wl_storebN 3 [.bool ((q26).f0), .int .i64 ((q26).f1), .int .i64 (((q26).f2) + (((s).size : Int))), .int .i64 (((q26).f3) + (Pc.nlB s))] [.bool ((q26).f0), .int .i64 ((q26).f1), .int .i64 (((q26).f2) + (((s).size : Int))), .int .i64 (((q26).f3) + (Pc.nlB s))] h rfl rfl rfl rfl (by simp [Value.oneCell']) sh77 rfl rfl (fun _ h => ?_)
         refine wl_nil ?_
         refine qn_wa (st_selT [true, true, true, false, true] h) ?_
         refine wa_done (by kernel_rfl) ?_
         refine qn_then ?_
         refine wc_seq ?_
         refine wc_region ?_
         refine wl_v rfl rfl (ov_move _ rfl) ?_
         refine wl_v rfl rfl (ov_move _ rfl) ?_
         refine wl_v rfl rfl (ov_loadbN 3 [.bool ((q26).f0), .int .i64 ((q26).f1), .int .i64 (((q26).f2) + (((s).size : Int))), .int .i64 (((q26).f3) + (Pc.nlB s))] h rfl rfl sh77 rfl) ?_
         refine wl_v rfl rfl (ov_move _ rfl) ?_
         have hins_ := ED.ins_size (C := (Pc.cat s1_ L1_ (Pc.AT.fl T1_))) (s := s) hk0_ hk1_
         have hput_ := Pc.more_ok hs1_ htw2_ c33 (by omega)
         replace h := st_front 1 h
         refine wl_call _ rfl rfl rfl ent48 (TJ.join_calls (R := [Sx.blk b32 [.bool ((q26).f0), .int .i64 ((q26).f1), .int .i64 (((q26).f2) + (((s).size : Int))), .int .i64 (((q26).f3) + (Pc.nlB s))] 77, Pc.rowl (Φ8) 5 (A18) (cp19) (L1_ ++ bytesOf s), Sx.blk b17 [.bool ((q26).f0), .int .i64 ((q26).f1), .int .i64 (((q26).f2) + (((s).size : Int))), .int .i64 (((q26).f3) + (Pc.nlB s))] 77, Sx.blk g [.string (s1_), .slice (A18) ((L1_ ++ bytesOf s).length) (cp19), .pointer (Pc.AT.ptr T1_)] 68] ++ R) (Φ27) T25 (⟨((q26).f0), (q26).f1, ((q26).f2) + (((s).size : Int)), ((q26).f3) + (Pc.nlB s)⟩ : S77) T7 hT29 (fun W_ z_ => hT11 W_ (hsub28 W_ z_)) hlb31 hsb13 (Pc.wf_sm hput_.1 (by rw [hput_.2.1, hins_]; omega)) h) ?_
         rintro e_ w_ ⟨T35, Φ36, rfl, hsub37, hT38, ⟨hjf39, hjb40⟩, h⟩
         refine ⟨_, rfl, ?_⟩
         refine wl_v rfl rfl (ov_nilCheck _ rfl) ?_
         refine wl_v rfl rfl (ov_fieldAddr _ ⟨g, 2, none⟩ _ rfl fo68_2 rfl) ?_
         refine wl_storeb 4 _ [.string (s1_), .slice (A18) ((L1_ ++ bytesOf s).length) (cp19), .pointer (Pc.AT.ptr T35)] h rfl rfl rfl rfl rfl rfl sh66 rfl rfl (fun _ h => ?_)
         refine wl_nil ?_
         refine qn_then ?_
         refine wc_seq ?_
         refine wc_region ?_
         refine wl_v rfl rfl (ov_move _ rfl) ?_
         replace h := st_front 2 h
         replace h := Pc.rowl_weak (Ψ := Φ36) (fun W_ z_ => (hsub28 W_ (hsub37 W_ z_))) h
         replace h := st_front 1 h
         replace h := st_front 1 h
         replace h := st_front 4 h
         replace h : Sx.St w0 F0 ([Sx.blk g [.string (s1_), .slice (A18) ((L1_ ++ bytesOf s).length) (cp19), .pointer (Pc.AT.ptr T35)] 68, Pc.rowl (Φ36) 5 (A18) (cp19) (L1_ ++ bytesOf s), Pc.lib (Φ36), Sx.blk b32 [.bool ((q26).f0), .int .i64 ((q26).f1), .int .i64 (((q26).f2) + (((s).size : Int))), .int .i64 (((q26).f3) + (Pc.nlB s))] 77, Sx.blk b17 [.bool ((q26).f0), .int .i64 ((q26).f1), .int .i64 (((q26).f2) + (((s).size : Int))), .int .i64 (((q26).f3) + (Pc.nlB s))] 77] ++ R) _ := h
         refine wl_call _ rfl rfl rfl ent49 (TX.tidy_calls (R := [Sx.blk b32 [.bool ((q26).f0), .int .i64 ((q26).f1), .int .i64 (((q26).f2) + (((s).size : Int))), .int .i64 (((q26).f3) + (Pc.nlB s))] 77, Sx.blk b17 [.bool ((q26).f0), .int .i64 ((q26).f1), .int .i64 (((q26).f2) + (((s).size : Int))), .int .i64 (((q26).f3) + (Pc.nlB s))] 77] ++ R) g (s1_) (A18) (cp19) (L1_ ++ bytesOf s) (T35) (Φ36) (Pc.rowl_get h (i := 1) rfl).1 hT38 hjb40 (by rw [hjf39]; exact hput_.1) (Pc.bytes_app ok1_.by_ (Pc.bytes_of s)) (by omega) (by simp only [List.length_append, bytesOf_length]; omega) (by rw [hjf39, hput_.2.1, hins_]; omega) h) ?_
         rintro e_ w_ ⟨D41, d42, Φ43, rfl, hsub44, hD45, hDl46, h⟩
         refine ⟨_, rfl, ?_⟩
         refine wl_nil ?_
         refine qn_then ?_
         refine wc_seq ?_
         refine wc_region ?_
         refine wl_v rfl rfl (ov_assign _ rfl) ?_
         refine wl_nil ?_
         refine qn_then ?_
         refine wc_ret ?_
         refine qn_ret [_] ⟨rfl, trivial⟩ ?_
         replace h := st_front 1 h
         replace h := st_front 1 h
         replace h := st_selT [true, true, false, false] h
         have ep_ : ED.pins (Pc.cat s1_ L1_ (Pc.AT.fl T1_)) k s = 0 := by
           unfold ED.pins
           rw [if_neg (by omega), if_neg (by omega), if_neg (by omega)]
         rw [ep_]
         exact ⟨D41, d42, Φ43, rfl, fun W_ z_ => (hsub9 W_ (hsub28 W_ (hsub37 W_ (hsub44 W_ z_)))), ⟨by unfold ED.insT; rw [if_pos ep_, hD45, hjf39, hput_.2.1], by rw [hjf39] at hDl46; have := hput_.2.2; omega⟩, h⟩
        ·
         refine wc_skip ?_
         refine qn_then ?_
         refine wc_seq ?_
         refine wc_region ?_
         refine wl_v rfl rfl (ov_move _ rfl) ?_
         refine wl_v rfl rfl (ov_move _ rfl) ?_
         refine wl_v rfl rfl (ov_loadbN 3 [.bool true, .int .i64 (((L1_.length : Nat) : Int)), .int .i64 (((s).size : Int)), .int .i64 (Pc.nlB s)] h rfl rfl sh77 rfl) ?_
         refine wl_v rfl rfl (ov_move _ rfl) ?_
         have hins_ := ED.ins_size (C := (Pc.cat s1_ L1_ (Pc.AT.fl T1_))) (s := s) hk0_ hk1_
         have hput_ := Pc.put_ok hs1_ htw14
         replace h := st_front 1 h
         refine wl_call _ rfl rfl rfl ent48 (TJ.join_calls (R := [Sx.blk b32 [.bool ((q26).f0), .int .i64 ((q26).f1), .int .i64 ((q26).f2), .int .i64 ((q26).f3)] 77, Pc.rowl (Φ8) 5 (A18) (cp19) (L1_ ++ bytesOf s), Sx.blk b17 [.bool true, .int .i64 (((L1_.length : Nat) : Int)), .int .i64 (((s).size : Int)), .int .i64 (Pc.nlB s)] 77, Sx.blk g [.string (s1_), .slice (A18) ((L1_ ++ bytesOf s).length) (cp19), .pointer (Pc.AT.ptr T1_)] 68] ++ R) (Φ27) (Pc.AT.nd g21 tl22 tp23 tr24) (⟨true, ((L1_.length : Nat) : Int), ((s).size : Int), Pc.nlB s⟩ : S77) T7 (fun W_ z_ => hT10 W_ (hsub28 W_ z_)) (fun W_ z_ => hT11 W_ (hsub28 W_ z_)) hsb12 hsb13 (Pc.wf_sm hput_.1 (by rw [hput_.2.1, hins_]; omega)) h) ?_
         rintro e_ w_ ⟨T47, Φ48, rfl, hsub49, hT50, ⟨hjf51, hjb52⟩, h⟩
         refine ⟨_, rfl, ?_⟩
         refine wl_v rfl rfl (ov_nilCheck _ rfl) ?_
         refine wl_v rfl rfl (ov_fieldAddr _ ⟨g, 2, none⟩ _ rfl fo68_2 rfl) ?_
         refine wl_storeb 4 _ [.string (s1_), .slice (A18) ((L1_ ++ bytesOf s).length) (cp19), .pointer (Pc.AT.ptr T47)] h rfl rfl rfl rfl rfl rfl sh66 rfl rfl (fun _ h => ?_)
         refine wl_nil ?_
         refine qn_then ?_
         refine wc_seq ?_
         refine wc_region ?_
         refine wl_v rfl rfl (ov_move _ rfl) ?_
         replace h := st_front 2 h
         replace h := Pc.rowl_weak (Ψ := Φ48) (fun W_ z_ => (hsub28 W_ (hsub49 W_ z_))) h
         replace h := st_front 1 h
         replace h := st_front 1 h
         replace h := st_front 4 h
         replace h : Sx.St w0 F0 ([Sx.blk g [.string (s1_), .slice (A18) ((L1_ ++ bytesOf s).length) (cp19), .pointer (Pc.AT.ptr T47)] 68, Pc.rowl (Φ48) 5 (A18) (cp19) (L1_ ++ bytesOf s), Pc.lib (Φ48), Sx.blk b32 [.bool ((q26).f0), .int .i64 ((q26).f1), .int .i64 ((q26).f2), .int .i64 ((q26).f3)] 77, Sx.blk b17 [.bool true, .int .i64 (((L1_.length : Nat) : Int)), .int .i64 (((s).size : Int)), .int .i64 (Pc.nlB s)] 77] ++ R) _ := h
         refine wl_call _ rfl rfl rfl ent49 (TX.tidy_calls (R := [Sx.blk b32 [.bool ((q26).f0), .int .i64 ((q26).f1), .int .i64 ((q26).f2), .int .i64 ((q26).f3)] 77, Sx.blk b17 [.bool true, .int .i64 (((L1_.length : Nat) : Int)), .int .i64 (((s).size : Int)), .int .i64 (Pc.nlB s)] 77] ++ R) g (s1_) (A18) (cp19) (L1_ ++ bytesOf s) (T47) (Φ48) (Pc.rowl_get h (i := 1) rfl).1 hT50 hjb52 (by rw [hjf51]; exact hput_.1) (Pc.bytes_app ok1_.by_ (Pc.bytes_of s)) (by omega) (by simp only [List.length_append, bytesOf_length]; omega) (by rw [hjf51, hput_.2.1, hins_]; omega) h) ?_
         rintro e_ w_ ⟨D53, d54, Φ55, rfl, hsub56, hD57, hDl58, h⟩
         refine ⟨_, rfl, ?_⟩
         refine wl_nil ?_
         refine qn_then ?_
         refine wc_seq ?_
         refine wc_region ?_
         refine wl_v rfl rfl (ov_assign _ rfl) ?_
         refine wl_nil ?_
         refine qn_then ?_
         refine wc_ret ?_
         refine qn_ret [_] ⟨rfl, trivial⟩ ?_
         replace h := st_front 1 h
         replace h := st_front 1 h
         replace h := st_selT [true, true, false, false] h
         have ep_ : ED.pins (Pc.cat s1_ L1_ (Pc.AT.fl T1_)) k s = 0 := by
           unfold ED.pins
           rw [if_neg (by omega), if_neg (by omega), if_neg (by omega)]
         rw [ep_]
         exact ⟨D53, d54, Φ55, rfl, fun W_ z_ => (hsub9 W_ (hsub28 W_ (hsub49 W_ (hsub56 W_ z_)))), ⟨by unfold ED.insT; rw [if_pos ep_, hD57, hjf51, hput_.2.1], by rw [hjf51] at hDl58; have := hput_.2.2; omega⟩, h⟩
       ·
        refine wl_skip rfl rfl ?_
        refine wl_skip rfl rfl ?_
        refine wl_skip rfl rfl ?_
        refine wl_skip rfl rfl ?_
        refine wl_skip rfl rfl ?_
        refine wl_skip rfl rfl ?_
        refine wl_skip rfl rfl ?_
        refine wl_skip rfl rfl ?_
        refine wl_v rfl rfl (ov_pick_false _ rfl rfl) ?_
        refine wl_nil ?_
        refine qn_then ?_
        refine wc_cond_false rfl ?_
        refine wc_skip ?_
        refine qn_then ?_
        refine wc_seq ?_
        refine wc_region ?_
        refine wl_v rfl rfl (ov_move _ rfl) ?_
        refine wl_v rfl rfl (ov_move _ rfl) ?_
        refine wl_v rfl rfl (ov_loadbN 3 [.bool true, .int .i64 (((L1_.length : Nat) : Int)), .int .i64 (((s).size : Int)), .int .i64 (Pc.nlB s)] h rfl rfl sh77 rfl) ?_
        refine wl_v rfl rfl (ov_move _ rfl) ?_
        have hins_ := ED.ins_size (C := (Pc.cat s1_ L1_ (Pc.AT.fl T1_))) (s := s) hk0_ hk1_
        have hput_ := Pc.put_ok hs1_ htw14
        replace h := st_front 1 h
        refine wl_call _ rfl rfl rfl ent48 (TJ.join_calls (R := [Sx.blk b32 [.bool ((q26).f0), .int .i64 ((q26).f1), .int .i64 ((q26).f2), .int .i64 ((q26).f3)] 77, Pc.rowl (Φ8) 5 (A18) (cp19) (L1_ ++ bytesOf s), Sx.blk b17 [.bool true, .int .i64 (((L1_.length : Nat) : Int)), .int .i64 (((s).size : Int)), .int .i64 (Pc.nlB s)] 77, Sx.blk g [.string (s1_), .slice (A18) ((L1_ ++ bytesOf s).length) (cp19), .pointer (Pc.AT.ptr T1_)] 68] ++ R) (Φ27) (Pc.AT.nd g21 tl22 tp23 tr24) (⟨true, ((L1_.length : Nat) : Int), ((s).size : Int), Pc.nlB s⟩ : S77) T7 (fun W_ z_ => hT10 W_ (hsub28 W_ z_)) (fun W_ z_ => hT11 W_ (hsub28 W_ z_)) hsb12 hsb13 (Pc.wf_sm hput_.1 (by rw [hput_.2.1, hins_]; omega)) h) ?_
        rintro e_ w_ ⟨T59, Φ60, rfl, hsub61, hT62, ⟨hjf63, hjb64⟩, h⟩
        refine ⟨_, rfl, ?_⟩
        refine wl_v rfl rfl (ov_nilCheck _ rfl) ?_
        refine wl_v rfl rfl (ov_fieldAddr _ ⟨g, 2, none⟩ _ rfl fo68_2 rfl) ?_
        refine wl_storeb 4 _ [.string (s1_), .slice (A18) ((L1_ ++ bytesOf s).length) (cp19), .pointer (Pc.AT.ptr T59)] h rfl rfl rfl rfl rfl rfl sh66 rfl rfl (fun _ h => ?_)
        refine wl_nil ?_
        refine qn_then ?_
        refine wc_seq ?_
        refine wc_region ?_
        refine wl_v rfl rfl (ov_move _ rfl) ?_
        replace h := st_front 2 h
        replace h := Pc.rowl_weak (Ψ := Φ60) (fun W_ z_ => (hsub28 W_ (hsub61 W_ z_))) h
        replace h := st_front 1 h
        replace h := st_front 1 h
        replace h := st_front 4 h
        replace h : Sx.St w0 F0 ([Sx.blk g [.string (s1_), .slice (A18) ((L1_ ++ bytesOf s).length) (cp19), .pointer (Pc.AT.ptr T59)] 68, Pc.rowl (Φ60) 5 (A18) (cp19) (L1_ ++ bytesOf s), Pc.lib (Φ60), Sx.blk b32 [.bool ((q26).f0), .int .i64 ((q26).f1), .int .i64 ((q26).f2), .int .i64 ((q26).f3)] 77, Sx.blk b17 [.bool true, .int .i64 (((L1_.length : Nat) : Int)), .int .i64 (((s).size : Int)), .int .i64 (Pc.nlB s)] 77] ++ R) _ := h
        refine wl_call _ rfl rfl rfl ent49 (TX.tidy_calls (R := [Sx.blk b32 [.bool ((q26).f0), .int .i64 ((q26).f1), .int .i64 ((q26).f2), .int .i64 ((q26).f3)] 77, Sx.blk b17 [.bool true, .int .i64 (((L1_.length : Nat) : Int)), .int .i64 (((s).size : Int)), .int .i64 (Pc.nlB s)] 77] ++ R) g (s1_) (A18) (cp19) (L1_ ++ bytesOf s) (T59) (Φ60) (Pc.rowl_get h (i := 1) rfl).1 hT62 hjb64 (by rw [hjf63]; exact hput_.1) (Pc.bytes_app ok1_.by_ (Pc.bytes_of s)) (by omega) (by simp only [List.length_append, bytesOf_length]; omega) (by rw [hjf63, hput_.2.1, hins_]; omega) h) ?_
        rintro e_ w_ ⟨D65, d66, Φ67, rfl, hsub68, hD69, hDl70, h⟩
        refine ⟨_, rfl, ?_⟩
        refine wl_nil ?_
        refine qn_then ?_
        refine wc_seq ?_
        refine wc_region ?_
        refine wl_v rfl rfl (ov_assign _ rfl) ?_
        refine wl_nil ?_
        refine qn_then ?_
        refine wc_ret ?_
        refine qn_ret [_] ⟨rfl, trivial⟩ ?_
        replace h := st_front 1 h
        replace h := st_front 1 h
        replace h := st_selT [true, true, false, false] h
        have ep_ : ED.pins (Pc.cat s1_ L1_ (Pc.AT.fl T1_)) k s = 0 := by
          unfold ED.pins
          rw [if_neg (by omega), if_neg (by omega), if_neg (by omega)]
        rw [ep_]
        exact ⟨D65, d66, Φ67, rfl, fun W_ z_ => (hsub9 W_ (hsub28 W_ (hsub61 W_ (hsub68 W_ z_)))), ⟨by unfold ED.insT; rw [if_pos ep_, hD69, hjf63, hput_.2.1], by rw [hjf63] at hDl70; have := hput_.2.2; omega⟩, h⟩
      ·
       obtain rfl := Pc.AT.ptr_none (Classical.not_not.1 c20)
       refine wc_skip ?_
       refine qn_then ?_
       refine wc_seq ?_
       refine wc_region ?_
       refine wl_v rfl rfl (ov_move _ rfl) ?_
       refine wl_v rfl rfl (ov_move _ rfl) ?_
       refine wl_v rfl rfl (ov_loadbN 1 [.bool true, .int .i64 (((L1_.length : Nat) : Int)), .int .i64 (((s).size : Int)), .int .i64 (Pc.nlB s)] h rfl rfl sh77 rfl) ?_
       refine wl_v rfl rfl (ov_move _ rfl) ?_
       have hins_ := ED.ins_size (C := (Pc.cat s1_ L1_ (Pc.AT.fl T1_))) (s := s) hk0_ hk1_
       have hput_ := Pc.put_ok hs1_ htw14
       replace h := st_front 2 h
       refine wl_call _ rfl rfl rfl ent48 (TJ.join_calls (R := [Pc.rowl (Φ8) 5 (A18) (cp19) (L1_ ++ bytesOf s), Sx.blk b17 [.bool true, .int .i64 (((L1_.length : Nat) : Int)), .int .i64 (((s).size : Int)), .int .i64 (Pc.nlB s)] 77, Sx.blk g [.string (s1_), .slice (A18) ((L1_ ++ bytesOf s).length) (cp19), .pointer (Pc.AT.ptr T1_)] 68] ++ R) (Φ8) Pc.AT.nil (⟨true, ((L1_.length : Nat) : Int), ((s).size : Int), Pc.nlB s⟩ : S77) T7 (fun W_ z_ => (fun _ _ => trivial) W_ (hsub9 W_ z_)) hT11 trivial hsb13 (Pc.wf_sm hput_.1 (by rw [hput_.2.1, hins_]; omega)) h) ?_
       rintro e_ w_ ⟨T71, Φ72, rfl, hsub73, hT74, ⟨hjf75, hjb76⟩, h⟩
       refine ⟨_, rfl, ?_⟩
       refine wl_v rfl rfl (ov_nilCheck _ rfl) ?_
       refine wl_v rfl rfl (ov_fieldAddr _ ⟨g, 2, none⟩ _ rfl fo68_2 rfl) ?_
       refine wl_storeb 3 _ [.string (s1_), .slice (A18) ((L1_ ++ bytesOf s).length) (cp19), .pointer (Pc.AT.ptr T71)] h rfl rfl rfl rfl rfl rfl sh66 rfl rfl (fun _ h => ?_)
       refine wl_nil ?_
       refine qn_then ?_
       refine wc_seq ?_
       refine wc_region ?_
       refine wl_v rfl rfl (ov_move _ rfl) ?_
       replace h := st_front 1 h
       replace h := Pc.rowl_weak (Ψ := Φ72) (fun W_ z_ => (hsub73 W_ z_)) h
       replace h := st_front 1 h
       replace h := st_front 1 h
       replace h := st_front 3 h
       replace h : Sx.St w0 F0 ([Sx.blk g [.string (s1_), .slice (A18) ((L1_ ++ bytesOf s).length) (cp19), .pointer (Pc.AT.ptr T71)] 68, Pc.rowl (Φ72) 5 (A18) (cp19) (L1_ ++ bytesOf s), Pc.lib (Φ72), Sx.blk b17 [.bool true, .int .i64 (((L1_.length : Nat) : Int)), .int .i64 (((s).size : Int)), .int .i64 (Pc.nlB s)] 77] ++ R) _ := h
       refine wl_call _ rfl rfl rfl ent49 (TX.tidy_calls (R := [Sx.blk b17 [.bool true, .int .i64 (((L1_.length : Nat) : Int)), .int .i64 (((s).size : Int)), .int .i64 (Pc.nlB s)] 77] ++ R) g (s1_) (A18) (cp19) (L1_ ++ bytesOf s) (T71) (Φ72) (Pc.rowl_get h (i := 1) rfl).1 hT74 hjb76 (by rw [hjf75]; exact hput_.1) (Pc.bytes_app ok1_.by_ (Pc.bytes_of s)) (by omega) (by simp only [List.length_append, bytesOf_length]; omega) (by rw [hjf75, hput_.2.1, hins_]; omega) h) ?_
       rintro e_ w_ ⟨D77, d78, Φ79, rfl, hsub80, hD81, hDl82, h⟩
       refine ⟨_, rfl, ?_⟩
       refine wl_nil ?_
       refine qn_then ?_
       refine wc_seq ?_
       refine wc_region ?_
       refine wl_v rfl rfl (ov_assign _ rfl) ?_
       refine wl_nil ?_
       refine qn_then ?_
       refine wc_ret ?_
       refine qn_ret [_] ⟨rfl, trivial⟩ ?_
       replace h := st_front 1 h
       replace h := st_front 1 h
       replace h := st_selT [true, true, false] h
       have ep_ : ED.pins (Pc.cat s1_ L1_ (Pc.AT.fl T1_)) k s = 0 := by
         unfold ED.pins
         rw [if_neg (by omega), if_neg (by omega), if_neg (by omega)]
       rw [ep_]
       exact ⟨D77, d78, Φ79, rfl, fun W_ z_ => (hsub9 W_ (hsub73 W_ (hsub80 W_ z_))), ⟨by unfold ED.insT; rw [if_pos ep_, hD81, hjf75, hput_.2.1], by rw [hjf75] at hDl82; have := hput_.2.2; omega⟩, h⟩
     ·
      refine wl_alloc _ h rfl rfl zo77 (fun b83 _ h => ?_)
      replace h : Sx.St _ _ (Sx.blk b83 [.bool false, .int .i64 (0), .int .i64 (0), .int .i64 (0)] 77 :: _) _ := h
      refine wl_nil ?_
      refine qn_wa (st_selT [false, true, true, true] h) ?_
      refine wa_one 8 rfl (by kernel_rfl) ?_
      refine wl_call _ rfl rfl rfl ent46 (RN.Lines_calls (R := [Sx.blk b83 [.bool false, .int .i64 (0), .int .i64 (0), .int .i64 (0)] 77, Pc.lib (Φ8), Sx.blk g [.string (s1_), .slice (A1_) (L1_.length) (c1_), .pointer (Pc.AT.ptr T1_)] 68, Pc.rowl (Φ) 5 (A1_) (c1_) (L1_)] ++ R) s (by omega) h) ?_
      rintro e_ w_ ⟨rfl, h⟩
      refine ⟨_, rfl, ?_⟩
      have hnb84 := Pc.nlB_le s
      refine wl_nil ?_
      refine qn_wa (st_selT [false, true, true, true] h) ?_
      refine wa_tk 9 rfl rfl rfl (st_selT [false, true, true, true] h) (fun w_ hS => ov_build [(0, .bool true), (1, .int .i64 (((L1_.length : Nat) : Int))), (2, .int .i64 (((s).size : Int))), (3, .int .i64 (Pc.nlB s))] [.bool true, .int .i64 (((L1_.length : Nat) : Int)), .int .i64 (((s).size : Int)), .int .i64 (Pc.nlB s)] rfl rfl (by kernel_rfl)) ?_
      refine wa_one 11 rfl (by kernel_rfl) ?_
      refine wl_storebN 0 [.bool true, .int .i64 (((L1_.length : Nat) : Int)), .int .i64 (((s).size : Int)), .int .i64 (Pc.nlB s)] [.bool true, .int .i64 (((L1_.length : Nat) : Int)), .int .i64 (((s).size : Int)), .int .i64 (Pc.nlB s)] h rfl rfl rfl rfl (by simp [Value.oneCell']) sh77 rfl rfl (fun _ h => ?_)
      refine wl_nil ?_
      refine qn_wa (st_selT [false, true, true, true] h) ?_
      refine wa_done (by kernel_rfl) ?_
      refine qn_then ?_
      refine wc_seq ?_
      refine wc_region ?_
      refine wl_v rfl rfl (ov_move _ rfl) ?_
      refine wl_v rfl rfl (ov_move _ rfl) ?_
      refine wl_v rfl rfl (ov_nilCheck _ rfl) ?_
      refine wl_v rfl rfl (ov_fieldAddr _ ⟨g, 1, none⟩ _ rfl fo68_1 rfl) ?_
      refine wl_v rfl rfl (ov_loadb 2 _ h rfl rfl sh41 rfl) ?_
      refine wl_v rfl rfl (ov_move _ rfl) ?_
      replace h := st_front 3 h
      replace h := Pc.rowl_weak (Ψ := Φ8) (fun W_ z_ => (hsub9 W_ z_)) h
      refine Pc.wl_appendrowl (s) h (Pc.lib_now h (i := 2) rfl) (by omega) rfl rfl rfl rfl Try.underlying41 Try.underlying9 inf5 (by omega) rfl (fun A85 cp86 _ h => ?_)
      replace h := Pc.row_rowl (Φ := Φ8) h
      refine wl_v rfl rfl (ov_nilCheck _ rfl) ?_
      refine wl_v rfl rfl (ov_fieldAddr _ ⟨g, 1, none⟩ _ rfl fo68_1 rfl) ?_
      refine wl_storeb 3 _ [.string (s1_), .slice (A85) ((L1_ ++ bytesOf s).length) (cp86), .pointer (Pc.AT.ptr T1_)] h rfl rfl rfl rfl rfl rfl sh41 rfl rfl (fun _ h => ?_)
      refine wl_nil ?_
      refine qn_then ?_
      refine wc_seq ?_
      refine wc_seq ?_
      refine wc_region ?_
      refine wl_v rfl rfl (ov_move _ rfl) ?_
      refine wl_v rfl rfl (ov_bin _ rfl rfl (binR_nenil Try.underlying66)) ?_
      refine wl_nil ?_
      refine qn_then ?_
      refine wc_cond (by rfl) (fun c87 => ?_) (fun c87 => ?_)
      ·
       obtain ⟨g88, tl89, tp90, tr91, rfl⟩ := Pc.AT.ptr_some c87
       refine wc_seq ?_
       refine wc_region ?_
       refine wl_v rfl rfl (ov_move _ rfl) ?_
       have hsl_ := Pc.two_size htw14
       replace h := st_front 2 h
       refine wl_call _ rfl rfl rfl ent47 (TL.last_calls (R := [Pc.rowl (Φ8) 5 (A85) (cp86) (L1_ ++ bytesOf s), Sx.blk b83 [.bool true, .int .i64 (((L1_.length : Nat) : Int)), .int .i64 (((s).size : Int)), .int .i64 (Pc.nlB s)] 77, Sx.blk g [.string (s1_), .slice (A85) ((L1_ ++ bytesOf s).length) (cp86), .pointer (Pc.AT.ptr T1_)] 68] ++ R) (Φ8) (Pc.AT.nd g88 tl89 tp90 tr91) hT10 hsb12 (Pc.wf_sm htw14.wa (by omega)) (ED.ht_nd _ _ _ _)  h) ?_
       rintro e_ w_ ⟨T92, q93, Φ94, rfl, hsub95, hT96, ⟨hlf97, hlb98⟩, h⟩
       refine ⟨_, rfl, ?_⟩
       have htw2_ := htw14
       rw [hlf97] at htw2_
       have hwq_ := (Pc.wf_cons.1 (Pc.wf_app.1 htw2_.wa).2).1
       have hq0_ := hwq_.f0
       have hq1_ := hwq_.f1
       have hq2_ := Pc.wf_small (by omega) (by omega) hwq_
       have hq3_ := hwq_.f3
       have hq4_ := Pc.nlB_le (Pc.txP s1_ L1_ q93)
       refine wl_v rfl rfl (ov_move _ rfl) ?_
       refine wl_v rfl rfl (ov_extract [.pointer (Pc.AT.ptr T92), .agg #[.bool ((q93).f0), .int .i64 ((q93).f1), .int .i64 ((q93).f2), .int .i64 ((q93).f3)]] _ rfl rfl) ?_
       refine wl_v rfl rfl (ov_extract [.pointer (Pc.AT.ptr T92), .agg #[.bool ((q93).f0), .int .i64 ((q93).f1), .int .i64 ((q93).f2), .int .i64 ((q93).f3)]] _ rfl rfl) ?_
       refine wl_alloc _ h rfl rfl zo77 (fun b99 _ h => ?_)
       replace h : Sx.St _ _ (Sx.blk b99 [.bool false, .int .i64 (0), .int .i64 (0), .int .i64 (0)] 77 :: _) _ := h
       refine wl_v rfl rfl (ov_assign _ rfl) ?_
       refine wl_storebN 0 [.bool ((q93).f0), .int .i64 ((q93).f1), .int .i64 ((q93).f2), .int .i64 ((q93).f3)] [.bool ((q93).f0), .int .i64 ((q93).f1), .int .i64 ((q93).f2), .int .i64 ((q93).f3)] h rfl rfl rfl rfl (by simp [Value.oneCell']) sh77 rfl rfl (fun _ h => ?_)
       refine wl_nil ?_
       refine qn_then ?_
       refine wc_seq ?_
       refine wc_region ?_
       refine wl_v rfl rfl (ov_fieldAddr _ ⟨b99, 0, none⟩ _ rfl fo77_0 rfl) ?_
       refine wl_v rfl rfl (ov_loadb 0 _ h rfl rfl sh4 rfl) ?_
       refine wl_v rfl rfl (ov_move _ rfl) ?_
       refine wl_splitb 71 rfl (fun c100 => ?_) (fun c100 => ?_)
       ·
        refine wl_v rfl rfl (ov_fieldAddr _ ⟨b99, 1, none⟩ _ rfl fo77_1 rfl) ?_
        refine wl_v rfl rfl (ov_loadb 0 _ h rfl rfl sh3 rfl) ?_
        refine wl_v rfl rfl (ov_fieldAddr _ ⟨b99, 2, none⟩ _ rfl fo77_2 rfl) ?_
        refine wl_v rfl rfl (ov_loadb 0 _ h rfl rfl sh3 rfl) ?_
        refine wl_v rfl rfl (ov_bin _ rfl rfl (binR_add (r := ((q93).f1) + ((q93).f2)) (Sx.w64 (by omega)))) ?_
        refine wl_v rfl rfl (ov_fieldAddr _ ⟨b83, 1, none⟩ _ rfl fo77_1 rfl) ?_
        refine wl_v rfl rfl (ov_loadb 3 _ h rfl rfl sh3 rfl) ?_
        refine wl_v rfl rfl (ov_bin _ rfl rfl (binR_eql)) ?_
        refine wl_v rfl rfl (ov_pick_true _ rfl rfl) ?_
        refine wl_nil ?_
        refine qn_then ?_
        refine wc_cond (by rfl) (fun c101 => ?_) (fun c101 => ?_)
        ·
         refine wc_seq ?_
         refine wc_region ?_
         refine wl_v rfl rfl (ov_fieldAddr _ ⟨b99, 2, none⟩ _ rfl fo77_2 rfl) ?_
         refine wl_v rfl rfl (ov_loadb 0 _ h rfl rfl sh3 rfl) ?_
         refine wl_v rfl rfl (ov_fieldAddr _ ⟨b83, 2, none⟩ _ rfl fo77_2 rfl) ?_
         refine wl_v rfl rfl (ov_loadb 3 _ h rfl rfl sh3 rfl) ?_
         refine wl_v rfl rfl (ov_bin _ rfl rfl (binR_add (r := ((q93).f2) + (((s).size : Int))) (Sx.w64 (by omega)))) ?_
         refine wl_v rfl rfl (ov_fieldAddr _ ⟨b99, 2, none⟩ _ rfl fo77_2 rfl) ?_
         refine wl_storeb 0 _ [.bool ((q93).f0), .int .i64 ((q93).f1), .int .i64 (((q93).f2) + (((s).size : Int))), .int .i64 ((q93).f3)] h rfl rfl rfl rfl rfl rfl sh3 rfl rfl (fun _ h => ?_)
         refine wl_nil ?_
         refine qn_then ?_
         refine wc_seq ?_
         refine wc_region ?_
         refine wl_v rfl rfl (ov_fieldAddr _ ⟨b99, 3, none⟩ _ rfl fo77_3 rfl) ?_
         refine wl_v rfl rfl (ov_loadb 0 _ h rfl rfl sh3 rfl) ?_
         refine wl_v rfl rfl (ov_fieldAddr _ ⟨b83, 3, none⟩ _ rfl fo77_3 rfl) ?_
         refine wl_v rfl rfl (ov_loadb 3 _ h rfl rfl sh3 rfl) ?_
         refine wl_v rfl rfl (ov_bin _ rfl rfl (binR_add (r := ((q93).f3) + (Pc.nlB s)) (Sx.w64 (by omega)))) ?_
         refine wl_v rfl rfl (ov_fieldAddr _ ⟨b99, 3, none⟩ _ rfl fo77_3 rfl) ?_
         refine wl_storeb 0 _ [.bool ((q93).f0), .int .i64 ((q93).f1), .int .i64 (((q93).f2) + (((s).size : Int))), .int .i64 (((q93).f3) + (Pc.nlB s))] h rfl rfl rfl rfl rfl rfl sh3 rfl rfl (fun _ h => ?_)
         refine wl_nil ?_
         refine qn_then ?_
         refine wc_draw (fun w => Sx.St w0 F0 ([Sx.blk b99 [.bool ((q93).f0), .int .i64 ((q93).f1), .int .i64 (((q93).f2) + (((s).size : Int))), .int .i64 (((q93).f3) + (Pc.nlB s))] 77, Pc.lib (Φ94), Pc.rowl (Φ8) 5 (A85) (cp86) (L1_ ++ bytesOf s), Sx.blk g [.string (s1_), .slice (A85) ((L1_ ++ bytesOf s).length) (cp86), .pointer (Pc.AT.ptr T1_)] 68] ++ R) w) (by kernel_rfl) ?_
         replace h := st_drew h
         refine wa_tk 0 rfl rfl rfl (st_selT [true, true, true, false, true] h) (fun w_ hS => ov_move _ rfl) ?_
         refine wa_tk 1 rfl rfl rfl (st_selT [true, true, true, false, true] h) (fun w_ hS => ov_loadbN 0 [.bool ((q93).f0), .int .i64 ((q93).f1), .int .i64 (((q93).f2) + (((s).size : Int))), .int .i64 (((q93).f3) + (Pc.nlB s))] hS rfl rfl sh77 rfl) ?_
         refine wa_tk 2 rfl rfl rfl (st_selT [true, true, true, false, true] h) (fun w_ hS => ov_assign _ rfl) ?_
         refine wa_one 3 rfl (by kernel_rfl) ?_
         refine wl_storebN 3 [.bool ((q93).f0), .int .i64 ((q93).f1), .int .i64 (((q93).f2) + (((s).size : Int))), .int .i64 (((q93).f3) + (Pc.nlB s))] [.bool ((q93).f0), .int .i64 ((q93).f1), .int .i64 (((q93).f2) + (((s).size : Int))), .int .i64 (((q93).f3) + (Pc.nlB s))] h rfl rfl rfl rfl (by simp [Value.oneCell']) sh77 rfl rfl (fun _ h => ?_)
         refine wl_nil ?_
         refine qn_wa (st_selT [true, true, true, false, true] h) ?_
         refine wa_done (by kernel_rfl) ?_
         refine qn_then ?_
         refine wc_seq ?_
         refine wc_region ?_
         refine wl_v rfl rfl (ov_move _ rfl) ?_
         refine wl_v rfl rfl (ov_move _ rfl) ?_
         refine wl_v rfl rfl (ov_loadbN 3 [.bool ((q93).f0), .int .i64 ((q93).f1), .int .i64 (((q93).f2) + (((s).size : Int))), .int .i64 (((q93).f3) + (Pc.nlB s))] h rfl rfl sh77 rfl) ?_
         refine wl_v rfl rfl (ov_move _ rfl) ?_
         have hins_ := ED.ins_size (C := (Pc.cat s1_ L1_ (Pc.AT.fl T1_))) (s := s) hk0_ hk1_
         have hput_ := Pc.more_ok hs1_ htw2_ c100 (by omega)
         replace h := st_front 1 h
         refine wl_call _ rfl rfl rfl ent48 (TJ.join_calls (R := [Sx.blk b99 [.bool ((q93).f0), .int .i64 ((q93).f1), .int .i64 (((q93).f2) + (((s).size : Int))), .int .i64 (((q93).f3) + (Pc.nlB s))] 77, Pc.rowl (Φ8) 5 (A85) (cp86) (L1_ ++ bytesOf s), Sx.blk b83 [.bool ((q93).f0), .int .i64 ((q93).f1), .int .i64 (((q93).f2) + (((s).size : Int))), .int .i64 (((q93).f3) + (Pc.nlB s))] 77, Sx.blk g [.string (s1_), .slice (A85) ((L1_ ++ bytesOf s).length) (cp86), .pointer (Pc.AT.ptr T1_)] 68] ++ R) (Φ94) T92 (⟨((q93).f0), (q93).f1, ((q93).f2) + (((s).size : Int)), ((q93).f3) + (Pc.nlB s)⟩ : S77) T7 hT96 (fun W_ z_ => hT11 W_ (hsub95 W_ z_)) hlb98 hsb13 (Pc.wf_sm hput_.1 (by rw [hput_.2.1, hins_]; omega)) h) ?_
         rintro e_ w_ ⟨T102, Φ103, rfl, hsub104, hT105, ⟨hjf106, hjb107⟩, h⟩
         refine ⟨_, rfl, ?_⟩
         refine wl_v rfl rfl (ov_nilCheck _ rfl) ?_
         refine wl_v rfl rfl (ov_fieldAddr _ ⟨g, 2, none⟩ _ rfl fo68_2 rfl) ?_
         refine wl_storeb 4 _ [.string (s1_), .slice (A85) ((L1_ ++ bytesOf s).length) (cp86), .pointer (Pc.AT.ptr T102)] h rfl rfl rfl rfl rfl rfl sh66 rfl rfl (fun _ h => ?_)
         refine wl_nil ?_
         refine qn_then ?_
         refine wc_seq ?_
         refine wc_region ?_
         refine wl_v rfl rfl (ov_move _ rfl) ?_
         replace h := st_front 2 h
         replace h := Pc.rowl_weak (Ψ := Φ103) (fun W_ z_ => (hsub95 W_ (hsub104 W_ z_))) h
         replace h := st_front 1 h
         replace h := st_front 1 h
         replace h := st_front 4 h
         replace h : Sx.St w0 F0 ([Sx.blk g [.string (s1_), .slice (A85) ((L1_ ++ bytesOf s).length) (cp86), .pointer (Pc.AT.ptr T102)] 68, Pc.rowl (Φ103) 5 (A85) (cp86) (L1_ ++ bytesOf s), Pc.lib (Φ103), Sx.blk b99 [.bool ((q93).f0), .int .i64 ((q93).f1), .int .i64 (((q93).f2) + (((s).size : Int))), .int .i64 (((q93).f3) + (Pc.nlB s))] 77, Sx.blk b83 [.bool ((q93).f0), .int .i64 ((q93).f1), .int .i64 (((q93).f2) + (((s).size : Int))), .int .i64 (((q93).f3) + (Pc.nlB s))] 77] ++ R) _ := h
         refine wl_call _ rfl rfl rfl ent49 (TX.tidy_calls (R := [Sx.blk b99 [.bool ((q93).f0), .int .i64 ((q93).f1), .int .i64 (((q93).f2) + (((s).size : Int))), .int .i64 (((q93).f3) + (Pc.nlB s))] 77, Sx.blk b83 [.bool ((q93).f0), .int .i64 ((q93).f1), .int .i64 (((q93).f2) + (((s).size : Int))), .int .i64 (((q93).f3) + (Pc.nlB s))] 77] ++ R) g (s1_) (A85) (cp86) (L1_ ++ bytesOf s) (T102) (Φ103) (Pc.rowl_get h (i := 1) rfl).1 hT105 hjb107 (by rw [hjf106]; exact hput_.1) (Pc.bytes_app ok1_.by_ (Pc.bytes_of s)) (by omega) (by simp only [List.length_append, bytesOf_length]; omega) (by rw [hjf106, hput_.2.1, hins_]; omega) h) ?_
         rintro e_ w_ ⟨D108, d109, Φ110, rfl, hsub111, hD112, hDl113, h⟩
         refine ⟨_, rfl, ?_⟩
         refine wl_nil ?_
         refine qn_then ?_
         refine wc_seq ?_
         refine wc_region ?_
         refine wl_v rfl rfl (ov_assign _ rfl) ?_
         refine wl_nil ?_
         refine qn_then ?_
         refine wc_ret ?_
         refine qn_ret [_] ⟨rfl, trivial⟩ ?_
         replace h := st_front 1 h
         replace h := st_front 1 h
         replace h := st_selT [true, true, false, false] h
         have ep_ : ED.pins (Pc.cat s1_ L1_ (Pc.AT.fl T1_)) k s = 0 := by
           unfold ED.pins
           rw [if_neg (by omega), if_neg (by omega), if_neg (by omega)]
         rw [ep_]
         exact ⟨D108, d109, Φ110, rfl, fun W_ z_ => (hsub9 W_ (hsub95 W_ (hsub104 W_ (hsub111 W_ z_)))), ⟨by unfold ED.insT; rw [if_pos ep_, hD112, hjf106, hput_.2.1], by rw [hjf106] at hDl113; have := hput_.2.2; omega⟩, h⟩
        ·
         refine wc_skip ?_
         refine qn_then ?_
         refine wc_seq ?_
         refine wc_region ?_
         refine wl_v rfl rfl (ov_move _ rfl) ?_
         refine wl_v rfl rfl (ov_move _ rfl) ?_
         refine wl_v rfl rfl (ov_loadbN 3 [.bool true, .int .i64 (((L1_.length : Nat) : Int)), .int .i64 (((s).size : Int)), .int .i64 (Pc.nlB s)] h rfl rfl sh77 rfl) ?_
         refine wl_v rfl rfl (ov_move _ rfl) ?_
         have hins_ := ED.ins_size (C := (Pc.cat s1_ L1_ (Pc.AT.fl T1_))) (s := s) hk0_ hk1_
         have hput_ := Pc.put_ok hs1_ htw14
         replace h := st_front 1 h
         refine wl_call _ rfl rfl rfl ent48 (TJ.join_calls (R := [Sx.blk b99 [.bool ((q93).f0), .int .i64 ((q93).f1), .int .i64 ((q93).f2), .int .i64 ((q93).f3)] 77, Pc.rowl (Φ8) 5 (A85) (cp86) (L1_ ++ bytesOf s), Sx.blk b83 [.bool true, .int .i64 (((L1_.length : Nat) : Int)), .int .i64 (((s).size : Int)), .int .i64 (Pc.nlB s)] 77, Sx.blk g [.string (s1_), .slice (A85) ((L1_ ++ bytesOf s).length) (cp86), .pointer (Pc.AT.ptr T1_)] 68] ++ R) (Φ94) (Pc.AT.nd g88 tl89 tp90 tr91) (⟨true, ((L1_.length : Nat) : Int), ((s).size : Int), Pc.nlB s⟩ : S77) T7 (fun W_ z_ => hT10 W_ (hsub95 W_ z_)) (fun W_ z_ => hT11 W_ (hsub95 W_ z_)) hsb12 hsb13 (Pc.wf_sm hput_.1 (by rw [hput_.2.1, hins_]; omega)) h) ?_
         rintro e_ w_ ⟨T114, Φ115, rfl, hsub116, hT117, ⟨hjf118, hjb119⟩, h⟩
         refine ⟨_, rfl, ?_⟩
         refine wl_v rfl rfl (ov_nilCheck _ rfl) ?_
         refine wl_v rfl rfl (ov_fieldAddr _ ⟨g, 2, none⟩ _ rfl fo68_2 rfl) ?_
         refine wl_storeb 4 _ [.string (s1_), .slice (A85) ((L1_ ++ bytesOf s).length) (cp86), .pointer (Pc.AT.ptr T114)] h rfl rfl rfl rfl rfl rfl sh66 rfl rfl (fun _ h => ?_)
         refine wl_nil ?_
         refine qn_then ?_
         refine wc_seq ?_
         refine wc_region ?_
         refine wl_v rfl rfl (ov_move _ rfl) ?_
         replace h := st_front 2 h
         replace h := Pc.rowl_weak (Ψ := Φ115) (fun W_ z_ => (hsub95 W_ (hsub116 W_ z_))) h
         replace h := st_front 1 h
         replace h := st_front 1 h
         replace h := st_front 4 h
         replace h : Sx.St w0 F0 ([Sx.blk g [.string (s1_), .slice (A85) ((L1_ ++ bytesOf s).length) (cp86), .pointer (Pc.AT.ptr T114)] 68, Pc.rowl (Φ115) 5 (A85) (cp86) (L1_ ++ bytesOf s), Pc.lib (Φ115), Sx.blk b99 [.bool ((q93).f0), .int .i64 ((q93).f1), .int .i64 ((q93).f2), .int .i64 ((q93).f3)] 77, Sx.blk b83 [.bool true, .int .i64 (((L1_.length : Nat) : Int)), .int .i64 (((s).size : Int)), .int .i64 (Pc.nlB s)] 77] ++ R) _ := h
         refine wl_call _ rfl rfl rfl ent49 (TX.tidy_calls (R := [Sx.blk b99 [.bool ((q93).f0), .int .i64 ((q93).f1), .int .i64 ((q93).f2), .int .i64 ((q93).f3)] 77, Sx.blk b83 [.bool true, .int .i64 (((L1_.length : Nat) : Int)), .int .i64 (((s).size : Int)), .int .i64 (Pc.nlB s)] 77] ++ R) g (s1_) (A85) (cp86) (L1_ ++ bytesOf s) (T114) (Φ115) (Pc.rowl_get h (i := 1) rfl).1 hT117 hjb119 (by rw [hjf118]; exact hput_.1) (Pc.bytes_app ok1_.by_ (Pc.bytes_of s)) (by omega) (by simp only [List.length_append, bytesOf_length]; omega) (by rw [hjf118, hput_.2.1, hins_]; omega) h) ?_
         rintro e_ w_ ⟨D120, d121, Φ122, rfl, hsub123, hD124, hDl125, h⟩
         refine ⟨_, rfl, ?_⟩
         refine wl_nil ?_
         refine qn_then ?_
         refine wc_seq ?_
         refine wc_region ?_
         refine wl_v rfl rfl (ov_assign _ rfl) ?_
         refine wl_nil ?_
         refine qn_then ?_
         refine wc_ret ?_
         refine qn_ret [_] ⟨rfl, trivial⟩ ?_
         replace h := st_front 1 h
         replace h := st_front 1 h
         replace h := st_selT [true, true, false, false] h
         have ep_ : ED.pins (Pc.cat s1_ L1_ (Pc.AT.fl T1_)) k s = 0 := by
           unfold ED.pins
           rw [if_neg (by omega), if_neg (by omega), if_neg (by omega)]
         rw [ep_]
         exact ⟨D120, d121, Φ122, rfl, fun W_ z_ => (hsub9 W_ (hsub95 W_ (hsub116 W_ (hsub123 W_ z_)))), ⟨by unfold ED.insT; rw [if_pos ep_, hD124, hjf118, hput_.2.1], by rw [hjf118] at hDl125; have := hput_.2.2; omega⟩, h⟩
       ·
        refine wl_skip rfl rfl ?_
        refine wl_skip rfl rfl ?_
        refine wl_skip rfl rfl ?_
        refine wl_skip rfl rfl ?_
        refine wl_skip rfl rfl ?_
        refine wl_skip rfl rfl ?_
        refine wl_skip rfl rfl ?_
        refine wl_skip rfl rfl ?_
        refine wl_v rfl rfl (ov_pick_false _ rfl rfl) ?_
        refine wl_nil ?_
        refine qn_then ?_
        refine wc_cond_false rfl ?_
        refine wc_skip ?_
        refine qn_then ?_
        refine wc_seq ?_
        refine wc_region ?_
        refine wl_v rfl rfl (ov_move _ rfl) ?_
        refine wl_v rfl rfl (ov_move _ rfl) ?_
        refine wl_v rfl rfl (ov_loadbN 3 [.bool true, .int .i64 (((L1_.length : Nat) : Int)), .int .i64 (((s).size : Int)), .int .i64 (Pc.nlB s)] h rfl rfl sh77 rfl) ?_
        refine wl_v rfl rfl (ov_move _ rfl) ?_
        have hins_ := ED.ins_size (C := (Pc.cat s1_ L1_ (Pc.AT.fl T1_))) (s := s) hk0_ hk1_
        have hput_ := Pc.put_ok hs1_ htw14
        replace h := st_front 1 h
        refine wl_call _ rfl rfl rfl ent48 (TJ.join_calls (R := [Sx.blk b99 [.bool ((q93).f0), .int .i64 ((q93).f1), .int .i64 ((q93).f2), .int .i64 ((q93).f3)] 77, Pc.rowl (Φ8) 5 (A85) (cp86) (L1_ ++ bytesOf s), Sx.blk b83 [.bool true, .int .i64 (((L1_.length : Nat) : Int)), .int .i64 (((s).size : Int)), .int .i64 (Pc.nlB s)] 77, Sx.blk g [.string (s1_), .slice (A85) ((L1_ ++ bytesOf s).length) (cp86), .pointer (Pc.AT.ptr T1_)] 68] ++ R) (Φ94) (Pc.AT.nd g88 tl89 tp90 tr91) (⟨true, ((L1_.length : Nat) : Int), ((s).size : Int), Pc.nlB s⟩ : S77) T7 (fun W_ z_ => hT10 W_ (hsub95 W_ z_)) (fun W_ z_ => hT11 W_ (hsub95 W_ z_)) hsb12 hsb13 (Pc.wf_sm hput_.1 (by rw [hput_.2.1, hins_]; omega)) h) ?_
        rintro e_ w_ ⟨T126, Φ127, rfl, hsub128, hT129, ⟨hjf130, hjb131⟩, h⟩
        refine ⟨_, rfl, ?_⟩
        refine wl_v rfl rfl (ov_nilCheck _ rfl) ?_
        refine wl_v rfl rfl (ov_fieldAddr _ ⟨g, 2, none⟩ _ rfl fo68_2 rfl) ?_
        refine wl_storeb 4 _ [.string (s1_), .slice (A85) ((L1_ ++ bytesOf s).length) (cp86), .pointer (Pc.AT.ptr T126)] h rfl rfl rfl rfl rfl rfl sh66 rfl rfl (fun _ h => ?_)
        refine wl_nil ?_
        refine qn_then ?_
        refine wc_seq ?_
        refine wc_region ?_
        refine wl_v rfl rfl (ov_move _ rfl) ?_
        replace h := st_front 2 h
        replace h := Pc.rowl_weak (Ψ := Φ127) (fun W_ z_ => (hsub95 W_ (hsub128 W_ z_))) h
        replace h := st_front 1 h
        replace h := st_front 1 h
        replace h := st_front 4 h
        replace h : Sx.St w0 F0 ([Sx.blk g [.string (s1_), .slice (A85) ((L1_ ++ bytesOf s).length) (cp86), .pointer (Pc.AT.ptr T126)] 68, Pc.rowl (Φ127) 5 (A85) (cp86) (L1_ ++ bytesOf s), Pc.lib (Φ127), Sx.blk b99 [.bool ((q93).f0), .int .i64 ((q93).f1), .int .i64 ((q93).f2), .int .i64 ((q93).f3)] 77, Sx.blk b83 [.bool true, .int .i64 (((L1_.length : Nat) : Int)), .int .i64 (((s).size : Int)), .int .i64 (Pc.nlB s)] 77] ++ R) _ := h
        refine wl_call _ rfl rfl rfl ent49 (TX.tidy_calls (R := [Sx.blk b99 [.bool ((q93).f0), .int .i64 ((q93).f1), .int .i64 ((q93).f2), .int .i64 ((q93).f3)] 77, Sx.blk b83 [.bool true, .int .i64 (((L1_.length : Nat) : Int)), .int .i64 (((s).size : Int)), .int .i64 (Pc.nlB s)] 77] ++ R) g (s1_) (A85) (cp86) (L1_ ++ bytesOf s) (T126) (Φ127) (Pc.rowl_get h (i := 1) rfl).1 hT129 hjb131 (by rw [hjf130]; exact hput_.1) (Pc.bytes_app ok1_.by_ (Pc.bytes_of s)) (by omega) (by simp only [List.length_append, bytesOf_length]; omega) (by rw [hjf130, hput_.2.1, hins_]; omega) h) ?_
        rintro e_ w_ ⟨D132, d133, Φ134, rfl, hsub135, hD136, hDl137, h⟩
        refine ⟨_, rfl, ?_⟩
        refine wl_nil ?_
        refine qn_then ?_
        refine wc_seq ?_
        refine wc_region ?_
        refine wl_v rfl rfl (ov_assign _ rfl) ?_
        refine wl_nil ?_
        refine qn_then ?_
        refine wc_ret ?_
        refine qn_ret [_] ⟨rfl, trivial⟩ ?_
        replace h := st_front 1 h
        replace h := st_front 1 h
        replace h := st_selT [true, true, false, false] h
        have ep_ : ED.pins (Pc.cat s1_ L1_ (Pc.AT.fl T1_)) k s = 0 := by
          unfold ED.pins
          rw [if_neg (by omega), if_neg (by omega), if_neg (by omega)]
        rw [ep_]
        exact ⟨D132, d133, Φ134, rfl, fun W_ z_ => (hsub9 W_ (hsub95 W_ (hsub128 W_ (hsub135 W_ z_)))), ⟨by unfold ED.insT; rw [if_pos ep_, hD136, hjf130, hput_.2.1], by rw [hjf130] at hDl137; have := hput_.2.2; omega⟩, h⟩
      ·
       obtain rfl := Pc.AT.ptr_none (Classical.not_not.1 c87)
       refine wc_skip ?_
       refine qn_then ?_
       refine wc_seq ?_
       refine wc_region ?_
       refine wl_v rfl rfl (ov_move _ rfl) ?_
       refine wl_v rfl rfl (ov_move _ rfl) ?_
       refine wl_v rfl rfl (ov_loadbN 1 [.bool true, .int .i64 (((L1_.length : Nat) : Int)), .int .i64 (((s).size : Int)), .int .i64 (Pc.nlB s)] h rfl rfl sh77 rfl) ?_
       refine wl_v rfl rfl (ov_move _ rfl) ?_
       have hins_ := ED.ins_size (C := (Pc.cat s1_ L1_ (Pc.AT.fl T1_))) (s := s) hk0_ hk1_
       have hput_ := Pc.put_ok hs1_ htw14
       replace h := st_front 2 h
       refine wl_call _ rfl rfl rfl ent48 (TJ.join_calls (R := [Pc.rowl (Φ8) 5 (A85) (cp86) (L1_ ++ bytesOf s), Sx.blk b83 [.bool true, .int .i64 (((L1_.length : Nat) : Int)), .int .i64 (((s).size : Int)), .int .i64 (Pc.nlB s)] 77, Sx.blk g [.string (s1_), .slice (A85) ((L1_ ++ bytesOf s).length) (cp86), .pointer (Pc.AT.ptr T1_)] 68] ++ R) (Φ8) Pc.AT.nil (⟨true, ((L1_.length : Nat) : Int), ((s).size : Int), Pc.nlB s⟩ : S77) T7 (fun W_ z_ => (fun _ _ => trivial) W_ (hsub9 W_ z_)) hT11 trivial hsb13 (Pc.wf_sm hput_.1 (by rw [hput_.2.1, hins_]; omega)) h) ?_
       rintro e_ w_ ⟨T138, Φ139, rfl, hsub140, hT141, ⟨hjf142, hjb143⟩, h⟩
       refine ⟨_, rfl, ?_⟩
       refine wl_v rfl rfl (ov_nilCheck _ rfl) ?_
       refine wl_v rfl rfl (ov_fieldAddr _ ⟨g, 2, none⟩ _ rfl fo68_2 rfl) ?_
       refine wl_storeb 3 _ [.string (s1_), .slice (A85) ((L1_ ++ bytesOf s).length) (cp86), .pointer (Pc.AT.ptr T138)] h rfl rfl rfl rfl rfl rfl sh66 rfl rfl (fun _ h => ?_)
       refine wl_nil ?_
       refine qn_then ?_
       refine wc_seq ?_
       refine wc_region ?_
       refine wl_v rfl rfl (ov_move _ rfl) ?_
       replace h := st_front 1 h
       replace h := Pc.rowl_weak (Ψ := Φ139) (fun W_ z_ => (hsub140 W_ z_)) h
       replace h := st_front 1 h
       replace h := st_front 1 h
       replace h := st_front 3 h
       replace h : Sx.St w0 F0 ([Sx.blk g [.string (s1_), .slice (A85) ((L1_ ++ bytesOf s).length) (cp86), .pointer (Pc.AT.ptr T138)] 68, Pc.rowl (Φ139) 5 (A85) (cp86) (L1_ ++ bytesOf s), Pc.lib (Φ139), Sx.blk b83 [.bool true, .int .i64 (((L1_.length : Nat) : Int)), .int .i64 (((s).size : Int)), .int .i64 (Pc.nlB s)] 77] ++ R) _ := h
       refine wl_call _ rfl rfl rfl ent49 (TX.tidy_calls (R := [Sx.blk b83 [.bool true, .int .i64 (((L1_.length : Nat) : Int)), .int .i64 (((s).size : Int)), .int .i64 (Pc.nlB s)] 77] ++ R) g (s1_) (A85) (cp86) (L1_ ++ bytesOf s) (T138) (Φ139) (Pc.rowl_get h (i := 1) rfl).1 hT141 hjb143 (by rw [hjf142]; exact hput_.1) (Pc.bytes_app ok1_.by_ (Pc.bytes_of s)) (by omega) (by simp only [List.length_append, bytesOf_length]; omega) (by rw [hjf142, hput_.2.1, hins_]; omega) h) ?_
       rintro e_ w_ ⟨D144, d145, Φ146, rfl, hsub147, hD148, hDl149, h⟩
       refine ⟨_, rfl, ?_⟩
       refine wl_nil ?_
       refine qn_then ?_
       refine wc_seq ?_
       refine wc_region ?_
       refine wl_v rfl rfl (ov_assign _ rfl) ?_
       refine wl_nil ?_
       refine qn_then ?_
       refine wc_ret ?_
       refine qn_ret [_] ⟨rfl, trivial⟩ ?_
       replace h := st_front 1 h
       replace h := st_front 1 h
       replace h := st_selT [true, true, false] h
       have ep_ : ED.pins (Pc.cat s1_ L1_ (Pc.AT.fl T1_)) k s = 0 := by
         unfold ED.pins
         rw [if_neg (by omega), if_neg (by omega), if_neg (by omega)]
       rw [ep_]
       exact ⟨D144, d145, Φ146, rfl, fun W_ z_ => (hsub9 W_ (hsub140 W_ (hsub147 W_ z_))), ⟨by unfold ED.insT; rw [if_pos ep_, hD148, hjf142, hput_.2.1], by rw [hjf142] at hDl149; have := hput_.2.2; omega⟩, h⟩
set_option maxHeartbeats 4000000 in
set_option maxRecDepth 100000 in
theorem Delete_calls {w0 w : World} {F0 : Nat → Prop} {R : List Sx.HP} (Φ : World → Prop) (g : Nat) (D : List ByteArray) (d : Int) (a b : Int)  (h : Sx.St w0 F0 ([Pc.tx (Φ) g (D) (d), Pc.lib (Φ)] ++ R) w) : Calls Try.prog 28 #[.pointer (some ⟨g, 0, none⟩), .int .i64 (a), .int .i64 (b)] w (fun e w1 => ∃ (D2 : List ByteArray) (d2 : Int) (Φ2 : World → Prop), e = .returned (.int .i64 (RD.pspan (Pc.catB D) a b)) ∧ (∀ W, Φ2 W → Φ W) ∧ (Pc.catB D2 = ED.delT (Pc.catB D) a b ∧ D2.length ≤ D.length + 2) ∧ Sx.St w0 F0 ([Pc.tx Φ2 g D2 d2, Pc.lib Φ2] ++ R) w1) := by
 obtain ⟨s1_, A1_, c1_, L1_, T1_, ok1_, hl1_, h⟩ := Pc.tx_open h
 have hz1_ := ok1_.z0
 have hy1_ := ok1_.zL
 have hx1_ := ok1_.zc
 have hcz1_ := Pc.cat_size ok1_.wf
 replace h : Sx.St w0 F0 ([Sx.blk g [.string (s1_), .slice (A1_) (L1_.length) (c1_), .pointer (Pc.AT.ptr T1_)] 68, Pc.rowl (Φ) 5 (A1_) (c1_) (L1_), Pc.lib (Φ)] ++ R) _ := h
 have hC_ := Pc.tok_cat ok1_
 have hDl_ := Pc.tok_len ok1_
 rw [hC_]
 refine Sx.calls_fn (vs := [.pointer (some ⟨g, 0, none⟩), .int .i64 (a), .int .i64 (b)]) Try.func28 rfl Try.ntmps28 rfl ?_
 refine wc_seq ?_
 refine wc_region ?_
 refine wl_v rfl rfl (ov_assign _ rfl) ?_
 refine wl_nil ?_
 refine qn_then ?_
 refine wc_seq ?_
 refine wc_seq ?_
 refine wc_region ?_
 refine wl_v rfl rfl (ov_move _ rfl) ?_
 refine wl_v rfl rfl (ov_move _ rfl) ?_
 refine wl_v rfl rfl (ov_move _ rfl) ?_
 refine wl_call _ rfl rfl rfl ent52 (RD.span_calls (R := [Sx.blk g [.string (s1_), .slice (A1_) (L1_.length) (c1_), .pointer (Pc.AT.ptr T1_)] 68, Pc.rowl (Φ) 5 (A1_) (c1_) (L1_), Pc.lib (Φ)] ++ R) g s1_ A1_ c1_ L1_ T1_ (a) (b) (by omega) (by omega) hl1_ ok1_.by_ ok1_.wf (by omega) (Pc.en_blk (i := 0) rfl) (Pc.en_rowl (i := 1) (j := 2) rfl rfl (fun W_ z_ => z_)) (Pc.en_at (j := 2) rfl ok1_.at_)  h) ?_
 rintro e_ w_ ⟨rfl, h⟩
 refine ⟨_, rfl, ?_⟩
 refine wl_v rfl rfl (ov_assign _ rfl) ?_
 refine wl_nil ?_
 refine qn_then ?_
 refine wc_seq ?_
 refine wc_region ?_
 refine wl_v rfl rfl (ov_move _ rfl) ?_
 refine wl_v rfl rfl (ov_bin _ rfl rfl (binR_neq)) ?_
 refine wl_nil ?_
 refine qn_then ?_
 refine wc_cond (by rfl) (fun c2 => ?_) (fun c2 => ?_)
 ·
  refine wc_seq ?_
  refine wc_region ?_
  refine wl_v rfl rfl (ov_move _ rfl) ?_
  refine wl_v rfl rfl (ov_assign _ rfl) ?_
  refine wl_nil ?_
  refine qn_then ?_
  refine wc_ret ?_
  refine qn_then_ret ?_
  have et_ : ED.delT (Pc.cat s1_ L1_ (Pc.AT.fl T1_)) a b = (Pc.cat s1_ L1_ (Pc.AT.fl T1_)) := by unfold ED.delT; exact if_neg (by omega)
  rw [et_]
  refine qn_ret [_] ⟨rfl, trivial⟩ ?_
  replace h := st_front 2 h
  replace h := st_front 2 h
  replace h := st_front 2 h
  exact ⟨D, d, Φ, rfl, fun _ z_ => z_, ⟨hC_, Nat.le_add_right _ _⟩, Pc.tx_close rfl ok1_ h⟩
 ·
  refine wc_skip ?_
  refine qn_then ?_
  refine wc_seq ?_
  refine wc_region ?_
  refine wl_v rfl rfl (ov_move _ rfl) ?_
  refine wl_v rfl rfl (ov_move _ rfl) ?_
  refine wl_v rfl rfl (ov_nilCheck _ rfl) ?_
  refine wl_v rfl rfl (ov_fieldAddr _ ⟨g, 2, none⟩ _ rfl fo68_2 rfl) ?_
  refine wl_v rfl rfl (ov_loadb 0 _ h rfl rfl sh66 rfl) ?_
  refine wl_v rfl rfl (ov_move _ rfl) ?_
  obtain ⟨hk0_, hk1_, hk2_, hk3_, hk4_⟩ := ED.span0 (C := (Pc.cat s1_ L1_ (Pc.AT.fl T1_))) (a := a) (b := b) (by omega)
  replace h := st_front 2 h
  refine wl_call _ rfl rfl rfl ent45 (SR.split_calls (R := [Sx.blk g [.string (s1_), .slice (A1_) (L1_.length) (c1_), .pointer (Pc.AT.ptr T1_)] 68, Pc.rowl (Φ) 5 (A1_) (c1_) (L1_)] ++ R) g s1_ A1_ c1_ L1_ (Pc.AT.ptr T1_) (Φ) T1_ (a) (by omega) (by omega) hl1_ (Pc.en_blk (i := 0) rfl) (fun cs_ W_ z_ h_ => Pc.rowl_below (i := 1) rfl cs_ W_ z_ h_) ok1_.at_ ok1_.bal ok1_.wf (by omega) (by omega) (by omega)  h) ?_
  rintro e_ w_ ⟨T3, T4, Φ5, rfl, hsub6, hT7, hT8, ⟨hsb9, hsb10, htw11⟩, h⟩
  refine ⟨_, rfl, ?_⟩
  have hts12 := Pc.two_size htw11
  refine wl_v rfl rfl (ov_move _ rfl) ?_
  refine wl_v rfl rfl (ov_extract [.pointer (Pc.AT.ptr T3), .pointer (Pc.AT.ptr T4)] _ rfl rfl) ?_
  refine wl_v rfl rfl (ov_extract [.pointer (Pc.AT.ptr T3), .pointer (Pc.AT.ptr T4)] _ rfl rfl) ?_
  refine wl_v rfl rfl (ov_assign _ rfl) ?_
  refine wl_v rfl rfl (ov_assign _ rfl) ?_
  refine wl_nil ?_
  refine qn_then ?_
  refine wc_seq ?_
  refine wc_region ?_
  refine wl_v rfl rfl (ov_move _ rfl) ?_
  refine wl_v rfl rfl (ov_move _ rfl) ?_
  refine wl_v rfl rfl (ov_move _ rfl) ?_
  refine wl_v rfl rfl (ov_move _ rfl) ?_
  refine wl_v rfl rfl (ov_bin _ rfl rfl (binR_sub (r := b - a) (Sx.w64 (by omega)))) ?_
  have hwb_ := Pc.cat_size htw11.wb
  have hsa_ := htw11.size
  refine wl_call _ rfl rfl rfl ent45 (SR.split_calls (R := [Sx.blk g [.string (s1_), .slice (A1_) (L1_.length) (c1_), .pointer (Pc.AT.ptr T1_)] 68, Pc.rowl (Φ) 5 (A1_) (c1_) (L1_)] ++ R) g s1_ A1_ c1_ L1_ (Pc.AT.ptr T1_) (Φ5) T4 (b - a) (by omega) (by omega) hl1_ (Pc.en_blk (i := 0) rfl) (fun cs_ W_ z_ h_ => Pc.rowl_below (i := 1) rfl cs_ W_ (hsub6 W_ z_) h_) hT8 hsb10 htw11.wb (by omega) (by omega) (by omega)  h) ?_
  rintro e_ w_ ⟨T13, T14, Φ15, rfl, hsub16, hT17, hT18, ⟨hsb19, hsb20, htw21⟩, h⟩
  refine ⟨_, rfl, ?_⟩
  have hts22 := Pc.two_size htw21
  refine wl_v rfl rfl (ov_move _ rfl) ?_
  refine wl_v rfl rfl (ov_extract [.pointer (Pc.AT.ptr T13), .pointer (Pc.AT.ptr T14)] _ rfl rfl) ?_
  refine wl_v rfl rfl (ov_extract [.pointer (Pc.AT.ptr T13), .pointer (Pc.AT.ptr T14)] _ rfl rfl) ?_
  refine wl_v rfl rfl (ov_assign _ rfl) ?_
  refine wl_v rfl rfl (ov_assign _ rfl) ?_
  refine wl_nil ?_
  refine qn_then ?_
  refine wc_seq ?_
  refine wc_region ?_
  refine wl_v rfl rfl (ov_move _ rfl) ?_
  refine wl_v rfl rfl (ov_move _ rfl) ?_
  refine wl_v rfl rfl (ov_move _ rfl) ?_
  have hout_ := Pc.out_ok htw11 htw21 hk0_ hk1_ hk2_
  have hdel_ := ED.del_size hk0_ hk1_ hk2_
  refine wl_call _ rfl rfl rfl ent53 (TL.concat_calls (R := [Sx.blk g [.string (s1_), .slice (A1_) (L1_.length) (c1_), .pointer (Pc.AT.ptr T1_)] 68, Pc.rowl (Φ) 5 (A1_) (c1_) (L1_)] ++ R) (Φ15) T3 T14 (fun W_ z_ => hT7 W_ (hsub16 W_ z_)) hT18 hsb9 hsb20 (Pc.wf_sm hout_.1 (by rw [hout_.2.1, hdel_]; omega)) h) ?_
  rintro e_ w_ ⟨T25, Φ26, rfl, hsub27, hT28, ⟨hcf23, hcb24⟩, h⟩
  refine ⟨_, rfl, ?_⟩
  refine wl_v rfl rfl (ov_nilCheck _ rfl) ?_
  refine wl_v rfl rfl (ov_fieldAddr _ ⟨g, 2, none⟩ _ rfl fo68_2 rfl) ?_
  refine wl_storeb 1 _ [.string (s1_), .slice (A1_) (L1_.length) (c1_), .pointer (Pc.AT.ptr T25)] h rfl rfl rfl rfl rfl rfl sh66 rfl rfl (fun _ h => ?_)
  refine wl_nil ?_
  refine qn_then ?_
  refine wc_seq ?_
  refine wc_region ?_
  refine wl_v rfl rfl (ov_assign _ rfl) ?_
  refine wl_nil ?_
  refine qn_then ?_
  refine wc_ret ?_
  refine qn_ret [_] ⟨rfl, trivial⟩ ?_
  replace h := st_front 2 h
  replace h := Pc.rowl_weak (Ψ := Φ26) (fun W_ z_ => (hsub6 W_ (hsub16 W_ (hsub27 W_ z_)))) h
  replace h := st_front 1 h
  replace h := st_front 1 h
  replace h := st_front 2 h
  have ep_ : RD.pspan (Pc.cat s1_ L1_ (Pc.AT.fl T1_)) a b = 0 := by omega
  rw [ep_]
  exact ⟨_, _, Φ26, rfl, fun W_ z_ => (hsub6 W_ (hsub16 W_ (hsub27 W_ z_))), ⟨by unfold ED.delT; rw [if_pos ep_, Pc.catB_chs, hcf23, hout_.2.1], by rw [Pc.chs_len, hcf23]; have := hout_.2.2; omega⟩, Pc.tx_close (T := T25) rfl ⟨hT28, hcb24, by rw [hcf23]; exact hout_.1, ok1_.by_, rfl, rfl, ok1_.z0, ok1_.zL, by rw [hcf23, hout_.2.1, hdel_]; omega⟩ h⟩
end Go.Proofs.Ytieieindakbpoaa.ED
