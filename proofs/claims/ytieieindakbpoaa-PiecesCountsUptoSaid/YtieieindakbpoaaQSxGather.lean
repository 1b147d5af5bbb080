/- Pruned by wip/prune.py. -/
import Derived.Test.YtieieindakbpoaaProg
import Derived.Test.YtieieindakbpoaaQSxGlue
import Derived.Test.YtieieindakbpoaaQSxRanged
import Derived.Test.YtieieindakbpoaaQSxRange1
import Derived.Test.YtieieindakbpoaaQSxFlow
import Derived.Test.YtieieindakbpoaaQSxBytes
import Derived.Test.YtieieindakbpoaaQSxKinds
import Derived.Test.YtieieindakbpoaaQPcText
import Derived.Test.YtieieindakbpoaaQPcWalk
import Derived.Test.YtieieindakbpoaaQPcRead
import Derived.Test.YtieieindakbpoaaQSxTree
import Derived.Test.YtieieindakbpoaaQSxRunes
import Derived.Test.YtieieindakbpoaaQSxLast
import Derived.Test.YtieieindakbpoaaQSxWalk
import Derived.Test.YtieieindakbpoaaQSxChunks
import Derived.Test.YtieieindakbpoaaQPcTx
import Derived.Test.YtieieindakbpoaaQSxRead
import Derived.Test.YtieieindakbpoaaQSxSplitR
import Derived.Test.YtieieindakbpoaaQSxString
import Derived.Test.YtieieindakbpoaaQSxText
import Derived.Test.YtieieindakbpoaaQSxEdit
import Derived.Test.YtieieindakbpoaaQSxWhole
import Derived.Test.YtieieindakbpoaaQPcEdit
namespace Go.Proofs.Ytieieindakbpoaa.GA
open Go Go.RowKit Go.Proofs.YtieieindakbpoaaW.PrintWords Go.Proofs.Ytieieindakbpoaa.Kinds Go.Proofs.Ytieieindakbpoaa.Given Go.Proofs.Ytieieindakbpoaa.Rn Go.Proofs.Ytieieindakbpoaa.Sx Go.Proofs.Ytieieindakbpoaa.Pc 
set_option linter.unusedVariables false
set_option linter.unusedSimpArgs false
theorem fo89_4 : Sx.fieldOff Try.prog 89 4 = some 7 := by kernel_rfl
theorem sh3 : Sx.shapeOf Try.prog 3 = some (false, 1) := by kernel_rfl
theorem fo89_0 : Sx.fieldOff Try.prog 89 0 = some 0 := by kernel_rfl
theorem sh66 : Sx.shapeOf Try.prog 66 = some (false, 1) := by kernel_rfl
theorem ent39 : Sx.Ent Try.prog 39 := ⟨Try.f39, Try.func39, by kernel_rfl, by kernel_rfl⟩
theorem ent54 : Sx.Ent Try.prog 54 := ⟨Try.f54, Try.func54, by kernel_rfl, by kernel_rfl⟩
theorem fo89_2 : Sx.fieldOff Try.prog 89 2 = some 2 := by kernel_rfl
theorem fo77_2 : Sx.fieldOff Try.prog 77 2 = some 2 := by kernel_rfl
theorem sh77 : Sx.shapeOf Try.prog 77 = some (true, 4) := by kernel_rfl
theorem ent58 : Sx.Ent Try.prog 58 := ⟨Try.f58, Try.func58, by kernel_rfl, by kernel_rfl⟩
theorem inf5 : (Try.prog.info? 5).map (fun i => (i.zero, i.size, i.bytes)) = some (some (.int .u8 (0)), 1, 1) := by kernel_rfl
theorem fo89_1 : Sx.fieldOff Try.prog 89 1 = some 1 := by kernel_rfl
theorem ent52 : Sx.Ent Try.prog 52 := ⟨Try.f52, Try.func52, by kernel_rfl, by kernel_rfl⟩
theorem fo68_2 : Sx.fieldOff Try.prog 68 2 = some 2 := by kernel_rfl
/-- A part, told by places that may lie outside. -/
def part (C : ByteArray) (a b : Int) : ByteArray := C.extract a.toNat b.toNat
def rdT (C : ByteArray) (a b : Int) : ByteArray := if RD.pspan C a b = 0 then C.extract a.toNat b.toNat else ByteArray.empty
theorem part_none {C : ByteArray} {a b : Int} (h : b ≤ a ∨ b ≤ 0 ∨ (C.size : Int) ≤ a) : part C a b = ByteArray.empty := by
  refine Pc.size_zero ?_
  unfold part
  rw [ByteArray.size_extract]
  omega
theorem part_empty (a b : Int) : part ByteArray.empty a b = ByteArray.empty := by
  refine Pc.size_zero ?_
  unfold part
  rw [ByteArray.size_extract]
  show min b.toNat 0 - a.toNat = 0
  omega
theorem part_le (C : ByteArray) (a b : Int) : (part C a b).size ≤ C.size := by
  unfold part
  rw [ByteArray.size_extract]
  omega
theorem bt_ex (s : ByteArray) (a b i : Nat) (h : i + a < b) (h2 : i + a < s.size) : bt (s.extract a b) i = bt s ((i : Int) + (a : Int)) := by
  have e : s.extract a b = (s.extract a (min b s.size)) := by
    apply ByteArray.ext
    rw [ByteArray.data_extract, ByteArray.data_extract]
    apply Array.ext
    · rw [Array.size_extract, Array.size_extract]
      show min b s.size - a = min (min b s.size) s.size - a
      omega
    · intro j h1 h2
      rw [Array.getElem_extract, Array.getElem_extract]
  rw [e, bt_extract _ _ _ _ (by omega) (by omega) (by omega)]
theorem part_app (A B : ByteArray) (a b : Int) : part (A ++ B) a b = part A a b ++ part B (a - A.size) (b - A.size) := by
  unfold part
  refine Pc.ba_ext ?_ ?_
  · rw [ByteArray.size_append, ByteArray.size_extract, ByteArray.size_extract, ByteArray.size_extract, ByteArray.size_append]
    omega
  · intro i hi
    rw [ByteArray.size_extract, ByteArray.size_append] at hi
    by_cases c : (i : Int) < ((A.extract a.toNat b.toNat).size : Int)
    · have c2 := c
      rw [ByteArray.size_extract] at c2
      rw [bt_append_left _ _ _ (by omega) c, bt_ex _ _ _ _ (by omega) (by rw [ByteArray.size_append]; omega), bt_ex _ _ _ _ (by omega) (by omega), bt_append_left _ _ _ (by omega) (by omega)]
    · have c2 := c
      rw [ByteArray.size_extract] at c2
      rw [Pc.bt_right _ _ (by omega), bt_ex _ _ _ _ (by omega) (by rw [ByteArray.size_append]; omega), show (i : Int) - ((A.extract a.toNat b.toNat).size : Int) = ((i - (A.extract a.toNat b.toNat).size : Nat) : Int) by omega, bt_ex _ _ _ _ (by rw [ByteArray.size_extract]; omega) (by rw [ByteArray.size_extract]; omega), Pc.bt_right _ _ (by omega)]
      congr 1
      rw [ByteArray.size_extract]
      omega
theorem part_cut {s : ByteArray} {a b : Int} (h : max a 0 < min b s.size) : part s a b = s.extract (max a 0).toNat (min b s.size).toNat := by
  unfold part
  rw [show (max a 0).toNat = a.toNat by omega]
  refine Pc.ba_ext ?_ ?_
  · rw [ByteArray.size_extract, ByteArray.size_extract]; omega
  · intro i hi
    rw [ByteArray.size_extract] at hi
    rw [bt_ex _ _ _ _ (by omega) (by omega), bt_ex _ _ _ _ (by omega) (by omega)]
theorem part_dry {s : ByteArray} {a b : Int} (h : ¬ max a 0 < min b s.size) : part s a b = ByteArray.empty := by
  refine Pc.size_zero ?_
  unfold part
  rw [ByteArray.size_extract]
  omega
section
variable {s0 : ByteArray} {L : List Int}
theorem part_nd {l r : List Pc.P1} {p : Pc.P1} (hl : Pc.Wf s0 L l) (hp : Pc.WfP s0 L p) (a b : Int) :
    part (Pc.cat s0 L (l ++ p :: r)) a b = part (Pc.cat s0 L l) a b ++ (part (Pc.txP s0 L p) (a - Pc.szF l) (b - Pc.szF l) ++ part (Pc.cat s0 L r) (a - (Pc.szF l + p.f2)) (b - (Pc.szF l + p.f2))) := by
  have e1 := Pc.cat_size hl
  have e2 := Pc.tx_size hp
  rw [Pc.cat_app]
  simp only [Pc.cat]
  rw [part_app, part_app, e1, e2, show a - Pc.szF l - p.f2 = a - (Pc.szF l + p.f2) by omega, show b - Pc.szF l - p.f2 = b - (Pc.szF l + p.f2) by omega]
end
theorem bo_none : bytesOf ByteArray.empty = [] := rfl
set_option maxHeartbeats 4000000 in
set_option maxRecDepth 100000 in
theorem gather_step {w0 : World} {F0 : Nat → Prop} {R : List Sx.HP} (gt : Nat) (s0 : ByteArray) (A : Option Addr) (c : Nat) (L : List Int) (pr : Option Addr) (hz0 : s0.size ≤ 1000000) (hzL : L.length ≤ 1000000) (hlc : L.length ≤ c) (ht : ∀ cs_ w_, Sx.St w0 F0 (cs_ ++ R) w_ → ∀ j_, w_.cell? ⟨gt, j_, none⟩ = ([.string s0, .slice A L.length c, .pointer pr] : List Value)[j_]?) (hr : ∀ cs_ w_, Sx.St w0 F0 (cs_ ++ R) w_ → (Kd.int .u8).C w_ A L.length L) (M : Nat) (ih : ∀ {w : World} (T : Pc.AT) (Ao : Option Addr) (co : Nat) (O : List Int) (a b : Int) (hT : ∀ cs_ w_, Sx.St w0 F0 (cs_ ++ R) w_ → Pc.At w_ T) (hw : Pc.Wf s0 L (Pc.AT.fl T)) (hcz : (Pc.cat s0 L (Pc.AT.fl T)).size ≤ 1000000) (hO : O.length + (Pc.cat s0 L (Pc.AT.fl T)).size ≤ 2000000) (ha : ((Pc.cat s0 L (Pc.AT.fl T)).size : Int) - 1000000 ≤ a ∧ a ≤ 1000000000) (hb : ((Pc.cat s0 L (Pc.AT.fl T)).size : Int) - 1000000 ≤ b ∧ b ≤ 1000000000) (hM : Pc.AT.cnt T < M) (h : Sx.St w0 F0 ([Sx.row (Kd.int .u8) 5 (Ao) (co) (O)] ++ R) w), Calls Try.prog 54 #[.pointer (some ⟨gt, 0, none⟩), .slice Ao O.length co, .pointer (Pc.AT.ptr T), .int .i64 a, .int .i64 b] w (fun e w1 => ∃ A2 c2, e = .returned (.slice A2 (O ++ bytesOf (GA.part (Pc.cat s0 L (Pc.AT.fl T)) a b)).length c2) ∧ Sx.St w0 F0 ([Sx.row (Kd.int .u8) 5 (A2) (c2) (O ++ bytesOf (GA.part (Pc.cat s0 L (Pc.AT.fl T)) a b))] ++ R) w1)) {w : World} (T : Pc.AT) (Ao : Option Addr) (co : Nat) (O : List Int) (a b : Int) (hT : ∀ cs_ w_, Sx.St w0 F0 (cs_ ++ R) w_ → Pc.At w_ T) (hw : Pc.Wf s0 L (Pc.AT.fl T)) (hcz : (Pc.cat s0 L (Pc.AT.fl T)).size ≤ 1000000) (hO : O.length + (Pc.cat s0 L (Pc.AT.fl T)).size ≤ 2000000) (ha : ((Pc.cat s0 L (Pc.AT.fl T)).size : Int) - 1000000 ≤ a ∧ a ≤ 1000000000) (hb : ((Pc.cat s0 L (Pc.AT.fl T)).size : Int) - 1000000 ≤ b ∧ b ≤ 1000000000) (hM : Pc.AT.cnt T = M) (h : Sx.St w0 F0 ([Sx.row (Kd.int .u8) 5 (Ao) (co) (O)] ++ R) w) : Calls Try.prog 54 #[.pointer (some ⟨gt, 0, none⟩), .slice Ao O.length co, .pointer (Pc.AT.ptr T), .int .i64 a, .int .i64 b] w (fun e w1 => ∃ A2 c2, e = .returned (.slice A2 (O ++ bytesOf (GA.part (Pc.cat s0 L (Pc.AT.fl T)) a b)).length c2) ∧ Sx.St w0 F0 ([Sx.row (Kd.int .u8) 5 (A2) (c2) (O ++ bytesOf (GA.part (Pc.cat s0 L (Pc.AT.fl T)) a b))] ++ R) w1) := by
 refine Sx.calls_fn (vs := [.pointer (some ⟨gt, 0, none⟩), .slice (Ao) (O.length) (co), .pointer (Pc.AT.ptr T), .int .i64 (a), .int .i64 (b)]) Try.func54 rfl Try.ntmps54 rfl ?_
 refine wc_seq ?_
 refine wc_region ?_
 refine wl_v rfl rfl (ov_assign _ rfl) ?_
 refine wl_nil ?_
 refine qn_then ?_
 refine wc_seq ?_
 refine wc_seq ?_
 refine wc_region ?_
 refine wl_v rfl rfl (ov_move _ rfl) ?_
 refine wl_v rfl rfl (ov_bin _ rfl rfl (binR_eqnil Try.underlying66)) ?_
 refine wl_v rfl rfl (ov_move _ rfl) ?_
 refine wl_split 17 rfl (fun c1 => ?_) (fun c1 => ?_)
 ·
  obtain rfl := Pc.AT.ptr_none c1
  refine wl_skip rfl rfl ?_
  refine wl_skip rfl rfl ?_
  refine wl_skip rfl rfl ?_
  refine wl_v rfl rfl (ov_pick_true _ rfl rfl) ?_
  refine wl_v rfl rfl (ov_move _ rfl) ?_
  refine wl_skip rfl rfl ?_
  refine wl_skip rfl rfl ?_
  refine wl_v rfl rfl (ov_pick_true _ rfl rfl) ?_
  refine wl_v rfl rfl (ov_move _ rfl) ?_
  refine wl_skip rfl rfl ?_
  refine wl_skip rfl rfl ?_
  refine wl_skip rfl rfl ?_
  refine wl_skip rfl rfl ?_
  refine wl_skip rfl rfl ?_
  refine wl_skip rfl rfl ?_
  refine wl_v rfl rfl (ov_pick_true _ rfl rfl) ?_
  refine wl_nil ?_
  refine qn_then ?_
  refine wc_cond_true rfl ?_
  refine wc_seq ?_
  refine wc_region ?_
  refine wl_v rfl rfl (ov_move _ rfl) ?_
  refine wl_v rfl rfl (ov_assign _ rfl) ?_
  refine wl_nil ?_
  refine qn_then ?_
  refine wc_ret ?_
  refine qn_then_ret ?_
  have e_ : O ++ bytesOf (GA.part (Pc.cat s0 L (Pc.AT.fl Pc.AT.nil)) a b) = O := by
    show O ++ bytesOf (GA.part ByteArray.empty a b) = O
    rw [GA.part_empty]
    exact List.append_nil O
  rw [e_]
  refine qn_ret [_] ⟨rfl, trivial⟩ ?_
  exact ⟨_, _, rfl, h⟩
 ·
  obtain ⟨g2, tl3, tp4, tr5, rfl⟩ := Pc.AT.ptr_some c1
  obtain ⟨hw1_, hw2_, hw3_, hw4_⟩ := Pc.nd_facts hw
  have hcn_ : Pc.AT.cnt (Pc.AT.nd g2 tl3 tp4 tr5) = Pc.AT.cnt tl3 + 1 + Pc.AT.cnt tr5 := rfl
  have hz1_ := Pc.cat_size hw1_
  have hz2_ := Pc.tx_size hw2_
  have hz3_ := Pc.cat_size hw3_
  have hfl_ : Pc.AT.fl (Pc.AT.nd g2 tl3 tp4 tr5) = Pc.AT.fl tl3 ++ tp4 :: Pc.AT.fl tr5 := rfl
  have hpn_ := GA.part_nd (r := Pc.AT.fl tr5) hw1_ hw2_ a b
  rw [← hfl_] at hpn_
  have hf1_ := hw2_.f1
  refine wl_v rfl rfl (ov_move _ rfl) ?_
  refine wl_v rfl rfl (ov_move _ rfl) ?_
  refine wl_v rfl rfl (ov_bin _ rfl rfl (binR_geq)) ?_
  refine wl_v rfl rfl (ov_pick_false _ rfl rfl) ?_
  refine wl_v rfl rfl (ov_move _ rfl) ?_
  refine wl_split 22 rfl (fun c6 => ?_) (fun c6 => ?_)
  ·
   refine wl_skip rfl rfl ?_
   refine wl_skip rfl rfl ?_
   refine wl_v rfl rfl (ov_pick_true _ rfl rfl) ?_
   refine wl_v rfl rfl (ov_move _ rfl) ?_
   refine wl_skip rfl rfl ?_
   refine wl_skip rfl rfl ?_
   refine wl_skip rfl rfl ?_
   refine wl_skip rfl rfl ?_
   refine wl_skip rfl rfl ?_
   refine wl_skip rfl rfl ?_
   refine wl_v rfl rfl (ov_pick_true _ rfl rfl) ?_
   refine wl_nil ?_
   refine qn_then ?_
   refine wc_cond_true rfl ?_
   refine wc_seq ?_
   refine wc_region ?_
   refine wl_v rfl rfl (ov_move _ rfl) ?_
   refine wl_v rfl rfl (ov_assign _ rfl) ?_
   refine wl_nil ?_
   refine qn_then ?_
   refine wc_ret ?_
   refine qn_then_ret ?_
   have e_ : O ++ bytesOf (GA.part (Pc.cat s0 L (Pc.AT.fl (Pc.AT.nd g2 tl3 tp4 tr5))) a b) = O := by
     rw [GA.part_none (by first | (right; right; rw [Pc.cat_size hw]; simp only [Pc.AT.fl, Pc.szF_app, Pc.szF_cons, Pc.szF_nil]; omega) | (right; right; show (0 : Int) ≤ a; omega) | omega)]
     exact List.append_nil O
   rw [e_]
   refine qn_ret [_] ⟨rfl, trivial⟩ ?_
   exact ⟨_, _, rfl, h⟩
  ·
   refine wl_v rfl rfl (ov_move _ rfl) ?_
   refine wl_v rfl rfl (ov_bin _ rfl rfl (binR_leq)) ?_
   refine wl_v rfl rfl (ov_pick_false _ rfl rfl) ?_
   refine wl_v rfl rfl (ov_move _ rfl) ?_
   refine wl_split 26 rfl (fun c7 => ?_) (fun c7 => ?_)
   ·
    refine wl_skip rfl rfl ?_
    refine wl_skip rfl rfl ?_
    refine wl_skip rfl rfl ?_
    refine wl_skip rfl rfl ?_
    refine wl_skip rfl rfl ?_
    refine wl_skip rfl rfl ?_
    refine wl_v rfl rfl (ov_pick_true _ rfl rfl) ?_
    refine wl_nil ?_
    refine qn_then ?_
    refine wc_cond_true rfl ?_
    refine wc_seq ?_
    refine wc_region ?_
    refine wl_v rfl rfl (ov_move _ rfl) ?_
    refine wl_v rfl rfl (ov_assign _ rfl) ?_
    refine wl_nil ?_
    refine qn_then ?_
    refine wc_ret ?_
    refine qn_then_ret ?_
    have e_ : O ++ bytesOf (GA.part (Pc.cat s0 L (Pc.AT.fl (Pc.AT.nd g2 tl3 tp4 tr5))) a b) = O := by
      rw [GA.part_none (by first | (right; right; rw [Pc.cat_size hw]; simp only [Pc.AT.fl, Pc.szF_app, Pc.szF_cons, Pc.szF_nil]; omega) | (right; right; show (0 : Int) ≤ a; omega) | omega)]
      exact List.append_nil O
    rw [e_]
    refine qn_ret [_] ⟨rfl, trivial⟩ ?_
    exact ⟨_, _, rfl, h⟩
   ·
    refine wl_v rfl rfl (ov_move _ rfl) ?_
    refine wl_v rfl rfl (ov_move _ rfl) ?_
    refine wl_v rfl rfl (ov_nilCheck _ rfl) ?_
    refine wl_v rfl rfl (ov_fieldAddr _ ⟨g2, 7, none⟩ _ rfl fo89_4 rfl) ?_
    refine wl_v rfl rfl (ov_load1 ⟨g2, 7, none⟩ _ rfl sh3 (((Pc.at_cell (hT [_] _ h)) 7).trans rfl)) ?_
    refine wl_v rfl rfl (ov_bin _ rfl rfl (binR_geq)) ?_
    refine wl_v rfl rfl (ov_pick_false _ rfl rfl) ?_
    refine wl_nil ?_
    refine qn_then ?_
    refine wc_cond (by rfl) (fun c8 => ?_) (fun c8 => ?_)
    ·
     refine wc_seq ?_
     refine wc_region ?_
     refine wl_v rfl rfl (ov_move _ rfl) ?_
     refine wl_v rfl rfl (ov_assign _ rfl) ?_
     refine wl_nil ?_
     refine qn_then ?_
     refine wc_ret ?_
     refine qn_then_ret ?_
     have e_ : O ++ bytesOf (GA.part (Pc.cat s0 L (Pc.AT.fl (Pc.AT.nd g2 tl3 tp4 tr5))) a b) = O := by
       rw [GA.part_none (by first | (right; right; rw [Pc.cat_size hw]; simp only [Pc.AT.fl, Pc.szF_app, Pc.szF_cons, Pc.szF_nil]; omega) | (right; right; show (0 : Int) ≤ a; omega) | omega)]
       exact List.append_nil O
     rw [e_]
     refine qn_ret [_] ⟨rfl, trivial⟩ ?_
     exact ⟨_, _, rfl, h⟩
    ·
     refine wc_skip ?_
     refine qn_then ?_
     refine wc_seq ?_
     refine wc_region ?_
     refine wl_v rfl rfl (ov_move _ rfl) ?_
     refine wl_v rfl rfl (ov_nilCheck _ rfl) ?_
     refine wl_v rfl rfl (ov_fieldAddr _ ⟨g2, 0, none⟩ _ rfl fo89_0 rfl) ?_
     refine wl_v rfl rfl (ov_load1 ⟨g2, 0, none⟩ _ rfl sh66 (((Pc.at_cell (hT [_] _ h)) 0).trans rfl)) ?_
     refine wl_call _ rfl rfl rfl ent39 (RD.nbytes_calls (R := [Sx.row (Kd.int .u8) 5 (Ao) (co) (O)] ++ R) tl3 (Pc.en_shift (cs2 := [Sx.row (Kd.int .u8) 5 (Ao) (co) (O)]) (fun cs_ w_ h_ => (hT cs_ w_ h_).2.1)) h) ?_
     rintro e_ w_ ⟨rfl, h⟩
     refine ⟨_, rfl, ?_⟩
     refine wl_v rfl rfl (ov_assign _ rfl) ?_
     refine wl_nil ?_
     refine qn_then ?_
     refine wc_seq ?_
     refine wc_region ?_
     refine wl_v rfl rfl (ov_move _ rfl) ?_
     refine wl_v rfl rfl (ov_move _ rfl) ?_
     refine wl_v rfl rfl (ov_move _ rfl) ?_
     refine wl_v rfl rfl (ov_nilCheck _ rfl) ?_
     refine wl_v rfl rfl (ov_fieldAddr _ ⟨g2, 0, none⟩ _ rfl fo89_0 rfl) ?_
     refine wl_v rfl rfl (ov_load1 ⟨g2, 0, none⟩ _ rfl sh66 (((Pc.at_cell (hT [_] _ h)) 0).trans rfl)) ?_
     refine wl_v rfl rfl (ov_move _ rfl) ?_
     refine wl_v rfl rfl (ov_move _ rfl) ?_
     refine wl_call _ rfl rfl rfl ent54 (ih tl3 (Ao) (co) (O) (a) (b) (fun cs_ w_ h_ => (hT cs_ w_ h_).2.1) hw1_ (by omega) (by omega) (by omega) (by omega) (by omega) h) ?_
     rintro e_ w_ ⟨A9, cp10, rfl, h⟩
     refine ⟨_, rfl, ?_⟩
     refine wl_v rfl rfl (ov_assign _ rfl) ?_
     refine wl_nil ?_
     refine qn_then ?_
     refine wc_seq ?_
     refine wc_draw (fun w => Sx.St w0 F0 ([Sx.row (Kd.int .u8) 5 (A9) (cp10) (O ++ bytesOf (GA.part (Pc.cat s0 L (Pc.AT.fl tl3)) (a) (b)))] ++ R) w) (by kernel_rfl) ?_
     replace h := st_drew h
     refine wa_tk 0 rfl rfl rfl (st_selT [true] h) (fun w_ hS => ov_move _ rfl) ?_
     refine wa_tk 1 rfl rfl rfl (st_selT [true] h) (fun w_ hS => ov_move _ rfl) ?_
     refine wa_tk 2 rfl rfl rfl (st_selT [true] h) (fun w_ hS => ov_bin _ rfl rfl (binR_sub (r := a - (Pc.szF (Pc.AT.fl tl3))) (Sx.w64 (by omega)))) ?_
     refine wa_tk 3 rfl rfl rfl (st_selT [true] h) (fun w_ hS => ov_max _ _ _ (max (a - (Pc.szF (Pc.AT.fl tl3))) 0) rfl rfl rfl) ?_
     refine wa_tk 4 rfl rfl rfl (st_selT [true] h) (fun w_ hS => ov_move _ rfl) ?_
     refine wa_tk 5 rfl rfl rfl (st_selT [true] h) (fun w_ hS => ov_move _ rfl) ?_
     refine wa_tk 6 rfl rfl rfl (st_selT [true] h) (fun w_ hS => ov_bin _ rfl rfl (binR_sub (r := b - (Pc.szF (Pc.AT.fl tl3))) (Sx.w64 (by omega)))) ?_
     refine wa_tk 7 rfl rfl rfl (st_selT [true] h) (fun w_ hS => ov_move _ rfl) ?_
     refine wa_tk 8 rfl rfl rfl (st_selT [true] h) (fun w_ hS => ov_nilCheck _ rfl) ?_
     refine wa_tk 9 rfl rfl rfl (st_selT [true] h) (fun w_ hS => ov_fieldAddr _ ⟨g2, 2, none⟩ _ rfl fo89_2 rfl) ?_
     refine wa_tk 10 rfl rfl rfl (st_selT [true] h) (fun w_ hS => ov_fieldAddr _ ⟨g2, 4, none⟩ _ rfl fo77_2 rfl) ?_
     refine wa_tk 11 rfl rfl rfl (st_selT [true] h) (fun w_ hS => ov_load1 ⟨g2, 4, none⟩ _ rfl sh3 (((Pc.at_cell (hT [_] _ hS)) 4).trans rfl)) ?_
     refine wa_tk 12 rfl rfl rfl (st_selT [true] h) (fun w_ hS => ov_min _ _ _ (min (b - (Pc.szF (Pc.AT.fl tl3))) ((tp4).f2)) rfl rfl rfl) ?_
     refine wa_tk 13 rfl rfl rfl (st_selT [true] h) (fun w_ hS => ov_assign _ rfl) ?_
     refine wa_tk 14 rfl rfl rfl (st_selT [true] h) (fun w_ hS => ov_assign _ rfl) ?_
     refine wa_done (by kernel_rfl) ?_
     refine qn_then ?_
     refine wc_seq ?_
     refine wc_seq ?_
     refine wc_region ?_
     refine wl_v rfl rfl (ov_move _ rfl) ?_
     refine wl_v rfl rfl (ov_move _ rfl) ?_
     refine wl_v rfl rfl (ov_bin _ rfl rfl (binR_lss)) ?_
     refine wl_nil ?_
     refine qn_then ?_
     refine wc_cond (by rfl) (fun c11 => ?_) (fun c11 => ?_)
     ·
      refine wc_region ?_
      refine wl_v rfl rfl (ov_move _ rfl) ?_
      refine wl_v rfl rfl (ov_move _ rfl) ?_
      refine wl_v rfl rfl (ov_move _ rfl) ?_
      refine wl_v rfl rfl (ov_nilCheck _ rfl) ?_
      refine wl_v rfl rfl (ov_fieldAddr _ ⟨g2, 2, none⟩ _ rfl fo89_2 rfl) ?_
      refine wl_v rfl rfl (ov_loadN ⟨g2, 2, none⟩ [.bool ((tp4).f0), .int .i64 ((tp4).f1), .int .i64 ((tp4).f2), .int .i64 ((tp4).f3)] rfl sh77 (Sx.rob_cells ((Pc.at_cell (hT [_] _ h))) 2 rfl)) ?_
      refine wl_call _ rfl rfl rfl ent58 (TW.textR_calls (R := [Sx.row (Kd.int .u8) 5 (A9) (cp10) (O ++ bytesOf (GA.part (Pc.cat s0 L (Pc.AT.fl tl3)) (a) (b)))] ++ R) gt s0 A c L pr tp4 hz0 hzL (Pc.wf_bd hw2_) hlc (Pc.en_shift (cs2 := [Sx.row (Kd.int .u8) 5 (A9) (cp10) (O ++ bytesOf (GA.part (Pc.cat s0 L (Pc.AT.fl tl3)) (a) (b)))]) ht) (Pc.en_shift (cs2 := [Sx.row (Kd.int .u8) 5 (A9) (cp10) (O ++ bytesOf (GA.part (Pc.cat s0 L (Pc.AT.fl tl3)) (a) (b)))]) hr) h) ?_
      rintro e_ w_ ⟨rfl, h⟩
      refine ⟨_, rfl, ?_⟩
      refine wl_v rfl rfl (ov_move _ rfl) ?_
      refine wl_v rfl rfl (ov_move _ rfl) ?_
      refine wl_v rfl rfl (ov_slices _ ((max (a - (Pc.szF (Pc.AT.fl tl3))) 0 : Int).toNat) ((min (b - (Pc.szF (Pc.AT.fl tl3))) ((tp4).f2) : Int).toNat) (by rfl) (by exact ⟨_, _, rfl, (by omega)⟩) (by exact ⟨_, _, rfl, (by omega)⟩) Try.underlying9 (by omega) (by omega)) ?_
      refine wl_appends (L := O ++ bytesOf (GA.part (Pc.cat s0 L (Pc.AT.fl tl3)) (a) (b))) 0 _ h rfl rfl rfl rfl rfl Try.underlying41 Try.underlying9 inf5 (by first | omega | (simp only [List.length_append, bytesOf_length, ByteArray.size_extract]; have q_ := GA.part_le (Pc.cat s0 L (Pc.AT.fl T)) a b; omega) | (simp only [List.length_append, bytesOf_length, ByteArray.size_extract, GA.part]; omega)) (by first | rfl | simp) (fun A12 cp13 _ h => ?_)
      refine wl_v rfl rfl (ov_assign _ rfl) ?_
      refine wl_nil ?_
      refine qn_then ?_
      refine wc_seq ?_
      refine wc_region ?_
      refine wl_v rfl rfl (ov_move _ rfl) ?_
      refine wl_v rfl rfl (ov_move _ rfl) ?_
      refine wl_v rfl rfl (ov_nilCheck _ rfl) ?_
      refine wl_v rfl rfl (ov_fieldAddr _ ⟨g2, 2, none⟩ _ rfl fo89_2 rfl) ?_
      refine wl_v rfl rfl (ov_fieldAddr _ ⟨g2, 4, none⟩ _ rfl fo77_2 rfl) ?_
      refine wl_v rfl rfl (ov_load1 ⟨g2, 4, none⟩ _ rfl sh3 (((Pc.at_cell (hT [_] _ h)) 4).trans rfl)) ?_
      refine wl_v rfl rfl (ov_bin _ rfl rfl (binR_add (r := (Pc.szF (Pc.AT.fl tl3)) + ((tp4).f2)) (Sx.w64 (by omega)))) ?_
      refine wl_v rfl rfl (ov_assign _ rfl) ?_
      refine wl_nil ?_
      refine qn_then ?_
      refine wc_seq ?_
      refine wc_region ?_
      refine wl_v rfl rfl (ov_move _ rfl) ?_
      refine wl_v rfl rfl (ov_move _ rfl) ?_
      refine wl_v rfl rfl (ov_move _ rfl) ?_
      refine wl_v rfl rfl (ov_nilCheck _ rfl) ?_
      refine wl_v rfl rfl (ov_fieldAddr _ ⟨g2, 1, none⟩ _ rfl fo89_1 rfl) ?_
      refine wl_v rfl rfl (ov_load1 ⟨g2, 1, none⟩ _ rfl sh66 (((Pc.at_cell (hT [_] _ h)) 1).trans rfl)) ?_
      refine wl_v rfl rfl (ov_move _ rfl) ?_
      refine wl_v rfl rfl (ov_move _ rfl) ?_
      refine wl_v rfl rfl (ov_bin _ rfl rfl (binR_sub (r := a - ((Pc.szF (Pc.AT.fl tl3)) + ((tp4).f2))) (Sx.w64 (by omega)))) ?_
      refine wl_v rfl rfl (ov_move _ rfl) ?_
      refine wl_v rfl rfl (ov_move _ rfl) ?_
      refine wl_v rfl rfl (ov_bin _ rfl rfl (binR_sub (r := b - ((Pc.szF (Pc.AT.fl tl3)) + ((tp4).f2))) (Sx.w64 (by omega)))) ?_
      have hpl_ := GA.part_le (Pc.cat s0 L (Pc.AT.fl tl3)) a b
      have hol_ : ((O ++ bytesOf (GA.part (Pc.cat s0 L (Pc.AT.fl tl3)) (a) (b))) ++ bytesOf ((Pc.txP s0 L tp4).extract ((max (a - (Pc.szF (Pc.AT.fl tl3))) 0 : Int).toNat) ((min (b - (Pc.szF (Pc.AT.fl tl3))) ((tp4).f2) : Int).toNat))).length ≤ O.length + (Pc.cat s0 L (Pc.AT.fl tl3)).size + (Pc.txP s0 L tp4).size := by simp only [List.length_append, bytesOf_length, ByteArray.size_extract]; omega
      refine wl_call _ rfl rfl rfl ent54 (ih tr5 (A12) (cp13) ((O ++ bytesOf (GA.part (Pc.cat s0 L (Pc.AT.fl tl3)) (a) (b))) ++ bytesOf ((Pc.txP s0 L tp4).extract ((max (a - (Pc.szF (Pc.AT.fl tl3))) 0 : Int).toNat) ((min (b - (Pc.szF (Pc.AT.fl tl3))) ((tp4).f2) : Int).toNat))) (a - ((Pc.szF (Pc.AT.fl tl3)) + ((tp4).f2))) (b - ((Pc.szF (Pc.AT.fl tl3)) + ((tp4).f2))) (fun cs_ w_ h_ => (hT cs_ w_ h_).2.2) hw3_ (by omega) (by omega) (by omega) (by omega) (by omega) h) ?_
      rintro e_ w_ ⟨A14, cp15, rfl, h⟩
      refine ⟨_, rfl, ?_⟩
      refine wl_v rfl rfl (ov_assign _ rfl) ?_
      refine wl_nil ?_
      refine qn_then ?_
      refine wc_ret ?_
      have e_ : ((O ++ bytesOf (GA.part (Pc.cat s0 L (Pc.AT.fl tl3)) (a) (b))) ++ bytesOf ((Pc.txP s0 L tp4).extract ((max (a - (Pc.szF (Pc.AT.fl tl3))) 0 : Int).toNat) ((min (b - (Pc.szF (Pc.AT.fl tl3))) ((tp4).f2) : Int).toNat))) ++ bytesOf (GA.part (Pc.cat s0 L (Pc.AT.fl tr5)) (a - ((Pc.szF (Pc.AT.fl tl3)) + ((tp4).f2))) (b - ((Pc.szF (Pc.AT.fl tl3)) + ((tp4).f2)))) = O ++ bytesOf (GA.part (Pc.cat s0 L (Pc.AT.fl (Pc.AT.nd g2 tl3 tp4 tr5))) a b) := by
        rw [hpn_, GA.part_cut (s := Pc.txP s0 L tp4) (by omega), hz2_]
        simp only [Pc.bo_app, List.append_assoc]
      rw [← e_]
      refine qn_ret [_] ⟨rfl, trivial⟩ ?_
      exact ⟨_, _, rfl, h⟩
     ·
      refine wc_skip ?_
      refine qn_then ?_
      refine wc_seq ?_
      refine wc_region ?_
      refine wl_v rfl rfl (ov_move _ rfl) ?_
      refine wl_v rfl rfl (ov_move _ rfl) ?_
      refine wl_v rfl rfl (ov_nilCheck _ rfl) ?_
      refine wl_v rfl rfl (ov_fieldAddr _ ⟨g2, 2, none⟩ _ rfl fo89_2 rfl) ?_
      refine wl_v rfl rfl (ov_fieldAddr _ ⟨g2, 4, none⟩ _ rfl fo77_2 rfl) ?_
      refine wl_v rfl rfl (ov_load1 ⟨g2, 4, none⟩ _ rfl sh3 (((Pc.at_cell (hT [_] _ h)) 4).trans rfl)) ?_
      refine wl_v rfl rfl (ov_bin _ rfl rfl (binR_add (r := (Pc.szF (Pc.AT.fl tl3)) + ((tp4).f2)) (Sx.w64 (by omega)))) ?_
      refine wl_v rfl rfl (ov_assign _ rfl) ?_
      refine wl_nil ?_
      refine qn_then ?_
      refine wc_seq ?_
      refine wc_region ?_
      refine wl_v rfl rfl (ov_move _ rfl) ?_
      refine wl_v rfl rfl (ov_move _ rfl) ?_
      refine wl_v rfl rfl (ov_move _ rfl) ?_
      refine wl_v rfl rfl (ov_nilCheck _ rfl) ?_
      refine wl_v rfl rfl (ov_fieldAddr _ ⟨g2, 1, none⟩ _ rfl fo89_1 rfl) ?_
      refine wl_v rfl rfl (ov_load1 ⟨g2, 1, none⟩ _ rfl sh66 (((Pc.at_cell (hT [_] _ h)) 1).trans rfl)) ?_
      refine wl_v rfl rfl (ov_move _ rfl) ?_
      refine wl_v rfl rfl (ov_move _ rfl) ?_
      refine wl_v rfl rfl (ov_bin _ rfl rfl (binR_sub (r := a - ((Pc.szF (Pc.AT.fl tl3)) + ((tp4).f2))) (Sx.w64 (by omega)))) ?_
      refine wl_v rfl rfl (ov_move _ rfl) ?_
      refine wl_v rfl rfl (ov_move _ rfl) ?_
      refine wl_v rfl rfl (ov_bin _ rfl rfl (binR_sub (r := b - ((Pc.szF (Pc.AT.fl tl3)) + ((tp4).f2))) (Sx.w64 (by omega)))) ?_
      have hpl_ := GA.part_le (Pc.cat s0 L (Pc.AT.fl tl3)) a b
      have hol_ : (O ++ bytesOf (GA.part (Pc.cat s0 L (Pc.AT.fl tl3)) (a) (b))).length ≤ O.length + (Pc.cat s0 L (Pc.AT.fl tl3)).size + (Pc.txP s0 L tp4).size := by simp only [List.length_append, bytesOf_length, ByteArray.size_extract]; omega
      refine wl_call _ rfl rfl rfl ent54 (ih tr5 (A9) (cp10) (O ++ bytesOf (GA.part (Pc.cat s0 L (Pc.AT.fl tl3)) (a) (b))) (a - ((Pc.szF (Pc.AT.fl tl3)) + ((tp4).f2))) (b - ((Pc.szF (Pc.AT.fl tl3)) + ((tp4).f2))) (fun cs_ w_ h_ => (hT cs_ w_ h_).2.2) hw3_ (by omega) (by omega) (by omega) (by omega) (by omega) h) ?_
      rintro e_ w_ ⟨A16, cp17, rfl, h⟩
      refine ⟨_, rfl, ?_⟩
      refine wl_v rfl rfl (ov_assign _ rfl) ?_
      refine wl_nil ?_
      refine qn_then ?_
      refine wc_ret ?_
      have e_ : (O ++ bytesOf (GA.part (Pc.cat s0 L (Pc.AT.fl tl3)) (a) (b))) ++ bytesOf (GA.part (Pc.cat s0 L (Pc.AT.fl tr5)) (a - ((Pc.szF (Pc.AT.fl tl3)) + ((tp4).f2))) (b - ((Pc.szF (Pc.AT.fl tl3)) + ((tp4).f2)))) = O ++ bytesOf (GA.part (Pc.cat s0 L (Pc.AT.fl (Pc.AT.nd g2 tl3 tp4 tr5))) a b) := by
        rw [hpn_, GA.part_dry (s := Pc.txP s0 L tp4) (by omega)]
        simp only [Pc.bo_app, List.append_assoc, GA.bo_none, List.nil_append]
      rw [← e_]
      refine qn_ret [_] ⟨rfl, trivial⟩ ?_
      exact ⟨_, _, rfl, h⟩
theorem gather_calls {w0 : World} {F0 : Nat → Prop} {R : List Sx.HP} (gt : Nat) (s0 : ByteArray) (A : Option Addr) (c : Nat) (L : List Int) (pr : Option Addr) (hz0 : s0.size ≤ 1000000) (hzL : L.length ≤ 1000000) (hlc : L.length ≤ c) (ht : ∀ cs_ w_, Sx.St w0 F0 (cs_ ++ R) w_ → ∀ j_, w_.cell? ⟨gt, j_, none⟩ = ([.string s0, .slice A L.length c, .pointer pr] : List Value)[j_]?) (hr : ∀ cs_ w_, Sx.St w0 F0 (cs_ ++ R) w_ → (Kd.int .u8).C w_ A L.length L) {w : World} (T : Pc.AT) (Ao : Option Addr) (co : Nat) (O : List Int) (a b : Int) (hT : ∀ cs_ w_, Sx.St w0 F0 (cs_ ++ R) w_ → Pc.At w_ T) (hw : Pc.Wf s0 L (Pc.AT.fl T)) (hcz : (Pc.cat s0 L (Pc.AT.fl T)).size ≤ 1000000) (hO : O.length + (Pc.cat s0 L (Pc.AT.fl T)).size ≤ 2000000) (ha : ((Pc.cat s0 L (Pc.AT.fl T)).size : Int) - 1000000 ≤ a ∧ a ≤ 1000000000) (hb : ((Pc.cat s0 L (Pc.AT.fl T)).size : Int) - 1000000 ≤ b ∧ b ≤ 1000000000) (h : Sx.St w0 F0 ([Sx.row (Kd.int .u8) 5 (Ao) (co) (O)] ++ R) w) : Calls Try.prog 54 #[.pointer (some ⟨gt, 0, none⟩), .slice Ao O.length co, .pointer (Pc.AT.ptr T), .int .i64 a, .int .i64 b] w (fun e w1 => ∃ A2 c2, e = .returned (.slice A2 (O ++ bytesOf (GA.part (Pc.cat s0 L (Pc.AT.fl T)) a b)).length c2) ∧ Sx.St w0 F0 ([Sx.row (Kd.int .u8) 5 (A2) (c2) (O ++ bytesOf (GA.part (Pc.cat s0 L (Pc.AT.fl T)) a b))] ++ R) w1) := by
  have key : ∀ (M : Nat) {w : World} (T : Pc.AT) (Ao : Option Addr) (co : Nat) (O : List Int) (a b : Int) (hT : ∀ cs_ w_, Sx.St w0 F0 (cs_ ++ R) w_ → Pc.At w_ T) (hw : Pc.Wf s0 L (Pc.AT.fl T)) (hcz : (Pc.cat s0 L (Pc.AT.fl T)).size ≤ 1000000) (hO : O.length + (Pc.cat s0 L (Pc.AT.fl T)).size ≤ 2000000) (ha : ((Pc.cat s0 L (Pc.AT.fl T)).size : Int) - 1000000 ≤ a ∧ a ≤ 1000000000) (hb : ((Pc.cat s0 L (Pc.AT.fl T)).size : Int) - 1000000 ≤ b ∧ b ≤ 1000000000) (hM : Pc.AT.cnt T < M) (h : Sx.St w0 F0 ([Sx.row (Kd.int .u8) 5 (Ao) (co) (O)] ++ R) w), Calls Try.prog 54 #[.pointer (some ⟨gt, 0, none⟩), .slice Ao O.length co, .pointer (Pc.AT.ptr T), .int .i64 a, .int .i64 b] w (fun e w1 => ∃ A2 c2, e = .returned (.slice A2 (O ++ bytesOf (GA.part (Pc.cat s0 L (Pc.AT.fl T)) a b)).length c2) ∧ Sx.St w0 F0 ([Sx.row (Kd.int .u8) 5 (A2) (c2) (O ++ bytesOf (GA.part (Pc.cat s0 L (Pc.AT.fl T)) a b))] ++ R) w1) := by
    intro M
    induction M with
    | zero => intro w T Ao co O a b hT hw hcz hO ha hb hM h; omega
    | succ M ih =>
      intro w T Ao co O a b hT hw hcz hO ha hb hM h
      exact gather_step gt s0 A c L pr hz0 hzL hlc ht hr (Pc.AT.cnt T) (fun T2 Ao2 co2 O2 a2 b2 q1 q2 q3 q4 q5 q6 q7 q8 => ih T2 Ao2 co2 O2 a2 b2 q1 q2 q3 q4 q5 q6 (by omega) q8) T Ao co O a b hT hw hcz hO ha hb rfl h
  exact key (Pc.AT.cnt T + 1) T Ao co O a b hT hw hcz hO ha hb (by omega) h
set_option maxHeartbeats 4000000 in
set_option maxRecDepth 100000 in
theorem Read_calls {w0 w : World} {F0 : Nat → Prop} {R : List Sx.HP} (gt : Nat) (s0 : ByteArray) (A : Option Addr) (c : Nat) (L : List Int) (T : Pc.AT) (a b : Int) (hz0 : s0.size ≤ 1000000) (hzL : L.length ≤ 1000000) (hlc : L.length ≤ c) (hb : Pc.Bytes L) (hw : Pc.Wf s0 L (Pc.AT.fl T)) (hcz : (Pc.cat s0 L (Pc.AT.fl T)).size ≤ 1000000) (ht : ∀ cs_ w_, Sx.St w0 F0 (cs_ ++ R) w_ → ∀ j_, w_.cell? ⟨gt, j_, none⟩ = ([.string s0, .slice A L.length c, .pointer (Pc.AT.ptr T)] : List Value)[j_]?) (hr : ∀ cs_ w_, Sx.St w0 F0 (cs_ ++ R) w_ → (Kd.int .u8).C w_ A L.length L) (hT : ∀ cs_ w_, Sx.St w0 F0 (cs_ ++ R) w_ → Pc.At w_ T)  (h : Sx.St w0 F0 ([] ++ R) w) : Calls Try.prog 29 #[.pointer (some ⟨gt, 0, none⟩), .int .i64 (a), .int .i64 (b)] w (fun e w1 => e = .returned (.tuple #[.string (GA.rdT (Pc.cat s0 L (Pc.AT.fl T)) a b), .int .i64 (RD.pspan (Pc.cat s0 L (Pc.AT.fl T)) a b)]) ∧ Sx.St w0 F0 ([] ++ R) w1) := by
 have hcs_ := Pc.cat_size hw
 refine Sx.calls_fn (vs := [.pointer (some ⟨gt, 0, none⟩), .int .i64 (a), .int .i64 (b)]) Try.func29 rfl Try.ntmps29 rfl ?_
 refine wc_seq ?_
 refine wc_region ?_
 refine wl_v rfl rfl (ov_assign _ rfl) ?_
 refine wl_v rfl rfl (ov_assign _ rfl) ?_
 refine wl_nil ?_
 refine qn_then ?_
 refine wc_seq ?_
 refine wc_seq ?_
 refine wc_region ?_
 refine wl_v rfl rfl (ov_move _ rfl) ?_
 refine wl_v rfl rfl (ov_move _ rfl) ?_
 refine wl_v rfl rfl (ov_move _ rfl) ?_
 refine wl_call _ rfl rfl rfl ent52 (RD.span_calls (R := [] ++ R) gt s0 A c L T (a) (b) hz0 hzL hlc hb hw hcz ht hr hT  h) ?_
 rintro e_ w_ ⟨rfl, h⟩
 refine ⟨_, rfl, ?_⟩
 refine wl_v rfl rfl (ov_assign _ rfl) ?_
 refine wl_nil ?_
 refine qn_then ?_
 refine wc_seq ?_
 refine wc_region ?_
 refine wl_v rfl rfl (ov_move _ rfl) ?_
 refine wl_v rfl rfl (ov_bin _ rfl rfl (binR_neq)) ?_
 refine wl_nil ?_
 refine qn_then ?_
 refine wc_cond (by rfl) (fun c1 => ?_) (fun c1 => ?_)
 ·
  refine wc_seq ?_
  refine wc_region ?_
  refine wl_v rfl rfl (ov_move _ rfl) ?_
  refine wl_v rfl rfl (ov_assign _ rfl) ?_
  refine wl_v rfl rfl (ov_assign _ rfl) ?_
  refine wl_nil ?_
  refine qn_then ?_
  refine wc_ret ?_
  refine qn_then_ret ?_
  refine qn_ret [_, _] ⟨rfl, rfl, trivial⟩ ?_
  have et_ : GA.rdT (Pc.cat s0 L (Pc.AT.fl T)) a b = ByteArray.empty := if_neg (by omega)
  rw [et_]
  exact ⟨rfl, h⟩
 ·
  obtain ⟨hq0_, hq1_, hq2_, hq3_, hq4_⟩ := ED.span0 (C := (Pc.cat s0 L (Pc.AT.fl T))) (a := a) (b := b) (by omega)
  refine wc_skip ?_
  refine qn_then ?_
  refine wc_seq ?_
  refine wc_draw (fun w => Sx.St w0 F0 ([] ++ R) w) (by kernel_rfl) ?_
  replace h := st_drew h
  refine wa_tk 0 rfl rfl rfl (st_selT [] h) (fun w_ hS => ov_move _ rfl) ?_
  refine wa_tk 1 rfl rfl rfl (st_selT [] h) (fun w_ hS => ov_move _ rfl) ?_
  refine wa_tk 2 rfl rfl rfl (st_selT [] h) (fun w_ hS => ov_move _ rfl) ?_
  refine wa_tk 3 rfl rfl rfl (st_selT [] h) (fun w_ hS => ov_bin _ rfl rfl (binR_sub (r := b - a) (Sx.w64 (by omega)))) ?_
  refine wa_tk 5 rfl rfl rfl (st_selT [] h) (fun w_ hS => ov_move _ rfl) ?_
  refine wa_tk 6 rfl rfl rfl (st_selT [] h) (fun w_ hS => ov_nilCheck _ rfl) ?_
  refine wa_tk 7 rfl rfl rfl (st_selT [] h) (fun w_ hS => ov_fieldAddr _ ⟨gt, 2, none⟩ _ rfl fo68_2 rfl) ?_
  refine wa_tk 8 rfl rfl rfl (st_selT [] h) (fun w_ hS => ov_load1 ⟨gt, 2, none⟩ _ rfl sh66 (((ht [] _ hS) 2).trans rfl)) ?_
  refine wa_tk 9 rfl rfl rfl (st_selT [] h) (fun w_ hS => ov_move _ rfl) ?_
  refine wa_tk 10 rfl rfl rfl (st_selT [] h) (fun w_ hS => ov_move _ rfl) ?_
  refine wa_one 4 rfl (by kernel_rfl) ?_
  refine wl_makecap ((b - a : Int).toNat) h rfl rfl rfl (my := b - a) rfl (by omega) Try.underlying41 inf5 (by omega) (fun bo2 _ h => ?_)
  replace h := Sx.obuf_row (by have q_ : maxLen = 9223372036854775807 := rfl; omega) (Nat.zero_le _) h
  replace h : Sx.St w0 F0 ([Sx.row (Kd.int .u8) 5 (some ⟨bo2, 0, none⟩) ((b - a : Int).toNat) ([])] ++ R) _ := h
  refine wl_nil ?_
  refine qn_wa (st_selT [false] h) ?_
  refine wa_one 11 rfl (by kernel_rfl) ?_
  refine wl_call _ rfl rfl rfl ent54 (GA.gather_calls (R := [] ++ R) gt s0 A c L (Pc.AT.ptr T) hz0 hzL hlc ht hr T (some ⟨bo2, 0, none⟩) ((b - a : Int).toNat) ([]) (a) (b) hT hw hcz (by simp only [List.length_nil]; omega) (by omega) (by omega) h) ?_
  rintro e_ w_ ⟨A3, cp4, rfl, h⟩
  refine ⟨_, rfl, ?_⟩
  refine wl_nil ?_
  refine qn_wa (st_selT [false] h) ?_
  refine wa_one 12 rfl (by kernel_rfl) ?_
  refine wl_v rfl rfl (ov_string rfl ((Sx.row_reads h (i := 0) rfl).2) Try.underlying41 Try.underlying5 Try.underlying9) ?_
  refine wl_nil ?_
  refine qn_wa (st_selT [false] h) ?_
  refine wa_tk 13 rfl rfl rfl (st_selT [false] h) (fun w_ hS => ov_assign _ rfl) ?_
  refine wa_tk 14 rfl rfl rfl (st_selT [false] h) (fun w_ hS => ov_assign _ rfl) ?_
  refine wa_done (by kernel_rfl) ?_
  refine qn_then ?_
  refine wc_ret ?_
  replace h := st_selT [false] h
  refine qn_ret [_, _] ⟨rfl, rfl, trivial⟩ ?_
  have et_ : GA.rdT (Pc.cat s0 L (Pc.AT.fl T)) a b = strOfNums (([]) ++ bytesOf (GA.part (Pc.cat s0 L (Pc.AT.fl T)) (a) (b))) := by unfold GA.rdT; rw [if_pos (by omega)]; rw [List.nil_append, Pc.sn_bytes]; rfl
  have ec_ : RD.pspan (Pc.cat s0 L (Pc.AT.fl T)) a b = 0 := by omega
  rw [et_, ec_]
  exact ⟨rfl, h⟩
end Go.Proofs.Ytieieindakbpoaa.GA
