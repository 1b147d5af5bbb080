/- Pruned by wip/prune.py. -/
import Derived.Test.YtieieindakbpoaaProg
import Derived.Test.YtieieindakbpoaaQSxGlue
import Derived.Test.YtieieindakbpoaaQSxRanged
import Derived.Test.YtieieindakbpoaaQSxRange1
import Derived.Test.YtieieindakbpoaaQSxFlow
import Derived.Test.YtieieindakbpoaaQSxBytes
import Derived.Test.YtieieindakbpoaaQSxKinds
import Derived.Test.YtieieindakbpoaaQPcText
import Derived.Test.YtieieindakbpoaaQPcWalk
import Derived.Test.YtieieindakbpoaaQPcRead
import Derived.Test.YtieieindakbpoaaQSxTree
import Derived.Test.YtieieindakbpoaaQSxRunes
import Derived.Test.YtieieindakbpoaaQSxLast
import Derived.Test.YtieieindakbpoaaQSxWalk
import Derived.Test.YtieieindakbpoaaQSxChunks
import Derived.Test.YtieieindakbpoaaQPcTx
import Derived.Test.YtieieindakbpoaaQSxRead
import Derived.Test.YtieieindakbpoaaQSxSplitR
import Derived.Test.YtieieindakbpoaaQSxString
import Derived.Test.YtieieindakbpoaaQSxText
import Derived.Test.YtieieindakbpoaaQSxEdit
import Derived.Test.YtieieindakbpoaaQSxWhole
import Derived.Test.YtieieindakbpoaaQPcEdit
import Derived.Test.YtieieindakbpoaaQSxPlayed
import Derived.Test.YtieieindakbpoaaQSxAwake
import Derived.Test.YtieieindakbpoaaQSxGather
import Derived.Test.YtieieindakbpoaaQPcBack
namespace Go.Proofs.Ytieieindakbpoaa.L
open Go Go.RowKit Go.Proofs.YtieieindakbpoaaW.PrintWords Go.Proofs.Ytieieindakbpoaa.Kinds Go.Proofs.Ytieieindakbpoaa.Given Go.Proofs.Ytieieindakbpoaa.Rn Go.Proofs.Ytieieindakbpoaa.Sx Go.Proofs.Ytieieindakbpoaa.Pc 
set_option linter.unusedVariables false
set_option linter.unusedSimpArgs false
theorem ent12 : Sx.Ent Try.prog 12 := ⟨Try.f12, Try.func12, by kernel_rfl, by kernel_rfl⟩
theorem ent17 : Sx.Ent Try.prog 17 := ⟨Try.f17, Try.func17, by kernel_rfl, by kernel_rfl⟩
theorem ent18 : Sx.Ent Try.prog 18 := ⟨Try.f18, Try.func18, by kernel_rfl, by kernel_rfl⟩
theorem fo48_1 : Sx.fieldOff Try.prog 48 1 = some 1 := by kernel_rfl
theorem sh3 : Sx.shapeOf Try.prog 3 = some (false, 1) := by kernel_rfl
theorem fo48_3 : Sx.fieldOff Try.prog 48 3 = some 3 := by kernel_rfl
theorem sh9 : Sx.shapeOf Try.prog 9 = some (false, 1) := by kernel_rfl
theorem ent25 : Sx.Ent Try.prog 25 := ⟨Try.f25, Try.func25, by kernel_rfl, by kernel_rfl⟩
theorem ent28 : Sx.Ent Try.prog 28 := ⟨Try.f28, Try.func28, by kernel_rfl, by kernel_rfl⟩
theorem ent15 : Sx.Ent Try.prog 15 := ⟨Try.f15, Try.func15, by kernel_rfl, by kernel_rfl⟩
theorem fo48_2 : Sx.fieldOff Try.prog 48 2 = some 2 := by kernel_rfl
theorem ent29 : Sx.Ent Try.prog 29 := ⟨Try.f29, Try.func29, by kernel_rfl, by kernel_rfl⟩
theorem ent16 : Sx.Ent Try.prog 16 := ⟨Try.f16, Try.func16, by kernel_rfl, by kernel_rfl⟩
set_option maxHeartbeats 4000000 in
set_option maxRecDepth 100000 in
theorem PiecesBack_calls {w0 w : World} {F0 : Nat → Prop} {R : List Sx.HP} {v0 : World} (s : ByteArray) (script : List S48) (Ascript : Option Addr) (cscript : Nat) (o : S48) (hv : Sx.RO v0 w0 F0) (hzs : s.size ≤ 9223372036854775807) (hlscript : script.length ≤ cscript) (hCscript : k48.C v0 Ascript script.length script) (hmscript : script.length ≤ 9223372036854775807) (hlbscript : script.length ≤ 1048576) (hopscript : ∀ o ∈ script, o.f3.size ≤ 17592186044416) (hoo : o.f3.size ≤ 17592186044416) (h : Sx.St w0 F0 ([] ++ R) w) : Calls Try.prog 9 #[.string (s), .slice (Ascript) (script.length) (cscript), .agg #[.bool ((o).f0), .int .i64 ((o).f1), .int .i64 ((o).f2), .string ((o).f3)]] w (fun e w1 => e = .returned (.bool true) ∧ Sx.St w0 F0 R w1) := by
 refine Sx.calls_fn (vs := [.string (s), .slice (Ascript) (script.length) (cscript), .agg #[.bool ((o).f0), .int .i64 ((o).f1), .int .i64 ((o).f2), .string ((o).f3)]]) Try.func9 rfl Try.ntmps9 rfl ?_
 refine wc_seq ?_
 refine wc_region ?_
 refine wl_box _ h rfl rfl rfl (fun b1 _ h => ?_)
 replace h : Sx.St _ _ (Sx.blk b1 [.bool ((o).f0), .int .i64 ((o).f1), .int .i64 ((o).f2), .string ((o).f3)] 48 :: _) _ := h
 refine wl_v rfl rfl (ov_assign _ rfl) ?_
 refine wl_nil ?_
 refine qn_then ?_
 refine wc_seq ?_
 refine wc_seq ?_
 refine wc_region ?_
 refine wl_call _ rfl rfl rfl ent12 (AW.awake_calls (R := [Sx.blk b1 [.bool ((o).f0), .int .i64 ((o).f1), .int .i64 ((o).f2), .string ((o).f3)] 48] ++ R) h) ?_
 rintro e_ w_ ⟨rfl, h⟩
 refine ⟨_, rfl, ?_⟩
 refine wl_v rfl rfl (ov_notb _ rfl) ?_
 refine wl_nil ?_
 refine qn_then ?_
 refine wc_cond_false rfl ?_
 refine wc_skip ?_
 refine qn_then ?_
 refine wc_seq ?_
 refine wc_seq ?_
 refine wc_region ?_
 refine wl_v rfl rfl (ov_move _ rfl) ?_
 refine wl_call _ rfl rfl rfl ent17 (PD.right_calls (R := [Sx.blk b1 [.bool ((o).f0), .int .i64 ((o).f1), .int .i64 ((o).f2), .string ((o).f3)] 48] ++ R) s h) ?_
 rintro e_ w_ ⟨rfl, h⟩
 refine ⟨_, rfl, ?_⟩
 refine wl_v rfl rfl (ov_not _ (¬ (s.size ≤ 4096 ∧ (refV s).2 < 0)) rfl (by first | exact decide_not.symm | simp)) ?_
 refine wl_nil ?_
 refine qn_then ?_
 refine wc_cond (by rfl) (fun c2 => ?_) (fun c2 => ?_)
 ·
  refine wc_seq ?_
  refine wc_region ?_
  refine wl_v rfl rfl (ov_assign _ rfl) ?_
  refine wl_nil ?_
  refine qn_then ?_
  refine wc_ret ?_
  refine qn_then_ret ?_
  replace h := st_selT [false] h
  refine qn_ret [_] ⟨rfl, trivial⟩ ?_
  exact ⟨rfl, h⟩
 ·
  have hrt_ : s.size ≤ 4096 ∧ (refV s).2 < 0 := Classical.not_not.1 c2
  have hrs_ := hrt_.1
  refine wc_skip ?_
  refine qn_then ?_
  refine wc_seq ?_
  refine wc_region ?_
  refine wl_v rfl rfl (ov_move _ rfl) ?_
  refine wl_v rfl rfl (ov_move _ rfl) ?_
  have hnv0_ : TX.newV s = 0 := by
    rw [TX.newV_fit (by omega)]
    exact PE.right_check (by first | exact hrt_.2 | assumption)
  have hrt0_ : PE.Rt s := ⟨hrt_.2, by omega⟩
  refine wl_call _ rfl rfl rfl ent18 (PD.played_calls (R := [Sx.blk b1 [.bool ((o).f0), .int .i64 ((o).f1), .int .i64 ((o).f2), .string ((o).f3)] 48] ++ R) s (Ascript) (cscript) (script) (by omega) hnv0_ hopscript (by omega) hlscript (fun _ _ h_ => Sx.ro_C hv h_ hCscript) h) ?_
  rintro e_ w_ ⟨g3, D4, d5, Φ6, rfl, hD7, hDl8, h⟩
  refine ⟨_, rfl, ?_⟩
  replace h : Sx.St w0 F0 ([Pc.tx (Φ6) g3 (D4) (d5), Pc.lib (Φ6), Sx.blk b1 [.bool ((o).f0), .int .i64 ((o).f1), .int .i64 ((o).f2), .string ((o).f3)] 48] ++ R) _ := h
  have hfc_ := Pc.tx_facts h
  have hfs_ := hfc_.size
  refine wl_v rfl rfl (ov_move _ rfl) ?_
  refine wl_v rfl rfl (ov_extract [.pointer (some ⟨g3, 0, none⟩), .string (Pc.catB D4), .int .i64 (((min (script).length 60 : Nat) : Int))] _ rfl rfl) ?_
  refine wl_v rfl rfl (ov_extract [.pointer (some ⟨g3, 0, none⟩), .string (Pc.catB D4), .int .i64 (((min (script).length 60 : Nat) : Int))] _ rfl rfl) ?_
  refine wl_v rfl rfl (ov_extract [.pointer (some ⟨g3, 0, none⟩), .string (Pc.catB D4), .int .i64 (((min (script).length 60 : Nat) : Int))] _ rfl rfl) ?_
  refine wl_v rfl rfl (ov_assign _ rfl) ?_
  refine wl_v rfl rfl (ov_assign _ rfl) ?_
  refine wl_v rfl rfl (ov_assign _ rfl) ?_
  refine wl_nil ?_
  refine qn_then ?_
  refine wc_seq ?_
  refine wc_seq ?_
  refine wc_region ?_
  refine wl_v rfl rfl (ov_move _ rfl) ?_
  refine wl_v rfl rfl (ov_bin (.bool false) rfl rfl (binR_eqnil Try.underlying23)) ?_
  refine wl_nil ?_
  refine qn_then ?_
  refine wc_cond_false rfl ?_
  refine wc_skip ?_
  refine qn_then ?_
  refine wc_seq ?_
  refine wc_seq ?_
  refine wc_region ?_
  refine wl_v rfl rfl (ov_move _ rfl) ?_
  refine wl_v rfl rfl (ov_fieldAddr _ ⟨b1, 1, none⟩ _ rfl fo48_1 rfl) ?_
  refine wl_v rfl rfl (ov_loadb 2 _ h rfl rfl sh3 rfl) ?_
  refine wl_v rfl rfl (ov_fieldAddr _ ⟨b1, 3, none⟩ _ rfl fo48_3 rfl) ?_
  refine wl_v rfl rfl (ov_loadb 2 _ h rfl rfl sh9 rfl) ?_
  replace h := st_front 1 h
  replace h := st_front 1 h
  refine wl_call _ rfl rfl rfl ent25 (ED.Insert_calls (R := [Sx.blk b1 [.bool ((o).f0), .int .i64 ((o).f1), .int .i64 ((o).f2), .string ((o).f3)] 48] ++ R) (Φ6) g3 (D4) (d5) ((o).f1) ((o).f3) (by omega) h) ?_
  rintro e_ w_ ⟨D9, d10, Φ11, rfl, hsub12, ⟨hD13, hDl14⟩, h⟩
  refine ⟨_, rfl, ?_⟩
  refine wl_v rfl rfl (ov_bin _ rfl rfl (binR_eql)) ?_
  refine wl_nil ?_
  refine qn_then ?_
  refine wc_cond (by rfl) (fun c15 => ?_) (fun c15 => ?_)
  ·
   have hrD_ : PE.Rt (Pc.catB D4) := by rw [hD7]; exact PE.play_rt _ hrt0_
   obtain ⟨hp1_, hp2_, hp3_⟩ := PE.pins0 c15
   obtain ⟨hk0_, hk1_⟩ := ED.chk0 hp1_
   obtain ⟨hba_, hbb_⟩ := PE.back_a hrD_ c15
   rw [← hD13] at hba_ hbb_
   refine wc_seq ?_
   refine wc_region ?_
   refine wl_v rfl rfl (ov_move _ rfl) ?_
   refine wl_v rfl rfl (ov_fieldAddr _ ⟨b1, 1, none⟩ _ rfl fo48_1 rfl) ?_
   refine wl_v rfl rfl (ov_loadb 2 _ h rfl rfl sh3 rfl) ?_
   refine wl_v rfl rfl (ov_fieldAddr _ ⟨b1, 1, none⟩ _ rfl fo48_1 rfl) ?_
   refine wl_v rfl rfl (ov_loadb 2 _ h rfl rfl sh3 rfl) ?_
   refine wl_v rfl rfl (ov_fieldAddr _ ⟨b1, 3, none⟩ _ rfl fo48_3 rfl) ?_
   refine wl_v rfl rfl (ov_loadb 2 _ h rfl rfl sh9 rfl) ?_
   refine wl_v rfl rfl (ov_lens _ rfl Try.underlying9) ?_
   refine wl_v rfl rfl (ov_bin _ rfl rfl (binR_add (r := ((o).f1) + ((((o).f3).size : Int))) (Sx.w64 (by omega)))) ?_
   replace h := st_front 1 h
   replace h := st_front 1 h
   refine wl_call _ rfl rfl rfl ent28 (ED.Delete_calls (R := [Sx.blk b1 [.bool ((o).f0), .int .i64 ((o).f1), .int .i64 ((o).f2), .string ((o).f3)] 48] ++ R) (Φ11) g3 (D9) (d10) ((o).f1) (((o).f1) + ((((o).f3).size : Int))) h) ?_
   rintro e_ w_ ⟨D16, d17, Φ18, rfl, hsub19, ⟨hD20, hDl21⟩, h⟩
   refine ⟨_, rfl, ?_⟩
   refine wl_v rfl rfl (ov_bin _ rfl rfl (binR_neq)) ?_
   refine wl_v rfl rfl (ov_move _ rfl) ?_
   refine wl_split 44 rfl (fun c22 => ?_) (fun c22 => ?_)
   ·
    exfalso
    omega
   ·
    have hE_ : Pc.catB D16 = Pc.catB D4 := hD20.trans hbb_
    have hEs_ := congrArg ByteArray.size hE_
    refine wl_v rfl rfl (ov_move _ rfl) ?_
    replace h := st_front 1 h
    replace h := st_front 1 h
    refine wl_call _ rfl rfl rfl ent15 (WH.String_w (R := [Sx.blk b1 [.bool ((o).f0), .int .i64 ((o).f1), .int .i64 ((o).f2), .string ((o).f3)] 48] ++ R) (Φ18) g3 (D16) (d17)  h) ?_
    rintro e_ w_ ⟨rfl, h⟩
    refine ⟨_, rfl, ?_⟩
    refine wl_v rfl rfl (ov_move _ rfl) ?_
    refine wl_v rfl rfl (ov_bin _ rfl rfl (binR_nes)) ?_
    refine wl_v rfl rfl (ov_pick_false _ rfl rfl) ?_
    refine wl_nil ?_
    refine qn_then ?_
    refine wc_cond (by rfl) (fun c23 => ?_) (fun c23 => ?_)
    ·
     refine wc_seq ?_
     refine wc_region ?_
     refine wl_v rfl rfl (ov_assign _ rfl) ?_
     refine wl_nil ?_
     refine qn_then ?_
     refine wc_ret ?_
     refine qn_then_ret ?_
     replace h := st_selT [false, false, false] h
     refine qn_ret [_] ⟨rfl, trivial⟩ ?_
     exfalso
     first | omega | contradiction | (exact absurd hE_ (by assumption))
    ·
     refine wc_skip ?_
     refine qn_then ?_
     refine wc_seq ?_
     refine wc_region ?_
     refine wl_v rfl rfl (ov_move _ rfl) ?_
     refine wl_v rfl rfl (ov_fieldAddr _ ⟨b1, 1, none⟩ _ rfl fo48_1 rfl) ?_
     refine wl_v rfl rfl (ov_loadb 2 _ h rfl rfl sh3 rfl) ?_
     refine wl_v rfl rfl (ov_fieldAddr _ ⟨b1, 2, none⟩ _ rfl fo48_2 rfl) ?_
     refine wl_v rfl rfl (ov_loadb 2 _ h rfl rfl sh3 rfl) ?_
     replace h := st_front 1 h
     replace h := st_front 1 h
     refine wl_call _ rfl rfl rfl ent29 (GA.Read_w (R := [Sx.blk b1 [.bool ((o).f0), .int .i64 ((o).f1), .int .i64 ((o).f2), .string ((o).f3)] 48] ++ R) (Φ18) g3 (D16) (d17) ((o).f1) ((o).f2) h) ?_
     rintro e_ w_ ⟨rfl, h⟩
     refine ⟨_, rfl, ?_⟩
     refine wl_v rfl rfl (ov_move _ rfl) ?_
     refine wl_v rfl rfl (ov_extract [.string (GA.rdT (Pc.catB D16) ((o).f1) ((o).f2)), .int .i64 (RD.pspan (Pc.catB D16) ((o).f1) ((o).f2))] _ rfl rfl) ?_
     refine wl_v rfl rfl (ov_extract [.string (GA.rdT (Pc.catB D16) ((o).f1) ((o).f2)), .int .i64 (RD.pspan (Pc.catB D16) ((o).f1) ((o).f2))] _ rfl rfl) ?_
     refine wl_v rfl rfl (ov_assign _ rfl) ?_
     refine wl_v rfl rfl (ov_assign _ rfl) ?_
     refine wl_nil ?_
     refine qn_then ?_
     refine wc_seq ?_
     refine wc_seq ?_
     refine wc_region ?_
     refine wl_v rfl rfl (ov_move _ rfl) ?_
     refine wl_v rfl rfl (ov_bin _ rfl rfl (binR_neq)) ?_
     refine wl_nil ?_
     refine qn_then ?_
     refine wc_cond (by rfl) (fun c24 => ?_) (fun c24 => ?_)
     ·
      refine wc_seq ?_
      refine wc_region ?_
      refine wl_v rfl rfl (ov_move _ rfl) ?_
      replace h := st_front 1 h
      replace h := st_front 1 h
      refine wl_call _ rfl rfl rfl ent15 (WH.String_w (R := [Sx.blk b1 [.bool ((o).f0), .int .i64 ((o).f1), .int .i64 ((o).f2), .string ((o).f3)] 48] ++ R) (Φ18) g3 (D16) (d17)  h) ?_
      rintro e_ w_ ⟨rfl, h⟩
      refine ⟨_, rfl, ?_⟩
      refine wl_v rfl rfl (ov_move _ rfl) ?_
      refine wl_v rfl rfl (ov_bin _ rfl rfl (binR_eqs)) ?_
      refine wl_v rfl rfl (ov_assign _ rfl) ?_
      refine wl_nil ?_
      refine qn_then ?_
      refine wc_ret ?_
      refine qn_then_ret ?_
      replace h := st_selT [false, false, false] h
      refine qn_ret [_] ⟨rfl, trivial⟩ ?_
      have b_ : (decide ((Pc.catB D16) = (Pc.catB D4))) = true := by first | exact decide_eq_true hE_ | (apply decide_eq_true; exact (hD20.trans hz4_).trans hE_) | (apply decide_eq_true; omega)
      exact ⟨congrArg (fun z => Ending.returned (Value.bool z)) b_, h⟩
     ·
      obtain ⟨hz1_, hz2_, hz3_, hz4_⟩ := PE.back_b (C := Pc.catB D16) (a := o.f1) (b := o.f2) (hE_.symm ▸ hrD_) (by omega)
      refine wc_skip ?_
      refine qn_then ?_
      refine wc_seq ?_
      refine wc_region ?_
      refine wl_v rfl rfl (ov_move _ rfl) ?_
      refine wl_v rfl rfl (ov_fieldAddr _ ⟨b1, 1, none⟩ _ rfl fo48_1 rfl) ?_
      refine wl_v rfl rfl (ov_loadb 2 _ h rfl rfl sh3 rfl) ?_
      refine wl_v rfl rfl (ov_fieldAddr _ ⟨b1, 2, none⟩ _ rfl fo48_2 rfl) ?_
      refine wl_v rfl rfl (ov_loadb 2 _ h rfl rfl sh3 rfl) ?_
      replace h := st_front 1 h
      replace h := st_front 1 h
      refine wl_call _ rfl rfl rfl ent28 (ED.Delete_calls (R := [Sx.blk b1 [.bool ((o).f0), .int .i64 ((o).f1), .int .i64 ((o).f2), .string ((o).f3)] 48] ++ R) (Φ18) g3 (D16) (d17) ((o).f1) ((o).f2) h) ?_
      rintro e_ w_ ⟨D25, d26, Φ27, rfl, hsub28, ⟨hD29, hDl30⟩, h⟩
      refine ⟨_, rfl, ?_⟩
      refine wl_v rfl rfl (ov_bin _ rfl rfl (binR_eql)) ?_
      refine wl_v rfl rfl (ov_move _ rfl) ?_
      refine wl_split 72 rfl (fun c31 => ?_) (fun c31 => ?_)
      ·
       rw [← hD29] at hz1_ hz3_ hz4_
       refine wl_v rfl rfl (ov_move _ rfl) ?_
       replace h := st_front 1 h
       replace h := st_front 1 h
       refine wl_call _ rfl rfl rfl ent16 (WH.Len_w (R := [Sx.blk b1 [.bool ((o).f0), .int .i64 ((o).f1), .int .i64 ((o).f2), .string ((o).f3)] 48] ++ R) (Φ27) g3 (D25) (d26)  h) ?_
       rintro e_ w_ ⟨rfl, h⟩
       refine ⟨_, rfl, ?_⟩
       refine wl_v rfl rfl (ov_move _ rfl) ?_
       refine wl_v rfl rfl (ov_lens _ rfl Try.underlying9) ?_
       refine wl_v rfl rfl (ov_move _ rfl) ?_
       refine wl_v rfl rfl (ov_lens _ rfl Try.underlying9) ?_
       refine wl_v rfl rfl (ov_bin _ rfl rfl (binR_sub (r := (((Pc.catB D4).size : Int)) - (((GA.rdT (Pc.catB D16) ((o).f1) ((o).f2)).size : Int))) (Sx.w64 (by omega)))) ?_
       refine wl_v rfl rfl (ov_bin _ rfl rfl (binR_eql)) ?_
       refine wl_v rfl rfl (ov_pick_true _ rfl rfl) ?_
       refine wl_v rfl rfl (ov_move _ rfl) ?_
       refine wl_split 82 rfl (fun c32 => ?_) (fun c32 => ?_)
       ·
        refine wl_v rfl rfl (ov_move _ rfl) ?_
        refine wl_v rfl rfl (ov_fieldAddr _ ⟨b1, 1, none⟩ _ rfl fo48_1 rfl) ?_
        refine wl_v rfl rfl (ov_loadb 2 _ h rfl rfl sh3 rfl) ?_
        refine wl_v rfl rfl (ov_move _ rfl) ?_
        replace h := st_front 1 h
        replace h := st_front 1 h
        refine wl_call _ rfl rfl rfl ent25 (ED.Insert_calls (R := [Sx.blk b1 [.bool ((o).f0), .int .i64 ((o).f1), .int .i64 ((o).f2), .string ((o).f3)] 48] ++ R) (Φ27) g3 (D25) (d26) ((o).f1) (GA.rdT (Pc.catB D16) ((o).f1) ((o).f2)) (by omega) h) ?_
        rintro e_ w_ ⟨D33, d34, Φ35, rfl, hsub36, ⟨hD37, hDl38⟩, h⟩
        refine ⟨_, rfl, ?_⟩
        refine wl_v rfl rfl (ov_bin _ rfl rfl (binR_eql)) ?_
        refine wl_v rfl rfl (ov_pick_true _ rfl rfl) ?_
        refine wl_v rfl rfl (ov_move _ rfl) ?_
        refine wl_split 90 rfl (fun c39 => ?_) (fun c39 => ?_)
        ·
         refine wl_v rfl rfl (ov_move _ rfl) ?_
         replace h := st_front 1 h
         replace h := st_front 1 h
         refine wl_call _ rfl rfl rfl ent15 (WH.String_w (R := [Sx.blk b1 [.bool ((o).f0), .int .i64 ((o).f1), .int .i64 ((o).f2), .string ((o).f3)] 48] ++ R) (Φ35) g3 (D33) (d34)  h) ?_
         rintro e_ w_ ⟨rfl, h⟩
         refine ⟨_, rfl, ?_⟩
         refine wl_v rfl rfl (ov_move _ rfl) ?_
         refine wl_v rfl rfl (ov_bin _ rfl rfl (binR_eqs)) ?_
         refine wl_v rfl rfl (ov_pick_true _ rfl rfl) ?_
         refine wl_v rfl rfl (ov_assign _ rfl) ?_
         refine wl_nil ?_
         refine qn_then ?_
         refine wc_ret ?_
         replace h := st_selT [false, false, false] h
         refine qn_ret [_] ⟨rfl, trivial⟩ ?_
         have b_ : (decide ((Pc.catB D33) = (Pc.catB D4))) = true := by first | exact decide_eq_true hE_ | (apply decide_eq_true; exact (hD37.trans hz4_).trans hE_) | (apply decide_eq_true; omega)
         exact ⟨congrArg (fun z => Ending.returned (Value.bool z)) b_, h⟩
        ·
         refine wl_skip rfl rfl ?_
         refine wl_skip rfl rfl ?_
         refine wl_skip rfl rfl ?_
         refine wl_skip rfl rfl ?_
         refine wl_v rfl rfl (ov_pick_false _ rfl rfl) ?_
         refine wl_v rfl rfl (ov_assign _ rfl) ?_
         refine wl_nil ?_
         refine qn_then ?_
         refine wc_ret ?_
         replace h := st_selT [false, false, false] h
         refine qn_ret [_] ⟨rfl, trivial⟩ ?_
         exfalso
         first | omega | contradiction | (exact absurd hE_ (by assumption))
       ·
        refine wl_skip rfl rfl ?_
        refine wl_skip rfl rfl ?_
        refine wl_skip rfl rfl ?_
        refine wl_skip rfl rfl ?_
        refine wl_skip rfl rfl ?_
        refine wl_skip rfl rfl ?_
        refine wl_v rfl rfl (ov_pick_false _ rfl rfl) ?_
        refine wl_v rfl rfl (ov_move _ rfl) ?_
        refine wl_skip rfl rfl ?_
        refine wl_skip rfl rfl ?_
        refine wl_skip rfl rfl ?_
        refine wl_skip rfl rfl ?_
        refine wl_v rfl rfl (ov_pick_false _ rfl rfl) ?_
        refine wl_v rfl rfl (ov_assign _ rfl) ?_
        refine wl_nil ?_
        refine qn_then ?_
        refine wc_ret ?_
        replace h := st_selT [false, false, false] h
        refine qn_ret [_] ⟨rfl, trivial⟩ ?_
        exfalso
        first | omega | contradiction | (exact absurd hE_ (by assumption))
      ·
       exfalso
       omega
  ·
   have hrD_ : PE.Rt (Pc.catB D4) := by rw [hD7]; exact PE.play_rt _ hrt0_
   have hE_ : Pc.catB D9 = Pc.catB D4 := hD13.trans (WH.ins_bad c15)
   have hEs_ := congrArg ByteArray.size hE_
   refine wc_skip ?_
   refine qn_then ?_
   refine wc_seq ?_
   refine wc_region ?_
   refine wl_v rfl rfl (ov_move _ rfl) ?_
   refine wl_v rfl rfl (ov_fieldAddr _ ⟨b1, 1, none⟩ _ rfl fo48_1 rfl) ?_
   refine wl_v rfl rfl (ov_loadb 2 _ h rfl rfl sh3 rfl) ?_
   refine wl_v rfl rfl (ov_fieldAddr _ ⟨b1, 2, none⟩ _ rfl fo48_2 rfl) ?_
   refine wl_v rfl rfl (ov_loadb 2 _ h rfl rfl sh3 rfl) ?_
   replace h := st_front 1 h
   replace h := st_front 1 h
   refine wl_call _ rfl rfl rfl ent29 (GA.Read_w (R := [Sx.blk b1 [.bool ((o).f0), .int .i64 ((o).f1), .int .i64 ((o).f2), .string ((o).f3)] 48] ++ R) (Φ11) g3 (D9) (d10) ((o).f1) ((o).f2) h) ?_
   rintro e_ w_ ⟨rfl, h⟩
   refine ⟨_, rfl, ?_⟩
   refine wl_v rfl rfl (ov_move _ rfl) ?_
   refine wl_v rfl rfl (ov_extract [.string (GA.rdT (Pc.catB D9) ((o).f1) ((o).f2)), .int .i64 (RD.pspan (Pc.catB D9) ((o).f1) ((o).f2))] _ rfl rfl) ?_
   refine wl_v rfl rfl (ov_extract [.string (GA.rdT (Pc.catB D9) ((o).f1) ((o).f2)), .int .i64 (RD.pspan (Pc.catB D9) ((o).f1) ((o).f2))] _ rfl rfl) ?_
   refine wl_v rfl rfl (ov_assign _ rfl) ?_
   refine wl_v rfl rfl (ov_assign _ rfl) ?_
   refine wl_nil ?_
   refine qn_then ?_
   refine wc_seq ?_
   refine wc_seq ?_
   refine wc_region ?_
   refine wl_v rfl rfl (ov_move _ rfl) ?_
   refine wl_v rfl rfl (ov_bin _ rfl rfl (binR_neq)) ?_
   refine wl_nil ?_
   refine qn_then ?_
   refine wc_cond (by rfl) (fun c40 => ?_) (fun c40 => ?_)
   ·
    refine wc_seq ?_
    refine wc_region ?_
    refine wl_v rfl rfl (ov_move _ rfl) ?_
    replace h := st_front 1 h
    replace h := st_front 1 h
    refine wl_call _ rfl rfl rfl ent15 (WH.String_w (R := [Sx.blk b1 [.bool ((o).f0), .int .i64 ((o).f1), .int .i64 ((o).f2), .string ((o).f3)] 48] ++ R) (Φ11) g3 (D9) (d10)  h) ?_
    rintro e_ w_ ⟨rfl, h⟩
    refine ⟨_, rfl, ?_⟩
    refine wl_v rfl rfl (ov_move _ rfl) ?_
    refine wl_v rfl rfl (ov_bin _ rfl rfl (binR_eqs)) ?_
    refine wl_v rfl rfl (ov_assign _ rfl) ?_
    refine wl_nil ?_
    refine qn_then ?_
    refine wc_ret ?_
    refine qn_then_ret ?_
    replace h := st_selT [false, false, false] h
    refine qn_ret [_] ⟨rfl, trivial⟩ ?_
    have b_ : (decide ((Pc.catB D9) = (Pc.catB D4))) = true := by first | exact decide_eq_true hE_ | (apply decide_eq_true; exact (hD37.trans hz4_).trans hE_) | (apply decide_eq_true; omega)
    exact ⟨congrArg (fun z => Ending.returned (Value.bool z)) b_, h⟩
   ·
    obtain ⟨hz1_, hz2_, hz3_, hz4_⟩ := PE.back_b (C := Pc.catB D9) (a := o.f1) (b := o.f2) (hE_.symm ▸ hrD_) (by omega)
    refine wc_skip ?_
    refine qn_then ?_
    refine wc_seq ?_
    refine wc_region ?_
    refine wl_v rfl rfl (ov_move _ rfl) ?_
    refine wl_v rfl rfl (ov_fieldAddr _ ⟨b1, 1, none⟩ _ rfl fo48_1 rfl) ?_
    refine wl_v rfl rfl (ov_loadb 2 _ h rfl rfl sh3 rfl) ?_
    refine wl_v rfl rfl (ov_fieldAddr _ ⟨b1, 2, none⟩ _ rfl fo48_2 rfl) ?_
    refine wl_v rfl rfl (ov_loadb 2 _ h rfl rfl sh3 rfl) ?_
    replace h := st_front 1 h
    replace h := st_front 1 h
    refine wl_call _ rfl rfl rfl ent28 (ED.Delete_calls (R := [Sx.blk b1 [.bool ((o).f0), .int .i64 ((o).f1), .int .i64 ((o).f2), .string ((o).f3)] 48] ++ R) (Φ11) g3 (D9) (d10) ((o).f1) ((o).f2) h) ?_
    rintro e_ w_ ⟨D41, d42, Φ43, rfl, hsub44, ⟨hD45, hDl46⟩, h⟩
    refine ⟨_, rfl, ?_⟩
    refine wl_v rfl rfl (ov_bin _ rfl rfl (binR_eql)) ?_
    refine wl_v rfl rfl (ov_move _ rfl) ?_
    refine wl_split 72 rfl (fun c47 => ?_) (fun c47 => ?_)
    ·
     rw [← hD45] at hz1_ hz3_ hz4_
     refine wl_v rfl rfl (ov_move _ rfl) ?_
     replace h := st_front 1 h
     replace h := st_front 1 h
     refine wl_call _ rfl rfl rfl ent16 (WH.Len_w (R := [Sx.blk b1 [.bool ((o).f0), .int .i64 ((o).f1), .int .i64 ((o).f2), .string ((o).f3)] 48] ++ R) (Φ43) g3 (D41) (d42)  h) ?_
     rintro e_ w_ ⟨rfl, h⟩
     refine ⟨_, rfl, ?_⟩
     refine wl_v rfl rfl (ov_move _ rfl) ?_
     refine wl_v rfl rfl (ov_lens _ rfl Try.underlying9) ?_
     refine wl_v rfl rfl (ov_move _ rfl) ?_
     refine wl_v rfl rfl (ov_lens _ rfl Try.underlying9) ?_
     refine wl_v rfl rfl (ov_bin _ rfl rfl (binR_sub (r := (((Pc.catB D4).size : Int)) - (((GA.rdT (Pc.catB D9) ((o).f1) ((o).f2)).size : Int))) (Sx.w64 (by omega)))) ?_
     refine wl_v rfl rfl (ov_bin _ rfl rfl (binR_eql)) ?_
     refine wl_v rfl rfl (ov_pick_true _ rfl rfl) ?_
     refine wl_v rfl rfl (ov_move _ rfl) ?_
     refine wl_split 82 rfl (fun c48 => ?_) (fun c48 => ?_)
     ·
      refine wl_v rfl rfl (ov_move _ rfl) ?_
      refine wl_v rfl rfl (ov_fieldAddr _ ⟨b1, 1, none⟩ _ rfl fo48_1 rfl) ?_
      refine wl_v rfl rfl (ov_loadb 2 _ h rfl rfl sh3 rfl) ?_
      refine wl_v rfl rfl (ov_move _ rfl) ?_
      replace h := st_front 1 h
      replace h := st_front 1 h
      refine wl_call _ rfl rfl rfl ent25 (ED.Insert_calls (R := [Sx.blk b1 [.bool ((o).f0), .int .i64 ((o).f1), .int .i64 ((o).f2), .string ((o).f3)] 48] ++ R) (Φ43) g3 (D41) (d42) ((o).f1) (GA.rdT (Pc.catB D9) ((o).f1) ((o).f2)) (by omega) h) ?_
      rintro e_ w_ ⟨D49, d50, Φ51, rfl, hsub52, ⟨hD53, hDl54⟩, h⟩
      refine ⟨_, rfl, ?_⟩
      refine wl_v rfl rfl (ov_bin _ rfl rfl (binR_eql)) ?_
      refine wl_v rfl rfl (ov_pick_true _ rfl rfl) ?_
      refine wl_v rfl rfl (ov_move _ rfl) ?_
      refine wl_split 90 rfl (fun c55 => ?_) (fun c55 => ?_)
      ·
       refine wl_v rfl rfl (ov_move _ rfl) ?_
       replace h := st_front 1 h
       replace h := st_front 1 h
       refine wl_call _ rfl rfl rfl ent15 (WH.String_w (R := [Sx.blk b1 [.bool ((o).f0), .int .i64 ((o).f1), .int .i64 ((o).f2), .string ((o).f3)] 48] ++ R) (Φ51) g3 (D49) (d50)  h) ?_
       rintro e_ w_ ⟨rfl, h⟩
       refine ⟨_, rfl, ?_⟩
       refine wl_v rfl rfl (ov_move _ rfl) ?_
       refine wl_v rfl rfl (ov_bin _ rfl rfl (binR_eqs)) ?_
       refine wl_v rfl rfl (ov_pick_true _ rfl rfl) ?_
       refine wl_v rfl rfl (ov_assign _ rfl) ?_
       refine wl_nil ?_
       refine qn_then ?_
       refine wc_ret ?_
       replace h := st_selT [false, false, false] h
       refine qn_ret [_] ⟨rfl, trivial⟩ ?_
       have b_ : (decide ((Pc.catB D49) = (Pc.catB D4))) = true := by first | exact decide_eq_true hE_ | (apply decide_eq_true; exact (hD53.trans hz4_).trans hE_) | (apply decide_eq_true; omega)
       exact ⟨congrArg (fun z => Ending.returned (Value.bool z)) b_, h⟩
      ·
       refine wl_skip rfl rfl ?_
       refine wl_skip rfl rfl ?_
       refine wl_skip rfl rfl ?_
       refine wl_skip rfl rfl ?_
       refine wl_v rfl rfl (ov_pick_false _ rfl rfl) ?_
       refine wl_v rfl rfl (ov_assign _ rfl) ?_
       refine wl_nil ?_
       refine qn_then ?_
       refine wc_ret ?_
       replace h := st_selT [false, false, false] h
       refine qn_ret [_] ⟨rfl, trivial⟩ ?_
       exfalso
       first | omega | contradiction | (exact absurd hE_ (by assumption))
     ·
      refine wl_skip rfl rfl ?_
      refine wl_skip rfl rfl ?_
      refine wl_skip rfl rfl ?_
      refine wl_skip rfl rfl ?_
      refine wl_skip rfl rfl ?_
      refine wl_skip rfl rfl ?_
      refine wl_v rfl rfl (ov_pick_false _ rfl rfl) ?_
      refine wl_v rfl rfl (ov_move _ rfl) ?_
      refine wl_skip rfl rfl ?_
      refine wl_skip rfl rfl ?_
      refine wl_skip rfl rfl ?_
      refine wl_skip rfl rfl ?_
      refine wl_v rfl rfl (ov_pick_false _ rfl rfl) ?_
      refine wl_v rfl rfl (ov_assign _ rfl) ?_
      refine wl_nil ?_
      refine qn_then ?_
      refine wc_ret ?_
      replace h := st_selT [false, false, false] h
      refine qn_ret [_] ⟨rfl, trivial⟩ ?_
      exfalso
      first | omega | contradiction | (exact absurd hE_ (by assumption))
    ·
     exfalso
     omega
end Go.Proofs.Ytieieindakbpoaa.L
