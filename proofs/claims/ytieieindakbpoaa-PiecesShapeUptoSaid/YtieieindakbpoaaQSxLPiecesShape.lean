/- Pruned by wip/prune.py. -/
import Derived.Test.YtieieindakbpoaaProg
import Derived.Test.YtieieindakbpoaaQSxGlue
import Derived.Test.YtieieindakbpoaaQSxRanged
import Derived.Test.YtieieindakbpoaaQSxRange1
import Derived.Test.YtieieindakbpoaaQSxFlow
import Derived.Test.YtieieindakbpoaaQSxBytes
import Derived.Test.YtieieindakbpoaaQSxKinds
import Derived.Test.YtieieindakbpoaaQPcText
import Derived.Test.YtieieindakbpoaaQPcWalk
import Derived.Test.YtieieindakbpoaaQPcRead
import Derived.Test.YtieieindakbpoaaQSxTree
import Derived.Test.YtieieindakbpoaaQSxRunes
import Derived.Test.YtieieindakbpoaaQSxLast
import Derived.Test.YtieieindakbpoaaQSxWalk
import Derived.Test.YtieieindakbpoaaQSxChunks
import Derived.Test.YtieieindakbpoaaQPcTx
import Derived.Test.YtieieindakbpoaaQSxRead
import Derived.Test.YtieieindakbpoaaQSxSplitR
import Derived.Test.YtieieindakbpoaaQSxString
import Derived.Test.YtieieindakbpoaaQSxText
import Derived.Test.YtieieindakbpoaaQSxEdit
import Derived.Test.YtieieindakbpoaaQSxWhole
import Derived.Test.YtieieindakbpoaaQPcEdit
import Derived.Test.YtieieindakbpoaaQSxPlayed
import Derived.Test.YtieieindakbpoaaQSxAwake
namespace Go.Proofs.Ytieieindakbpoaa.L
open Go Go.RowKit Go.Proofs.YtieieindakbpoaaW.PrintWords Go.Proofs.Ytieieindakbpoaa.Kinds Go.Proofs.Ytieieindakbpoaa.Given Go.Proofs.Ytieieindakbpoaa.Rn Go.Proofs.Ytieieindakbpoaa.Sx Go.Proofs.Ytieieindakbpoaa.Pc 
set_option linter.unusedVariables false
set_option linter.unusedSimpArgs false
theorem ent12 : Sx.Ent Try.prog 12 := ⟨Try.f12, Try.func12, by kernel_rfl, by kernel_rfl⟩
theorem ent17 : Sx.Ent Try.prog 17 := ⟨Try.f17, Try.func17, by kernel_rfl, by kernel_rfl⟩
theorem ent18 : Sx.Ent Try.prog 18 := ⟨Try.f18, Try.func18, by kernel_rfl, by kernel_rfl⟩
theorem ent20 : Sx.Ent Try.prog 20 := ⟨Try.f20, Try.func20, by kernel_rfl, by kernel_rfl⟩
theorem ent23 : Sx.Ent Try.prog 23 := ⟨Try.f23, Try.func23, by kernel_rfl, by kernel_rfl⟩
theorem ent24 : Sx.Ent Try.prog 24 := ⟨Try.f24, Try.func24, by kernel_rfl, by kernel_rfl⟩
set_option maxHeartbeats 4000000 in
set_option maxRecDepth 100000 in
theorem PiecesShape_calls {w0 w : World} {F0 : Nat → Prop} {R : List Sx.HP} {v0 : World} (s : ByteArray) (script : List S48) (Ascript : Option Addr) (cscript : Nat) (hv : Sx.RO v0 w0 F0) (hzs : s.size ≤ 9223372036854775807) (hlscript : script.length ≤ cscript) (hCscript : k48.C v0 Ascript script.length script) (hmscript : script.length ≤ 9223372036854775807) (hlbscript : script.length ≤ 1048576) (hopscript : ∀ o ∈ script, o.f3.size ≤ 17592186044416) (h : Sx.St w0 F0 ([] ++ R) w) : Calls Try.prog 6 #[.string (s), .slice (Ascript) (script.length) (cscript)] w (fun e w1 => e = .returned (.bool true) ∧ Sx.St w0 F0 R w1) := by
 refine Sx.calls_fn (vs := [.string (s), .slice (Ascript) (script.length) (cscript)]) Try.func6 rfl Try.ntmps6 rfl ?_
 refine wc_seq ?_
 refine wc_region ?_
 refine wl_v rfl rfl (ov_assign _ rfl) ?_
 refine wl_nil ?_
 refine qn_then ?_
 refine wc_seq ?_
 refine wc_seq ?_
 refine wc_region ?_
 refine wl_call _ rfl rfl rfl ent12 (AW.awake_calls (R := [] ++ R) h) ?_
 rintro e_ w_ ⟨rfl, h⟩
 refine ⟨_, rfl, ?_⟩
 refine wl_v rfl rfl (ov_notb _ rfl) ?_
 refine wl_nil ?_
 refine qn_then ?_
 refine wc_cond_false rfl ?_
 refine wc_skip ?_
 refine qn_then ?_
 refine wc_seq ?_
 refine wc_seq ?_
 refine wc_region ?_
 refine wl_v rfl rfl (ov_move _ rfl) ?_
 refine wl_call _ rfl rfl rfl ent17 (PD.right_calls (R := [] ++ R) s h) ?_
 rintro e_ w_ ⟨rfl, h⟩
 refine ⟨_, rfl, ?_⟩
 refine wl_v rfl rfl (ov_not _ (¬ (s.size ≤ 4096 ∧ (refV s).2 < 0)) rfl (by first | exact decide_not.symm | simp)) ?_
 refine wl_nil ?_
 refine qn_then ?_
 refine wc_cond (by rfl) (fun c1 => ?_) (fun c1 => ?_)
 ·
  refine wc_seq ?_
  refine wc_region ?_
  refine wl_v rfl rfl (ov_assign _ rfl) ?_
  refine wl_nil ?_
  refine qn_then ?_
  refine wc_ret ?_
  refine qn_then_ret ?_
  refine qn_ret [_] ⟨rfl, trivial⟩ ?_
  exact ⟨rfl, h⟩
 ·
  have hrt_ : s.size ≤ 4096 ∧ (refV s).2 < 0 := Classical.not_not.1 c1
  have hrs_ := hrt_.1
  refine wc_skip ?_
  refine qn_then ?_
  refine wc_seq ?_
  refine wc_region ?_
  refine wl_v rfl rfl (ov_move _ rfl) ?_
  refine wl_v rfl rfl (ov_move _ rfl) ?_
  have hnv0_ : TX.newV s = 0 := by
    rw [TX.newV_fit (by omega)]
    exact PE.right_check (by first | exact hrt_.2 | assumption)
  have hrt0_ : PE.Rt s := ⟨hrt_.2, by omega⟩
  refine wl_call _ rfl rfl rfl ent18 (PD.played_calls (R := [] ++ R) s (Ascript) (cscript) (script) (by omega) hnv0_ hopscript (by omega) hlscript (fun _ _ h_ => Sx.ro_C hv h_ hCscript) h) ?_
  rintro e_ w_ ⟨g2, D3, d4, Φ5, rfl, hD6, hDl7, h⟩
  refine ⟨_, rfl, ?_⟩
  replace h : Sx.St w0 F0 ([Pc.tx (Φ5) g2 (D3) (d4), Pc.lib (Φ5)] ++ R) _ := h
  have hfc_ := Pc.tx_facts h
  have hfs_ := hfc_.size
  refine wl_v rfl rfl (ov_move _ rfl) ?_
  refine wl_v rfl rfl (ov_extract [.pointer (some ⟨g2, 0, none⟩), .string (Pc.catB D3), .int .i64 (((min (script).length 60 : Nat) : Int))] _ rfl rfl) ?_
  refine wl_v rfl rfl (ov_extract [.pointer (some ⟨g2, 0, none⟩), .string (Pc.catB D3), .int .i64 (((min (script).length 60 : Nat) : Int))] _ rfl rfl) ?_
  refine wl_v rfl rfl (ov_extract [.pointer (some ⟨g2, 0, none⟩), .string (Pc.catB D3), .int .i64 (((min (script).length 60 : Nat) : Int))] _ rfl rfl) ?_
  refine wl_v rfl rfl (ov_assign _ rfl) ?_
  refine wl_v rfl rfl (ov_assign _ rfl) ?_
  refine wl_v rfl rfl (ov_assign _ rfl) ?_
  refine wl_nil ?_
  refine qn_then ?_
  refine wc_seq ?_
  refine wc_seq ?_
  refine wc_region ?_
  refine wl_v rfl rfl (ov_move _ rfl) ?_
  refine wl_v rfl rfl (ov_bin (.bool false) rfl rfl (binR_eqnil Try.underlying23)) ?_
  refine wl_nil ?_
  refine qn_then ?_
  refine wc_cond_false rfl ?_
  refine wc_skip ?_
  refine qn_then ?_
  refine wc_seq ?_
  refine wc_region ?_
  refine wl_v rfl rfl (ov_move _ rfl) ?_
  replace h := st_front 1 h
  replace h := st_front 1 h
  refine wl_call _ rfl rfl rfl ent20 (WH.Pieces_w (R := [] ++ R) (Φ5) g2 (D3) (d4)  h) ?_
  rintro e_ w_ ⟨rfl, h⟩
  refine ⟨_, rfl, ?_⟩
  refine wl_v rfl rfl (ov_move _ rfl) ?_
  replace h := st_front 1 h
  replace h := st_front 1 h
  refine wl_call _ rfl rfl rfl ent23 (WH.Depth_w (R := [] ++ R) (Φ5) g2 (D3) (d4)  h) ?_
  rintro e_ w_ ⟨rfl, h⟩
  refine ⟨_, rfl, ?_⟩
  refine wl_v rfl rfl (ov_assign _ rfl) ?_
  refine wl_v rfl rfl (ov_assign _ rfl) ?_
  refine wl_nil ?_
  refine qn_then ?_
  refine wc_seq ?_
  refine wc_seq ?_
  refine wc_region ?_
  refine wl_v rfl rfl (ov_move _ rfl) ?_
  refine wl_v rfl rfl (ov_bin _ rfl rfl (binR_eqs)) ?_
  refine wl_nil ?_
  refine qn_then ?_
  refine wc_cond (by rfl) (fun c8 => ?_) (fun c8 => ?_)
  ·
   have hD0_ : D3 = [] := (Pc.catB_nil_iff hfc_.ne).1 (by rw [c8]; rfl)
   have hDl0_ : D3.length = 0 := by rw [hD0_]; rfl
   have hd0_ := hfc_.dz hD0_
   have hd1_ := hfc_.d1
   have hde_ := hDl7
   have hds_ := Pc.dig_le D3.length
   refine wc_seq ?_
   refine wc_region ?_
   refine wl_v rfl rfl (ov_move _ rfl) ?_
   refine wl_v rfl rfl (ov_bin _ rfl rfl (binR_eql)) ?_
   refine wl_v rfl rfl (ov_move _ rfl) ?_
   refine wl_split 32 rfl (fun c9 => ?_) (fun c9 => ?_)
   ·
    refine wl_v rfl rfl (ov_move _ rfl) ?_
    refine wl_v rfl rfl (ov_bin _ rfl rfl (binR_eql)) ?_
    refine wl_v rfl rfl (ov_pick_true _ rfl rfl) ?_
    refine wl_v rfl rfl (ov_assign _ rfl) ?_
    refine wl_nil ?_
    refine qn_then ?_
    refine wc_ret ?_
    refine qn_then_ret ?_
    replace h := st_selT [false, false] h
    refine qn_ret [_] ⟨rfl, trivial⟩ ?_
    have b_ : (decide ((d4 : Int) = 0)) = true := by first | (apply decide_eq_true; omega) | simp_all
    exact ⟨congrArg (fun z => Ending.returned (Value.bool z)) b_, h⟩
   ·
    refine wl_skip rfl rfl ?_
    refine wl_skip rfl rfl ?_
    refine wl_v rfl rfl (ov_pick_false _ rfl rfl) ?_
    refine wl_v rfl rfl (ov_assign _ rfl) ?_
    refine wl_nil ?_
    refine qn_then ?_
    refine wc_ret ?_
    refine qn_then_ret ?_
    replace h := st_selT [false, false] h
    refine qn_ret [_] ⟨rfl, trivial⟩ ?_
    exfalso
    first | omega | contradiction | simp_all
  ·
   have hD0_ : D3 ≠ [] := fun z_ => c8 (by rw [z_]; rfl)
   have hDl0_ : 0 < D3.length := List.length_pos_iff.2 hD0_
   have hd0_ := hfc_.dn hD0_
   have hd1_ := hfc_.d1
   have hde_ := hDl7
   have hds_ := Pc.dig_le D3.length
   refine wc_skip ?_
   refine qn_then ?_
   refine wc_seq ?_
   refine wc_region ?_
   refine wl_v rfl rfl (ov_move _ rfl) ?_
   refine wl_v rfl rfl (ov_bin _ rfl rfl (binR_geq)) ?_
   refine wl_v rfl rfl (ov_move _ rfl) ?_
   refine wl_split 38 rfl (fun c10 => ?_) (fun c10 => ?_)
   ·
    refine wl_v rfl rfl (ov_move _ rfl) ?_
    refine wl_v rfl rfl (ov_move _ rfl) ?_
    refine wl_v rfl rfl (ov_bin _ rfl rfl (binR_mul (r := 2 * (((min (script).length 60 : Nat) : Int))) (Sx.w64 (by omega)))) ?_
    refine wl_v rfl rfl (ov_bin _ rfl rfl (binR_add (r := (2 * (((min (script).length 60 : Nat) : Int))) + 1) (Sx.w64 (by omega)))) ?_
    refine wl_v rfl rfl (ov_bin _ rfl rfl (binR_leq)) ?_
    refine wl_v rfl rfl (ov_pick_true _ rfl rfl) ?_
    refine wl_v rfl rfl (ov_move _ rfl) ?_
    refine wl_split 45 rfl (fun c11 => ?_) (fun c11 => ?_)
    ·
     refine wl_v rfl rfl (ov_move _ rfl) ?_
     refine wl_v rfl rfl (ov_bin _ rfl rfl (binR_geq)) ?_
     refine wl_v rfl rfl (ov_pick_true _ rfl rfl) ?_
     refine wl_v rfl rfl (ov_move _ rfl) ?_
     refine wl_split 49 rfl (fun c12 => ?_) (fun c12 => ?_)
     ·
      refine wl_v rfl rfl (ov_move _ rfl) ?_
      refine wl_v rfl rfl (ov_move _ rfl) ?_
      refine wl_call _ rfl rfl rfl ent24 (AW.Digits_calls (R := [Pc.tx (Φ5) g2 (D3) (d4), Pc.lib (Φ5)] ++ R) D3.length (by omega) h) ?_
      rintro e_ w_ ⟨rfl, h⟩
      refine ⟨_, rfl, ?_⟩
      refine wl_v rfl rfl (ov_bin _ rfl rfl (binR_mul (r := 2 * (((Pc.dig D3.length) : Int))) (Sx.w64 (by omega)))) ?_
      refine wl_v rfl rfl (ov_bin _ rfl rfl (binR_leq)) ?_
      refine wl_v rfl rfl (ov_pick_true _ rfl rfl) ?_
      refine wl_v rfl rfl (ov_assign _ rfl) ?_
      refine wl_nil ?_
      refine qn_then ?_
      refine wc_ret ?_
      replace h := st_selT [false, false] h
      refine qn_ret [_] ⟨rfl, trivial⟩ ?_
      have b_ : (decide ((d4 : Int) ≤ (2 * (((Pc.dig D3.length) : Int))))) = true := by first | (apply decide_eq_true; omega) | simp_all
      exact ⟨congrArg (fun z => Ending.returned (Value.bool z)) b_, h⟩
     ·
      refine wl_skip rfl rfl ?_
      refine wl_skip rfl rfl ?_
      refine wl_skip rfl rfl ?_
      refine wl_skip rfl rfl ?_
      refine wl_skip rfl rfl ?_
      refine wl_v rfl rfl (ov_pick_false _ rfl rfl) ?_
      refine wl_v rfl rfl (ov_assign _ rfl) ?_
      refine wl_nil ?_
      refine qn_then ?_
      refine wc_ret ?_
      replace h := st_selT [false, false] h
      refine qn_ret [_] ⟨rfl, trivial⟩ ?_
      exfalso
      first | omega | contradiction | simp_all
    ·
     refine wl_skip rfl rfl ?_
     refine wl_skip rfl rfl ?_
     refine wl_v rfl rfl (ov_pick_false _ rfl rfl) ?_
     refine wl_v rfl rfl (ov_move _ rfl) ?_
     refine wl_skip rfl rfl ?_
     refine wl_skip rfl rfl ?_
     refine wl_skip rfl rfl ?_
     refine wl_skip rfl rfl ?_
     refine wl_skip rfl rfl ?_
     refine wl_v rfl rfl (ov_pick_false _ rfl rfl) ?_
     refine wl_v rfl rfl (ov_assign _ rfl) ?_
     refine wl_nil ?_
     refine qn_then ?_
     refine wc_ret ?_
     replace h := st_selT [false, false] h
     refine qn_ret [_] ⟨rfl, trivial⟩ ?_
     exfalso
     first | omega | contradiction | simp_all
   ·
    refine wl_skip rfl rfl ?_
    refine wl_skip rfl rfl ?_
    refine wl_skip rfl rfl ?_
    refine wl_skip rfl rfl ?_
    refine wl_skip rfl rfl ?_
    refine wl_v rfl rfl (ov_pick_false _ rfl rfl) ?_
    refine wl_v rfl rfl (ov_move _ rfl) ?_
    refine wl_skip rfl rfl ?_
    refine wl_skip rfl rfl ?_
    refine wl_v rfl rfl (ov_pick_false _ rfl rfl) ?_
    refine wl_v rfl rfl (ov_move _ rfl) ?_
    refine wl_skip rfl rfl ?_
    refine wl_skip rfl rfl ?_
    refine wl_skip rfl rfl ?_
    refine wl_skip rfl rfl ?_
    refine wl_skip rfl rfl ?_
    refine wl_v rfl rfl (ov_pick_false _ rfl rfl) ?_
    refine wl_v rfl rfl (ov_assign _ rfl) ?_
    refine wl_nil ?_
    refine qn_then ?_
    refine wc_ret ?_
    replace h := st_selT [false, false] h
    refine qn_ret [_] ⟨rfl, trivial⟩ ?_
    exfalso
    first | omega | contradiction | simp_all
end Go.Proofs.Ytieieindakbpoaa.L
