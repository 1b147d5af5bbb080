/- Pruned by wip/prune.py. -/
import Derived.Test.YtieieindakbpoaaProg
import Derived.Test.YtieieindakbpoaaQSxGlue
import Derived.Test.YtieieindakbpoaaQSxRanged
import Derived.Test.YtieieindakbpoaaQSxRange1
import Derived.Test.YtieieindakbpoaaQSxFlow
import Derived.Test.YtieieindakbpoaaQSxBytes
import Derived.Test.YtieieindakbpoaaQSxKinds
import Derived.Test.YtieieindakbpoaaQPcText
import Derived.Test.YtieieindakbpoaaQPcWalk
import Derived.Test.YtieieindakbpoaaQPcRead
import Derived.Test.YtieieindakbpoaaQSxTree
import Derived.Test.YtieieindakbpoaaQSxRunes
import Derived.Test.YtieieindakbpoaaQSxLast
import Derived.Test.YtieieindakbpoaaQSxWalk
import Derived.Test.YtieieindakbpoaaQSxChunks
import Derived.Test.YtieieindakbpoaaQPcTx
import Derived.Test.YtieieindakbpoaaQSxRead
import Derived.Test.YtieieindakbpoaaQSxSplitR
import Derived.Test.YtieieindakbpoaaQSxString
import Derived.Test.YtieieindakbpoaaQSxText
import Derived.Test.YtieieindakbpoaaQSxEdit
import Derived.Test.YtieieindakbpoaaQSxWhole
import Derived.Test.YtieieindakbpoaaQPcEdit
import Derived.Test.YtieieindakbpoaaQSxPlayed
import Derived.Test.YtieieindakbpoaaQSxAwake
import Derived.Test.YtieieindakbpoaaQSxGather
import Derived.Test.YtieieindakbpoaaQSxCounts
namespace Go.Proofs.Ytieieindakbpoaa.L
open Go Go.RowKit Go.Proofs.YtieieindakbpoaaW.PrintWords Go.Proofs.Ytieieindakbpoaa.Kinds Go.Proofs.Ytieieindakbpoaa.Given Go.Proofs.Ytieieindakbpoaa.Rn Go.Proofs.Ytieieindakbpoaa.Sx Go.Proofs.Ytieieindakbpoaa.Pc 
set_option linter.unusedVariables false
set_option linter.unusedSimpArgs false
theorem ent12 : Sx.Ent Try.prog 12 := ⟨Try.f12, Try.func12, by kernel_rfl, by kernel_rfl⟩
theorem ent17 : Sx.Ent Try.prog 17 := ⟨Try.f17, Try.func17, by kernel_rfl, by kernel_rfl⟩
theorem ent18 : Sx.Ent Try.prog 18 := ⟨Try.f18, Try.func18, by kernel_rfl, by kernel_rfl⟩
theorem ent22 : Sx.Ent Try.prog 22 := ⟨Try.f22, Try.func22, by kernel_rfl, by kernel_rfl⟩
theorem ent34 : Sx.Ent Try.prog 34 := ⟨Try.f34, Try.func34, by kernel_rfl, by kernel_rfl⟩
theorem es37 : Sx.elemSz Try.prog 37 = some (3, 1) := by kernel_rfl
theorem ent35 : Sx.Ent Try.prog 35 := ⟨Try.f35, Try.func35, by kernel_rfl, by kernel_rfl⟩
theorem sh3 : Sx.shapeOf Try.prog 3 = some (false, 1) := by kernel_rfl
theorem bef_cases (C : ByteArray) (k : Int) : (CN.befR C k = (0, 30) ∧ (k < 0 ∨ (C.size : Int) < k)) ∨ (CN.befR C k = (Pc.nlB (C.extract 0 k.toNat), 0) ∧ 0 ≤ k ∧ k ≤ C.size) := by
  unfold CN.befR
  split
  · exact .inl ⟨rfl, by assumption⟩
  · exact .inr ⟨rfl, by omega, by omega⟩
theorem new_cases (C : ByteArray) (n : Int) : (CN.newR C n = (0, false) ∧ (n < 0 ∨ ((AW.endsL C).length : Int) ≤ n)) ∨ (CN.newR C n = ((AW.endsL C).getD n.toNat 0, true) ∧ 0 ≤ n ∧ n < (AW.endsL C).length) := by
  have := AW.endsL_len C
  unfold CN.newR
  split
  · exact .inl ⟨rfl, by omega⟩
  · exact .inr ⟨rfl, by omega, by omega⟩
set_option maxHeartbeats 4000000 in
set_option maxRecDepth 100000 in
theorem PiecesCounts_calls {w0 w : World} {F0 : Nat → Prop} {R : List Sx.HP} {v0 : World} (s : ByteArray) (script : List S48) (Ascript : Option Addr) (cscript : Nat) (at0 : Int) (hv : Sx.RO v0 w0 F0) (hzs : s.size ≤ 9223372036854775807) (hlscript : script.length ≤ cscript) (hCscript : k48.C v0 Ascript script.length script) (hmscript : script.length ≤ 9223372036854775807) (hlbscript : script.length ≤ 1048576) (hopscript : ∀ o ∈ script, o.f3.size ≤ 17592186044416) (h : Sx.St w0 F0 ([] ++ R) w) : Calls Try.prog 11 #[.string (s), .slice (Ascript) (script.length) (cscript), .int .i64 (at0)] w (fun e w1 => e = .returned (.bool true) ∧ Sx.St w0 F0 R w1) := by
 refine Sx.calls_fn (vs := [.string (s), .slice (Ascript) (script.length) (cscript), .int .i64 (at0)]) Try.func11 rfl Try.ntmps11 rfl ?_
 refine wc_seq ?_
 refine wc_region ?_
 refine wl_v rfl rfl (ov_assign _ rfl) ?_
 refine wl_nil ?_
 refine qn_then ?_
 refine wc_seq ?_
 refine wc_seq ?_
 refine wc_region ?_
 refine wl_call _ rfl rfl rfl ent12 (AW.awake_calls (R := [] ++ R) h) ?_
 rintro e_ w_ ⟨rfl, h⟩
 refine ⟨_, rfl, ?_⟩
 refine wl_v rfl rfl (ov_notb _ rfl) ?_
 refine wl_nil ?_
 refine qn_then ?_
 refine wc_cond_false rfl ?_
 refine wc_skip ?_
 refine qn_then ?_
 refine wc_seq ?_
 refine wc_seq ?_
 refine wc_region ?_
 refine wl_v rfl rfl (ov_move _ rfl) ?_
 refine wl_call _ rfl rfl rfl ent17 (PD.right_calls (R := [] ++ R) s h) ?_
 rintro e_ w_ ⟨rfl, h⟩
 refine ⟨_, rfl, ?_⟩
 refine wl_v rfl rfl (ov_not _ (¬ (s.size ≤ 4096 ∧ (refV s).2 < 0)) rfl (by first | exact decide_not.symm | simp)) ?_
 refine wl_nil ?_
 refine qn_then ?_
 refine wc_cond (by rfl) (fun c1 => ?_) (fun c1 => ?_)
 ·
  refine wc_seq ?_
  refine wc_region ?_
  refine wl_v rfl rfl (ov_assign _ rfl) ?_
  refine wl_nil ?_
  refine qn_then ?_
  refine wc_ret ?_
  refine qn_then_ret ?_
  refine qn_ret [_] ⟨rfl, trivial⟩ ?_
  exact ⟨rfl, h⟩
 ·
  have hrt_ : s.size ≤ 4096 ∧ (refV s).2 < 0 := Classical.not_not.1 c1
  have hrs_ := hrt_.1
  refine wc_skip ?_
  refine qn_then ?_
  refine wc_seq ?_
  refine wc_region ?_
  refine wl_v rfl rfl (ov_move _ rfl) ?_
  refine wl_v rfl rfl (ov_move _ rfl) ?_
  have hnv0_ : TX.newV s = 0 := by
    rw [TX.newV_fit (by omega)]
    exact PE.right_check (by first | exact hrt_.2 | assumption)
  have hrt0_ : PE.Rt s := ⟨hrt_.2, by omega⟩
  refine wl_call _ rfl rfl rfl ent18 (PD.played_calls (R := [] ++ R) s (Ascript) (cscript) (script) (by omega) hnv0_ hopscript (by omega) hlscript (fun _ _ h_ => Sx.ro_C hv h_ hCscript) h) ?_
  rintro e_ w_ ⟨g2, D3, d4, Φ5, rfl, hD6, hDl7, h⟩
  refine ⟨_, rfl, ?_⟩
  replace h : Sx.St w0 F0 ([Pc.tx (Φ5) g2 (D3) (d4), Pc.lib (Φ5)] ++ R) _ := h
  have hfc_ := Pc.tx_facts h
  have hfs_ := hfc_.size
  refine wl_v rfl rfl (ov_move _ rfl) ?_
  refine wl_v rfl rfl (ov_extract [.pointer (some ⟨g2, 0, none⟩), .string (Pc.catB D3), .int .i64 (((min (script).length 60 : Nat) : Int))] _ rfl rfl) ?_
  refine wl_v rfl rfl (ov_extract [.pointer (some ⟨g2, 0, none⟩), .string (Pc.catB D3), .int .i64 (((min (script).length 60 : Nat) : Int))] _ rfl rfl) ?_
  refine wl_v rfl rfl (ov_extract [.pointer (some ⟨g2, 0, none⟩), .string (Pc.catB D3), .int .i64 (((min (script).length 60 : Nat) : Int))] _ rfl rfl) ?_
  refine wl_v rfl rfl (ov_assign _ rfl) ?_
  refine wl_v rfl rfl (ov_assign _ rfl) ?_
  refine wl_v rfl rfl (ov_assign _ rfl) ?_
  refine wl_nil ?_
  refine qn_then ?_
  refine wc_seq ?_
  refine wc_seq ?_
  refine wc_region ?_
  refine wl_v rfl rfl (ov_move _ rfl) ?_
  refine wl_v rfl rfl (ov_bin (.bool false) rfl rfl (binR_eqnil Try.underlying23)) ?_
  refine wl_nil ?_
  refine qn_then ?_
  refine wc_cond_false rfl ?_
  refine wc_skip ?_
  refine qn_then ?_
  refine wc_seq ?_
  refine wc_region ?_
  refine wl_v rfl rfl (ov_move _ rfl) ?_
  refine wl_call _ rfl rfl rfl ent22 (AW.Ends_calls (R := [Pc.tx (Φ5) g2 (D3) (d4), Pc.lib (Φ5)] ++ R) (Pc.catB D3) (by (first | omega | (rw [ByteArray.size_extract]; omega))) h) ?_
  rintro e_ w_ ⟨A8, cp9, rfl, h⟩
  refine ⟨_, rfl, ?_⟩
  replace h : Sx.St w0 F0 ([Sx.row (Kd.int .i64) 3 (A8) (cp9) (AW.endsL (Pc.catB D3)), Pc.tx (Φ5) g2 (D3) (d4), Pc.lib (Φ5)] ++ R) _ := h
  have hel10 := AW.endsL_len (Pc.catB D3)
  have hen11 := Pc.nlB_le (Pc.catB D3)
  refine wl_v rfl rfl (ov_assign _ rfl) ?_
  refine wl_nil ?_
  refine qn_then ?_
  refine wc_seq ?_
  refine wc_region ?_
  refine wl_v rfl rfl (ov_move _ rfl) ?_
  refine wl_v rfl rfl (ov_move _ rfl) ?_
  replace h := st_front 2 h
  replace h := st_front 2 h
  refine wl_call _ rfl rfl rfl ent34 (CN.Before_w (R := [Sx.row (Kd.int .i64) 3 (A8) (cp9) (AW.endsL (Pc.catB D3))] ++ R) (Φ5) g2 (D3) (d4) (at0) h) ?_
  rintro e_ w_ ⟨rfl, h⟩
  refine ⟨_, rfl, ?_⟩
  rcases bef_cases (Pc.catB D3) (at0) with ⟨hB_, hB1_⟩ | ⟨hB_, hB1_, hB2_⟩
  ·
   rw [hB_]
   refine wl_v rfl rfl (ov_move _ rfl) ?_
   refine wl_v rfl rfl (ov_extract [.int .i64 (0), .int .i64 (30)] _ rfl rfl) ?_
   refine wl_v rfl rfl (ov_extract [.int .i64 (0), .int .i64 (30)] _ rfl rfl) ?_
   refine wl_v rfl rfl (ov_assign _ rfl) ?_
   refine wl_v rfl rfl (ov_assign _ rfl) ?_
   refine wl_nil ?_
   refine qn_then ?_
   refine wc_seq ?_
   refine wc_seq ?_
   refine wc_region ?_
   refine wl_v rfl rfl (ov_move _ rfl) ?_
   refine wl_v rfl rfl (ov_bin _ rfl rfl (binR_lss)) ?_
   refine wl_v rfl rfl (ov_move _ rfl) ?_
   refine wl_split 42 rfl (fun c12 => ?_) (fun c12 => ?_)
   ·
    refine wl_skip rfl rfl ?_
    refine wl_skip rfl rfl ?_
    refine wl_skip rfl rfl ?_
    refine wl_skip rfl rfl ?_
    refine wl_v rfl rfl (ov_pick_true _ rfl rfl) ?_
    refine wl_nil ?_
    refine qn_then ?_
    refine wc_cond_true rfl ?_
    refine wc_seq ?_
    refine wc_region ?_
    refine wl_v rfl rfl (ov_move _ rfl) ?_
    refine wl_v rfl rfl (ov_bin (.bool false) rfl rfl (binR_neq)) ?_
    refine wl_v rfl rfl (ov_move _ rfl) ?_
    refine wl_v rfl rfl (ov_move _ rfl) ?_
    refine wl_v rfl rfl (ov_bin (.bool false) rfl rfl (binR_neq)) ?_
    refine wl_v rfl rfl (ov_pick_false _ rfl rfl) ?_
    refine wl_nil ?_
    refine qn_then ?_
    refine wc_cond_false rfl ?_
    refine wc_skip ?_
    refine qn_then ?_
    refine wc_seq ?_
    refine wc_seq ?_
    refine wc_region ?_
    refine wl_v rfl rfl (ov_assign _ rfl) ?_
    refine wl_nil ?_
    refine qn_then ?_
    refine wc_block ?_
    replace h := st_front 2 h
    replace h := st_front 2 h
    replace h := st_front 2 h
    refine wc_loop (fun (x_ : Nat × (Option Addr)) => [(0, .string (s)), (1, .slice (Ascript) (script.length) (cscript)), (2, .int .i64 (at0)), (7, .pointer (some ⟨g2, 0, none⟩)), (8, .string (Pc.catB D3)), (10, .slice (x_.2) ((AW.endsL (Pc.catB D3)).length) (cp9)), (13, .int .i64 (((x_.1 : Nat) : Int)))]) (fun (x_ : Nat × (Option Addr)) (w : World) => (x_.1 ≤ (AW.endsL (Pc.catB D3)).length) ∧ Sx.St w0 F0 ([Pc.tx (Φ5) g2 (D3) (d4), Pc.lib (Φ5), Sx.row (Kd.int .i64) 3 (x_.2) (cp9) (AW.endsL (Pc.catB D3))] ++ R) w) (fun (x_ : Nat × (Option Addr)) => (AW.endsL (Pc.catB D3)).length - x_.1) (0, A8) ?_ ?_ ?_
    · exact ⟨rfl, rfl, rfl, rfl, rfl, rfl, (congrArg (fun z_ => some (Value.int .i64 z_)) (show (0 : Int) = ((0 : Nat) : Int) by omega)), trivial⟩
    · exact ⟨Nat.zero_le _, h⟩
    rintro ⟨k, Ae⟩ w h
    obtain ⟨hJ, h⟩ := h
    replace hJ : k ≤ (AW.endsL (Pc.catB D3)).length := hJ
    replace h : Sx.St w0 F0 ([Pc.tx (Φ5) g2 (D3) (d4), Pc.lib (Φ5), Sx.row (Kd.int .i64) 3 (Ae) (cp9) (AW.endsL (Pc.catB D3))] ++ R) w := h
    show Sx.WC _ _ _ _ [(0, .string (s)), (1, .slice (Ascript) (script.length) (cscript)), (2, .int .i64 (at0)), (7, .pointer (some ⟨g2, 0, none⟩)), (8, .string (Pc.catB D3)), (10, .slice (Ae) ((AW.endsL (Pc.catB D3)).length) (cp9)), (13, .int .i64 (((k : Nat) : Int)))] _
    refine wc_seq ?_
    refine wc_seq ?_
    refine wc_region ?_
    refine wl_v rfl rfl (ov_move _ rfl) ?_
    refine wl_v rfl rfl (ov_move _ rfl) ?_
    refine wl_v rfl rfl (ov_len _ _ _ _ _ rfl es37) ?_
    refine wl_v rfl rfl (ov_bin _ rfl rfl (binR_lss)) ?_
    refine wl_nil ?_
    refine qn_then ?_
    refine wc_cond (by rfl) (fun c13 => ?_) (fun c13 => ?_)
    ·
     refine wc_skip ?_
     refine qn_then ?_
     refine wc_seq ?_
     refine wc_block ?_
     refine wc_seq ?_
     refine wc_region ?_
     refine wl_v rfl rfl (ov_move _ rfl) ?_
     refine wl_v rfl rfl (ov_move _ rfl) ?_
     replace h := st_front 1 h
     replace h := st_front 1 h
     refine wl_call _ rfl rfl rfl ent35 (CN.Newline_w (R := [Sx.row (Kd.int .i64) 3 (Ae) (cp9) (AW.endsL (Pc.catB D3))] ++ R) (Φ5) g2 (D3) (d4) (((k : Nat) : Int)) h) ?_
     rintro e_ w_ ⟨rfl, h⟩
     refine ⟨_, rfl, ?_⟩
     rcases new_cases (Pc.catB D3) (((k : Nat) : Int)) with ⟨hB_, hB1_⟩ | ⟨hB_, hB1_, hB2_⟩
     ·
      exfalso
      omega
     ·
      rw [hB_]
      refine wl_v rfl rfl (ov_move _ rfl) ?_
      refine wl_v rfl rfl (ov_extract [.int .i64 ((AW.endsL (Pc.catB D3)).getD (((k : Nat) : Int) : Int).toNat 0), .bool true] _ rfl rfl) ?_
      refine wl_v rfl rfl (ov_extract [.int .i64 ((AW.endsL (Pc.catB D3)).getD (((k : Nat) : Int) : Int).toNat 0), .bool true] _ rfl rfl) ?_
      refine wl_v rfl rfl (ov_assign _ rfl) ?_
      refine wl_v rfl rfl (ov_assign _ rfl) ?_
      refine wl_nil ?_
      refine qn_then ?_
      refine wc_seq ?_
      refine wc_region ?_
      refine wl_v rfl rfl (ov_move _ rfl) ?_
      refine wl_v rfl rfl (ov_notb _ rfl) ?_
      refine wl_v rfl rfl (ov_move _ rfl) ?_
      refine wl_v rfl rfl (ov_move _ rfl) ?_
      refine wl_v rfl rfl (ov_move _ rfl) ?_
      refine wl_v rfl rfl (ov_move _ rfl) ?_
      obtain ⟨ad14, rfl⟩ := Sx.C_some ((Sx.row_reads h (i := 2) rfl).2) (k := (k : Nat)) (by first | assumption | omega)
      refine wl_v rfl rfl (ov_indexAddrN _ _ _ _ _ (k : Nat) rfl rfl es37 rfl (by first | assumption | omega | (simp only [List.length_take, List.length_drop, List.length_set]; omega))) ?_
      obtain ⟨cl17, _, hk16, hc15⟩ := Sx.C_cells ((Sx.row_reads h (i := 2) rfl).2) (z := (0 : Int)) (k := (k : Nat)) (by first | assumption | omega | (simp only [List.length_set]; omega))
      obtain rfl : cl17 = [.int .i64 _] := hk16
      refine wl_v rfl rfl (ov_load1 _ _ rfl sh3 ((hc15 0 _ rfl))) ?_
      refine wl_v rfl rfl (ov_bin _ rfl rfl (binR_neq)) ?_
      refine wl_v rfl rfl (ov_pick_false _ rfl rfl) ?_
      refine wl_nil ?_
      refine qn_then ?_
      refine wc_cond (by rfl) (fun c18 => ?_) (fun c18 => ?_)
      ·
       exact absurd rfl c18
      ·
       refine wc_skip ?_
       refine qn_block_normal ?_
       refine qn_then ?_
       refine wc_region ?_
       refine wl_v rfl rfl (ov_move _ rfl) ?_
       refine wl_v rfl rfl (ov_bin _ rfl rfl (binR_add (r := (((k : Nat) : Int)) + 1) (Sx.w64 (by omega)))) ?_
       refine wl_v rfl rfl (ov_assign _ rfl) ?_
       refine wl_nil ?_
       replace h := st_front 2 h
       replace h := st_front 2 h
       replace h := st_front 2 h
       refine qn_next ((k + 1), some ad14) (by show (AW.endsL (Pc.catB D3)).length - (k + 1) < (AW.endsL (Pc.catB D3)).length - k; omega) ⟨rfl, rfl, rfl, rfl, rfl, rfl, (congrArg (fun z_ => some (Value.int .i64 z_)) (show ((((k : Nat) : Int)) + 1 : Int) = (((k + 1) : Nat) : Int) by omega)), trivial⟩ ?_
       show ((k + 1) ≤ (AW.endsL (Pc.catB D3)).length) ∧ _
       exact ⟨by omega, h⟩
    ·
     refine wc_exit ?_
     refine qn_then_exit ?_
     refine qn_then_exit ?_
     refine qn_block_exit ?_
     refine qn_then ?_
     refine wc_seq ?_
     refine wc_region ?_
     refine wl_v rfl rfl (ov_move _ rfl) ?_
     refine wl_v rfl rfl (ov_move _ rfl) ?_
     replace h := st_front 1 h
     replace h := st_front 1 h
     refine wl_call _ rfl rfl rfl ent35 (CN.Newline_w (R := [Sx.row (Kd.int .i64) 3 (Ae) (cp9) (AW.endsL (Pc.catB D3))] ++ R) (Φ5) g2 (D3) (d4) (at0) h) ?_
     rintro e_ w_ ⟨rfl, h⟩
     refine ⟨_, rfl, ?_⟩
     rcases new_cases (Pc.catB D3) (at0) with ⟨hB_, hB1_⟩ | ⟨hB_, hB1_, hB2_⟩
     ·
      rw [hB_]
      refine wl_v rfl rfl (ov_move _ rfl) ?_
      refine wl_v rfl rfl (ov_extract [.int .i64 (0), .bool false] _ rfl rfl) ?_
      refine wl_v rfl rfl (ov_extract [.int .i64 (0), .bool false] _ rfl rfl) ?_
      refine wl_v rfl rfl (ov_assign _ rfl) ?_
      refine wl_v rfl rfl (ov_assign _ rfl) ?_
      refine wl_nil ?_
      refine qn_then ?_
      refine wc_seq ?_
      refine wc_region ?_
      refine wl_v rfl rfl (ov_move _ rfl) ?_
      refine wl_v rfl rfl (ov_move _ rfl) ?_
      refine wl_v rfl rfl (ov_bin _ rfl rfl (binR_geq)) ?_
      refine wl_v rfl rfl (ov_move _ rfl) ?_
      refine wl_split 96 rfl (fun c19 => ?_) (fun c19 => ?_)
      ·
       refine wl_v rfl rfl (ov_move _ rfl) ?_
       refine wl_v rfl rfl (ov_move _ rfl) ?_
       refine wl_v rfl rfl (ov_len _ _ _ _ _ rfl es37) ?_
       refine wl_v rfl rfl (ov_bin _ rfl rfl (binR_lss)) ?_
       refine wl_v rfl rfl (ov_pick_true _ rfl rfl) ?_
       refine wl_v rfl rfl (ov_bin _ rfl rfl (binR_eqb Try.underlying4)) ?_
       refine wl_v rfl rfl (ov_move _ rfl) ?_
       refine wl_split 103 rfl (fun c20 => ?_) (fun c20 => ?_)
       ·
        have hbd_ := c20
        simp at hbd_
        refine wl_v rfl rfl (ov_move _ rfl) ?_
        refine wl_v rfl rfl (ov_move _ rfl) ?_
        refine wl_v rfl rfl (ov_move _ rfl) ?_
        refine wl_v rfl rfl (ov_bin (.bool true) rfl rfl (binR_eql)) ?_
        refine wl_v rfl rfl (ov_pick_false _ rfl rfl) ?_
        refine wl_v rfl rfl (ov_pick_true _ rfl rfl) ?_
        refine wl_v rfl rfl (ov_assign _ rfl) ?_
        refine wl_nil ?_
        refine qn_then ?_
        refine wc_ret ?_
        replace h := st_selT [false, false, false] h
        refine qn_ret [_] ⟨rfl, trivial⟩ ?_
        exact ⟨rfl, h⟩
       ·
        have hbd_ := c20
        simp at hbd_
        refine wl_skip rfl rfl ?_
        refine wl_skip rfl rfl ?_
        refine wl_skip rfl rfl ?_
        refine wl_skip rfl rfl ?_
        refine wl_skip rfl rfl ?_
        refine wl_v rfl rfl (ov_pick_false _ rfl rfl) ?_
        refine wl_v rfl rfl (ov_assign _ rfl) ?_
        refine wl_nil ?_
        refine qn_then ?_
        refine wc_ret ?_
        replace h := st_selT [false, false, false] h
        refine qn_ret [_] ⟨rfl, trivial⟩ ?_
        exfalso
        first | omega | contradiction | (rw [Int.toNat_natCast] at *; first | omega | contradiction) | (simp_all; done)
      ·
       refine wl_skip rfl rfl ?_
       refine wl_skip rfl rfl ?_
       refine wl_skip rfl rfl ?_
       refine wl_skip rfl rfl ?_
       refine wl_v rfl rfl (ov_pick_false _ rfl rfl) ?_
       refine wl_v rfl rfl (ov_bin _ rfl rfl (binR_eqb Try.underlying4)) ?_
       refine wl_v rfl rfl (ov_move _ rfl) ?_
       refine wl_split 103 rfl (fun c21 => ?_) (fun c21 => ?_)
       ·
        refine wl_v rfl rfl (ov_move _ rfl) ?_
        refine wl_v rfl rfl (ov_move _ rfl) ?_
        refine wl_v rfl rfl (ov_move _ rfl) ?_
        refine wl_v rfl rfl (ov_bin (.bool true) rfl rfl (binR_eql)) ?_
        refine wl_v rfl rfl (ov_pick_false _ rfl rfl) ?_
        refine wl_v rfl rfl (ov_pick_true _ rfl rfl) ?_
        refine wl_v rfl rfl (ov_assign _ rfl) ?_
        refine wl_nil ?_
        refine qn_then ?_
        refine wc_ret ?_
        replace h := st_selT [false, false, false] h
        refine qn_ret [_] ⟨rfl, trivial⟩ ?_
        exact ⟨rfl, h⟩
       ·
        refine wl_skip rfl rfl ?_
        refine wl_skip rfl rfl ?_
        refine wl_skip rfl rfl ?_
        refine wl_skip rfl rfl ?_
        refine wl_skip rfl rfl ?_
        refine wl_v rfl rfl (ov_pick_false _ rfl rfl) ?_
        refine wl_v rfl rfl (ov_assign _ rfl) ?_
        refine wl_nil ?_
        refine qn_then ?_
        refine wc_ret ?_
        replace h := st_selT [false, false, false] h
        refine qn_ret [_] ⟨rfl, trivial⟩ ?_
        exfalso
        first | omega | contradiction | (rw [Int.toNat_natCast] at *; first | omega | contradiction) | (simp_all; done)
     ·
      rw [hB_]
      refine wl_v rfl rfl (ov_move _ rfl) ?_
      refine wl_v rfl rfl (ov_extract [.int .i64 ((AW.endsL (Pc.catB D3)).getD (at0 : Int).toNat 0), .bool true] _ rfl rfl) ?_
      refine wl_v rfl rfl (ov_extract [.int .i64 ((AW.endsL (Pc.catB D3)).getD (at0 : Int).toNat 0), .bool true] _ rfl rfl) ?_
      refine wl_v rfl rfl (ov_assign _ rfl) ?_
      refine wl_v rfl rfl (ov_assign _ rfl) ?_
      refine wl_nil ?_
      refine qn_then ?_
      refine wc_seq ?_
      refine wc_region ?_
      refine wl_v rfl rfl (ov_move _ rfl) ?_
      refine wl_v rfl rfl (ov_move _ rfl) ?_
      refine wl_v rfl rfl (ov_bin _ rfl rfl (binR_geq)) ?_
      refine wl_v rfl rfl (ov_move _ rfl) ?_
      refine wl_split 96 rfl (fun c22 => ?_) (fun c22 => ?_)
      ·
       refine wl_v rfl rfl (ov_move _ rfl) ?_
       refine wl_v rfl rfl (ov_move _ rfl) ?_
       refine wl_v rfl rfl (ov_len _ _ _ _ _ rfl es37) ?_
       refine wl_v rfl rfl (ov_bin _ rfl rfl (binR_lss)) ?_
       refine wl_v rfl rfl (ov_pick_true _ rfl rfl) ?_
       refine wl_v rfl rfl (ov_bin _ rfl rfl (binR_eqb Try.underlying4)) ?_
       refine wl_v rfl rfl (ov_move _ rfl) ?_
       refine wl_split 103 rfl (fun c23 => ?_) (fun c23 => ?_)
       ·
        have hbd_ := c23
        simp at hbd_
        refine wl_v rfl rfl (ov_move _ rfl) ?_
        refine wl_v rfl rfl (ov_move _ rfl) ?_
        refine wl_skip rfl rfl ?_
        refine wl_skip rfl rfl ?_
        refine wl_v rfl rfl (ov_pick_true _ rfl rfl) ?_
        refine wl_v rfl rfl (ov_pick_true _ rfl rfl) ?_
        refine wl_v rfl rfl (ov_assign _ rfl) ?_
        refine wl_nil ?_
        refine qn_then ?_
        refine wc_ret ?_
        replace h := st_selT [false, false, false] h
        refine qn_ret [_] ⟨rfl, trivial⟩ ?_
        exact ⟨rfl, h⟩
       ·
        have hbd_ := c23
        simp at hbd_
        refine wl_skip rfl rfl ?_
        refine wl_skip rfl rfl ?_
        refine wl_skip rfl rfl ?_
        refine wl_skip rfl rfl ?_
        refine wl_skip rfl rfl ?_
        refine wl_v rfl rfl (ov_pick_false _ rfl rfl) ?_
        refine wl_v rfl rfl (ov_assign _ rfl) ?_
        refine wl_nil ?_
        refine qn_then ?_
        refine wc_ret ?_
        replace h := st_selT [false, false, false] h
        refine qn_ret [_] ⟨rfl, trivial⟩ ?_
        exfalso
        first | omega | contradiction | (rw [Int.toNat_natCast] at *; first | omega | contradiction) | (simp_all; done)
      ·
       refine wl_skip rfl rfl ?_
       refine wl_skip rfl rfl ?_
       refine wl_skip rfl rfl ?_
       refine wl_skip rfl rfl ?_
       refine wl_v rfl rfl (ov_pick_false _ rfl rfl) ?_
       refine wl_v rfl rfl (ov_bin _ rfl rfl (binR_eqb Try.underlying4)) ?_
       refine wl_v rfl rfl (ov_move _ rfl) ?_
       refine wl_split 103 rfl (fun c24 => ?_) (fun c24 => ?_)
       ·
        refine wl_v rfl rfl (ov_move _ rfl) ?_
        refine wl_v rfl rfl (ov_move _ rfl) ?_
        refine wl_skip rfl rfl ?_
        refine wl_skip rfl rfl ?_
        refine wl_v rfl rfl (ov_pick_true _ rfl rfl) ?_
        refine wl_v rfl rfl (ov_pick_true _ rfl rfl) ?_
        refine wl_v rfl rfl (ov_assign _ rfl) ?_
        refine wl_nil ?_
        refine qn_then ?_
        refine wc_ret ?_
        replace h := st_selT [false, false, false] h
        refine qn_ret [_] ⟨rfl, trivial⟩ ?_
        exact ⟨rfl, h⟩
       ·
        refine wl_skip rfl rfl ?_
        refine wl_skip rfl rfl ?_
        refine wl_skip rfl rfl ?_
        refine wl_skip rfl rfl ?_
        refine wl_skip rfl rfl ?_
        refine wl_v rfl rfl (ov_pick_false _ rfl rfl) ?_
        refine wl_v rfl rfl (ov_assign _ rfl) ?_
        refine wl_nil ?_
        refine qn_then ?_
        refine wc_ret ?_
        replace h := st_selT [false, false, false] h
        refine qn_ret [_] ⟨rfl, trivial⟩ ?_
        exfalso
        first | omega | contradiction | (rw [Int.toNat_natCast] at *; first | omega | contradiction) | (simp_all; done)
   ·
    refine wl_v rfl rfl (ov_move _ rfl) ?_
    refine wl_v rfl rfl (ov_move _ rfl) ?_
    refine wl_v rfl rfl (ov_lens _ rfl Try.underlying9) ?_
    refine wl_v rfl rfl (ov_bin _ rfl rfl (binR_gtr)) ?_
    refine wl_v rfl rfl (ov_pick_false _ rfl rfl) ?_
    refine wl_nil ?_
    refine qn_then ?_
    refine wc_cond (by rfl) (fun c25 => ?_) (fun c25 => ?_)
    ·
     refine wc_seq ?_
     refine wc_region ?_
     refine wl_v rfl rfl (ov_move _ rfl) ?_
     refine wl_v rfl rfl (ov_bin (.bool false) rfl rfl (binR_neq)) ?_
     refine wl_v rfl rfl (ov_move _ rfl) ?_
     refine wl_v rfl rfl (ov_move _ rfl) ?_
     refine wl_v rfl rfl (ov_bin (.bool false) rfl rfl (binR_neq)) ?_
     refine wl_v rfl rfl (ov_pick_false _ rfl rfl) ?_
     refine wl_nil ?_
     refine qn_then ?_
     refine wc_cond_false rfl ?_
     refine wc_skip ?_
     refine qn_then ?_
     refine wc_seq ?_
     refine wc_seq ?_
     refine wc_region ?_
     refine wl_v rfl rfl (ov_assign _ rfl) ?_
     refine wl_nil ?_
     refine qn_then ?_
     refine wc_block ?_
     replace h := st_front 2 h
     replace h := st_front 2 h
     replace h := st_front 2 h
     refine wc_loop (fun (x_ : Nat × (Option Addr)) => [(0, .string (s)), (1, .slice (Ascript) (script.length) (cscript)), (2, .int .i64 (at0)), (7, .pointer (some ⟨g2, 0, none⟩)), (8, .string (Pc.catB D3)), (10, .slice (x_.2) ((AW.endsL (Pc.catB D3)).length) (cp9)), (13, .int .i64 (((x_.1 : Nat) : Int)))]) (fun (x_ : Nat × (Option Addr)) (w : World) => (x_.1 ≤ (AW.endsL (Pc.catB D3)).length) ∧ Sx.St w0 F0 ([Pc.tx (Φ5) g2 (D3) (d4), Pc.lib (Φ5), Sx.row (Kd.int .i64) 3 (x_.2) (cp9) (AW.endsL (Pc.catB D3))] ++ R) w) (fun (x_ : Nat × (Option Addr)) => (AW.endsL (Pc.catB D3)).length - x_.1) (0, A8) ?_ ?_ ?_
     · exact ⟨rfl, rfl, rfl, rfl, rfl, rfl, (congrArg (fun z_ => some (Value.int .i64 z_)) (show (0 : Int) = ((0 : Nat) : Int) by omega)), trivial⟩
     · exact ⟨Nat.zero_le _, h⟩
     rintro ⟨k, Ae⟩ w h
     obtain ⟨hJ, h⟩ := h
     replace hJ : k ≤ (AW.endsL (Pc.catB D3)).length := hJ
     replace h : Sx.St w0 F0 ([Pc.tx (Φ5) g2 (D3) (d4), Pc.lib (Φ5), Sx.row (Kd.int .i64) 3 (Ae) (cp9) (AW.endsL (Pc.catB D3))] ++ R) w := h
     show Sx.WC _ _ _ _ [(0, .string (s)), (1, .slice (Ascript) (script.length) (cscript)), (2, .int .i64 (at0)), (7, .pointer (some ⟨g2, 0, none⟩)), (8, .string (Pc.catB D3)), (10, .slice (Ae) ((AW.endsL (Pc.catB D3)).length) (cp9)), (13, .int .i64 (((k : Nat) : Int)))] _
     refine wc_seq ?_
     refine wc_seq ?_
     refine wc_region ?_
     refine wl_v rfl rfl (ov_move _ rfl) ?_
     refine wl_v rfl rfl (ov_move _ rfl) ?_
     refine wl_v rfl rfl (ov_len _ _ _ _ _ rfl es37) ?_
     refine wl_v rfl rfl (ov_bin _ rfl rfl (binR_lss)) ?_
     refine wl_nil ?_
     refine qn_then ?_
     refine wc_cond (by rfl) (fun c26 => ?_) (fun c26 => ?_)
     ·
      refine wc_skip ?_
      refine qn_then ?_
      refine wc_seq ?_
      refine wc_block ?_
      refine wc_seq ?_
      refine wc_region ?_
      refine wl_v rfl rfl (ov_move _ rfl) ?_
      refine wl_v rfl rfl (ov_move _ rfl) ?_
      replace h := st_front 1 h
      replace h := st_front 1 h
      refine wl_call _ rfl rfl rfl ent35 (CN.Newline_w (R := [Sx.row (Kd.int .i64) 3 (Ae) (cp9) (AW.endsL (Pc.catB D3))] ++ R) (Φ5) g2 (D3) (d4) (((k : Nat) : Int)) h) ?_
      rintro e_ w_ ⟨rfl, h⟩
      refine ⟨_, rfl, ?_⟩
      rcases new_cases (Pc.catB D3) (((k : Nat) : Int)) with ⟨hB_, hB1_⟩ | ⟨hB_, hB1_, hB2_⟩
      ·
       exfalso
       omega
      ·
       rw [hB_]
       refine wl_v rfl rfl (ov_move _ rfl) ?_
       refine wl_v rfl rfl (ov_extract [.int .i64 ((AW.endsL (Pc.catB D3)).getD (((k : Nat) : Int) : Int).toNat 0), .bool true] _ rfl rfl) ?_
       refine wl_v rfl rfl (ov_extract [.int .i64 ((AW.endsL (Pc.catB D3)).getD (((k : Nat) : Int) : Int).toNat 0), .bool true] _ rfl rfl) ?_
       refine wl_v rfl rfl (ov_assign _ rfl) ?_
       refine wl_v rfl rfl (ov_assign _ rfl) ?_
       refine wl_nil ?_
       refine qn_then ?_
       refine wc_seq ?_
       refine wc_region ?_
       refine wl_v rfl rfl (ov_move _ rfl) ?_
       refine wl_v rfl rfl (ov_notb _ rfl) ?_
       refine wl_v rfl rfl (ov_move _ rfl) ?_
       refine wl_v rfl rfl (ov_move _ rfl) ?_
       refine wl_v rfl rfl (ov_move _ rfl) ?_
       refine wl_v rfl rfl (ov_move _ rfl) ?_
       obtain ⟨ad27, rfl⟩ := Sx.C_some ((Sx.row_reads h (i := 2) rfl).2) (k := (k : Nat)) (by first | assumption | omega)
       refine wl_v rfl rfl (ov_indexAddrN _ _ _ _ _ (k : Nat) rfl rfl es37 rfl (by first | assumption | omega | (simp only [List.length_take, List.length_drop, List.length_set]; omega))) ?_
       obtain ⟨cl30, _, hk29, hc28⟩ := Sx.C_cells ((Sx.row_reads h (i := 2) rfl).2) (z := (0 : Int)) (k := (k : Nat)) (by first | assumption | omega | (simp only [List.length_set]; omega))
       obtain rfl : cl30 = [.int .i64 _] := hk29
       refine wl_v rfl rfl (ov_load1 _ _ rfl sh3 ((hc28 0 _ rfl))) ?_
       refine wl_v rfl rfl (ov_bin _ rfl rfl (binR_neq)) ?_
       refine wl_v rfl rfl (ov_pick_false _ rfl rfl) ?_
       refine wl_nil ?_
       refine qn_then ?_
       refine wc_cond (by rfl) (fun c31 => ?_) (fun c31 => ?_)
       ·
        exact absurd rfl c31
       ·
        refine wc_skip ?_
        refine qn_block_normal ?_
        refine qn_then ?_
        refine wc_region ?_
        refine wl_v rfl rfl (ov_move _ rfl) ?_
        refine wl_v rfl rfl (ov_bin _ rfl rfl (binR_add (r := (((k : Nat) : Int)) + 1) (Sx.w64 (by omega)))) ?_
        refine wl_v rfl rfl (ov_assign _ rfl) ?_
        refine wl_nil ?_
        replace h := st_front 2 h
        replace h := st_front 2 h
        replace h := st_front 2 h
        refine qn_next ((k + 1), some ad27) (by show (AW.endsL (Pc.catB D3)).length - (k + 1) < (AW.endsL (Pc.catB D3)).length - k; omega) ⟨rfl, rfl, rfl, rfl, rfl, rfl, (congrArg (fun z_ => some (Value.int .i64 z_)) (show ((((k : Nat) : Int)) + 1 : Int) = (((k + 1) : Nat) : Int) by omega)), trivial⟩ ?_
        show ((k + 1) ≤ (AW.endsL (Pc.catB D3)).length) ∧ _
        exact ⟨by omega, h⟩
     ·
      refine wc_exit ?_
      refine qn_then_exit ?_
      refine qn_then_exit ?_
      refine qn_block_exit ?_
      refine qn_then ?_
      refine wc_seq ?_
      refine wc_region ?_
      refine wl_v rfl rfl (ov_move _ rfl) ?_
      refine wl_v rfl rfl (ov_move _ rfl) ?_
      replace h := st_front 1 h
      replace h := st_front 1 h
      refine wl_call _ rfl rfl rfl ent35 (CN.Newline_w (R := [Sx.row (Kd.int .i64) 3 (Ae) (cp9) (AW.endsL (Pc.catB D3))] ++ R) (Φ5) g2 (D3) (d4) (at0) h) ?_
      rintro e_ w_ ⟨rfl, h⟩
      refine ⟨_, rfl, ?_⟩
      rcases new_cases (Pc.catB D3) (at0) with ⟨hB_, hB1_⟩ | ⟨hB_, hB1_, hB2_⟩
      ·
       rw [hB_]
       refine wl_v rfl rfl (ov_move _ rfl) ?_
       refine wl_v rfl rfl (ov_extract [.int .i64 (0), .bool false] _ rfl rfl) ?_
       refine wl_v rfl rfl (ov_extract [.int .i64 (0), .bool false] _ rfl rfl) ?_
       refine wl_v rfl rfl (ov_assign _ rfl) ?_
       refine wl_v rfl rfl (ov_assign _ rfl) ?_
       refine wl_nil ?_
       refine qn_then ?_
       refine wc_seq ?_
       refine wc_region ?_
       refine wl_v rfl rfl (ov_move _ rfl) ?_
       refine wl_v rfl rfl (ov_move _ rfl) ?_
       refine wl_v rfl rfl (ov_bin _ rfl rfl (binR_geq)) ?_
       refine wl_v rfl rfl (ov_move _ rfl) ?_
       refine wl_split 96 rfl (fun c32 => ?_) (fun c32 => ?_)
       ·
        refine wl_v rfl rfl (ov_move _ rfl) ?_
        refine wl_v rfl rfl (ov_move _ rfl) ?_
        refine wl_v rfl rfl (ov_len _ _ _ _ _ rfl es37) ?_
        refine wl_v rfl rfl (ov_bin _ rfl rfl (binR_lss)) ?_
        refine wl_v rfl rfl (ov_pick_true _ rfl rfl) ?_
        refine wl_v rfl rfl (ov_bin _ rfl rfl (binR_eqb Try.underlying4)) ?_
        refine wl_v rfl rfl (ov_move _ rfl) ?_
        refine wl_split 103 rfl (fun c33 => ?_) (fun c33 => ?_)
        ·
         have hbd_ := c33
         simp at hbd_
         refine wl_v rfl rfl (ov_move _ rfl) ?_
         refine wl_v rfl rfl (ov_move _ rfl) ?_
         refine wl_v rfl rfl (ov_move _ rfl) ?_
         refine wl_v rfl rfl (ov_bin (.bool true) rfl rfl (binR_eql)) ?_
         refine wl_v rfl rfl (ov_pick_false _ rfl rfl) ?_
         refine wl_v rfl rfl (ov_pick_true _ rfl rfl) ?_
         refine wl_v rfl rfl (ov_assign _ rfl) ?_
         refine wl_nil ?_
         refine qn_then ?_
         refine wc_ret ?_
         replace h := st_selT [false, false, false] h
         refine qn_ret [_] ⟨rfl, trivial⟩ ?_
         exact ⟨rfl, h⟩
        ·
         have hbd_ := c33
         simp at hbd_
         refine wl_skip rfl rfl ?_
         refine wl_skip rfl rfl ?_
         refine wl_skip rfl rfl ?_
         refine wl_skip rfl rfl ?_
         refine wl_skip rfl rfl ?_
         refine wl_v rfl rfl (ov_pick_false _ rfl rfl) ?_
         refine wl_v rfl rfl (ov_assign _ rfl) ?_
         refine wl_nil ?_
         refine qn_then ?_
         refine wc_ret ?_
         replace h := st_selT [false, false, false] h
         refine qn_ret [_] ⟨rfl, trivial⟩ ?_
         exfalso
         first | omega | contradiction | (rw [Int.toNat_natCast] at *; first | omega | contradiction) | (simp_all; done)
       ·
        refine wl_skip rfl rfl ?_
        refine wl_skip rfl rfl ?_
        refine wl_skip rfl rfl ?_
        refine wl_skip rfl rfl ?_
        refine wl_v rfl rfl (ov_pick_false _ rfl rfl) ?_
        refine wl_v rfl rfl (ov_bin _ rfl rfl (binR_eqb Try.underlying4)) ?_
        refine wl_v rfl rfl (ov_move _ rfl) ?_
        refine wl_split 103 rfl (fun c34 => ?_) (fun c34 => ?_)
        ·
         refine wl_v rfl rfl (ov_move _ rfl) ?_
         refine wl_v rfl rfl (ov_move _ rfl) ?_
         refine wl_v rfl rfl (ov_move _ rfl) ?_
         refine wl_v rfl rfl (ov_bin (.bool true) rfl rfl (binR_eql)) ?_
         refine wl_v rfl rfl (ov_pick_false _ rfl rfl) ?_
         refine wl_v rfl rfl (ov_pick_true _ rfl rfl) ?_
         refine wl_v rfl rfl (ov_assign _ rfl) ?_
         refine wl_nil ?_
         refine qn_then ?_
         refine wc_ret ?_
         replace h := st_selT [false, false, false] h
         refine qn_ret [_] ⟨rfl, trivial⟩ ?_
         exact ⟨rfl, h⟩
        ·
         refine wl_skip rfl rfl ?_
         refine wl_skip rfl rfl ?_
         refine wl_skip rfl rfl ?_
         refine wl_skip rfl rfl ?_
         refine wl_skip rfl rfl ?_
         refine wl_v rfl rfl (ov_pick_false _ rfl rfl) ?_
         refine wl_v rfl rfl (ov_assign _ rfl) ?_
         refine wl_nil ?_
         refine qn_then ?_
         refine wc_ret ?_
         replace h := st_selT [false, false, false] h
         refine qn_ret [_] ⟨rfl, trivial⟩ ?_
         exfalso
         first | omega | contradiction | (rw [Int.toNat_natCast] at *; first | omega | contradiction) | (simp_all; done)
      ·
       rw [hB_]
       refine wl_v rfl rfl (ov_move _ rfl) ?_
       refine wl_v rfl rfl (ov_extract [.int .i64 ((AW.endsL (Pc.catB D3)).getD (at0 : Int).toNat 0), .bool true] _ rfl rfl) ?_
       refine wl_v rfl rfl (ov_extract [.int .i64 ((AW.endsL (Pc.catB D3)).getD (at0 : Int).toNat 0), .bool true] _ rfl rfl) ?_
       refine wl_v rfl rfl (ov_assign _ rfl) ?_
       refine wl_v rfl rfl (ov_assign _ rfl) ?_
       refine wl_nil ?_
       refine qn_then ?_
       refine wc_seq ?_
       refine wc_region ?_
       refine wl_v rfl rfl (ov_move _ rfl) ?_
       refine wl_v rfl rfl (ov_move _ rfl) ?_
       refine wl_v rfl rfl (ov_bin _ rfl rfl (binR_geq)) ?_
       refine wl_v rfl rfl (ov_move _ rfl) ?_
       refine wl_split 96 rfl (fun c35 => ?_) (fun c35 => ?_)
       ·
        refine wl_v rfl rfl (ov_move _ rfl) ?_
        refine wl_v rfl rfl (ov_move _ rfl) ?_
        refine wl_v rfl rfl (ov_len _ _ _ _ _ rfl es37) ?_
        refine wl_v rfl rfl (ov_bin _ rfl rfl (binR_lss)) ?_
        refine wl_v rfl rfl (ov_pick_true _ rfl rfl) ?_
        refine wl_v rfl rfl (ov_bin _ rfl rfl (binR_eqb Try.underlying4)) ?_
        refine wl_v rfl rfl (ov_move _ rfl) ?_
        refine wl_split 103 rfl (fun c36 => ?_) (fun c36 => ?_)
        ·
         have hbd_ := c36
         simp at hbd_
         refine wl_v rfl rfl (ov_move _ rfl) ?_
         refine wl_v rfl rfl (ov_move _ rfl) ?_
         refine wl_skip rfl rfl ?_
         refine wl_skip rfl rfl ?_
         refine wl_v rfl rfl (ov_pick_true _ rfl rfl) ?_
         refine wl_v rfl rfl (ov_pick_true _ rfl rfl) ?_
         refine wl_v rfl rfl (ov_assign _ rfl) ?_
         refine wl_nil ?_
         refine qn_then ?_
         refine wc_ret ?_
         replace h := st_selT [false, false, false] h
         refine qn_ret [_] ⟨rfl, trivial⟩ ?_
         exact ⟨rfl, h⟩
        ·
         have hbd_ := c36
         simp at hbd_
         refine wl_skip rfl rfl ?_
         refine wl_skip rfl rfl ?_
         refine wl_skip rfl rfl ?_
         refine wl_skip rfl rfl ?_
         refine wl_skip rfl rfl ?_
         refine wl_v rfl rfl (ov_pick_false _ rfl rfl) ?_
         refine wl_v rfl rfl (ov_assign _ rfl) ?_
         refine wl_nil ?_
         refine qn_then ?_
         refine wc_ret ?_
         replace h := st_selT [false, false, false] h
         refine qn_ret [_] ⟨rfl, trivial⟩ ?_
         exfalso
         first | omega | contradiction | (rw [Int.toNat_natCast] at *; first | omega | contradiction) | (simp_all; done)
       ·
        refine wl_skip rfl rfl ?_
        refine wl_skip rfl rfl ?_
        refine wl_skip rfl rfl ?_
        refine wl_skip rfl rfl ?_
        refine wl_v rfl rfl (ov_pick_false _ rfl rfl) ?_
        refine wl_v rfl rfl (ov_bin _ rfl rfl (binR_eqb Try.underlying4)) ?_
        refine wl_v rfl rfl (ov_move _ rfl) ?_
        refine wl_split 103 rfl (fun c37 => ?_) (fun c37 => ?_)
        ·
         refine wl_v rfl rfl (ov_move _ rfl) ?_
         refine wl_v rfl rfl (ov_move _ rfl) ?_
         refine wl_skip rfl rfl ?_
         refine wl_skip rfl rfl ?_
         refine wl_v rfl rfl (ov_pick_true _ rfl rfl) ?_
         refine wl_v rfl rfl (ov_pick_true _ rfl rfl) ?_
         refine wl_v rfl rfl (ov_assign _ rfl) ?_
         refine wl_nil ?_
         refine qn_then ?_
         refine wc_ret ?_
         replace h := st_selT [false, false, false] h
         refine qn_ret [_] ⟨rfl, trivial⟩ ?_
         exact ⟨rfl, h⟩
        ·
         refine wl_skip rfl rfl ?_
         refine wl_skip rfl rfl ?_
         refine wl_skip rfl rfl ?_
         refine wl_skip rfl rfl ?_
         refine wl_skip rfl rfl ?_
         refine wl_v rfl rfl (ov_pick_false _ rfl rfl) ?_
         refine wl_v rfl rfl (ov_assign _ rfl) ?_
         refine wl_nil ?_
         refine qn_then ?_
         refine wc_ret ?_
         replace h := st_selT [false, false, false] h
         refine qn_ret [_] ⟨rfl, trivial⟩ ?_
         exfalso
         first | omega | contradiction | (rw [Int.toNat_natCast] at *; first | omega | contradiction) | (simp_all; done)
    ·
     refine wc_seq ?_
     refine wc_region ?_
     refine wl_v rfl rfl (ov_move _ rfl) ?_
     refine wl_v rfl rfl (ov_bin (.bool true) rfl rfl (binR_neq)) ?_
     refine wl_v rfl rfl (ov_move _ rfl) ?_
     refine wl_skip rfl rfl ?_
     refine wl_skip rfl rfl ?_
     refine wl_skip rfl rfl ?_
     refine wl_skip rfl rfl ?_
     refine wl_skip rfl rfl ?_
     refine wl_skip rfl rfl ?_
     refine wl_skip rfl rfl ?_
     refine wl_v rfl rfl (ov_pick_true _ rfl rfl) ?_
     refine wl_nil ?_
     refine qn_then ?_
     refine wc_cond_true rfl ?_
     refine wc_seq ?_
     refine wc_region ?_
     refine wl_v rfl rfl (ov_assign _ rfl) ?_
     refine wl_nil ?_
     refine qn_then ?_
     refine wc_ret ?_
     refine qn_then_ret ?_
     replace h := st_selT [false, false, false] h
     refine qn_ret [_] ⟨rfl, trivial⟩ ?_
     exfalso
     first | omega | contradiction | (rw [Int.toNat_natCast] at *; first | omega | contradiction) | (simp_all; done)
  ·
   rw [hB_]
   refine wl_v rfl rfl (ov_move _ rfl) ?_
   refine wl_v rfl rfl (ov_extract [.int .i64 (Pc.nlB ((Pc.catB D3).extract 0 (at0 : Int).toNat)), .int .i64 (0)] _ rfl rfl) ?_
   refine wl_v rfl rfl (ov_extract [.int .i64 (Pc.nlB ((Pc.catB D3).extract 0 (at0 : Int).toNat)), .int .i64 (0)] _ rfl rfl) ?_
   refine wl_v rfl rfl (ov_assign _ rfl) ?_
   refine wl_v rfl rfl (ov_assign _ rfl) ?_
   refine wl_nil ?_
   refine qn_then ?_
   refine wc_seq ?_
   refine wc_seq ?_
   refine wc_region ?_
   refine wl_v rfl rfl (ov_move _ rfl) ?_
   refine wl_v rfl rfl (ov_bin _ rfl rfl (binR_lss)) ?_
   refine wl_v rfl rfl (ov_move _ rfl) ?_
   refine wl_split 42 rfl (fun c38 => ?_) (fun c38 => ?_)
   ·
    refine wl_skip rfl rfl ?_
    refine wl_skip rfl rfl ?_
    refine wl_skip rfl rfl ?_
    refine wl_skip rfl rfl ?_
    refine wl_v rfl rfl (ov_pick_true _ rfl rfl) ?_
    refine wl_nil ?_
    refine qn_then ?_
    refine wc_cond_true rfl ?_
    refine wc_seq ?_
    refine wc_region ?_
    refine wl_v rfl rfl (ov_move _ rfl) ?_
    refine wl_v rfl rfl (ov_bin (.bool true) rfl rfl (binR_neq)) ?_
    refine wl_v rfl rfl (ov_move _ rfl) ?_
    refine wl_skip rfl rfl ?_
    refine wl_skip rfl rfl ?_
    refine wl_v rfl rfl (ov_pick_true _ rfl rfl) ?_
    refine wl_nil ?_
    refine qn_then ?_
    refine wc_cond_true rfl ?_
    refine wc_seq ?_
    refine wc_region ?_
    refine wl_v rfl rfl (ov_assign _ rfl) ?_
    refine wl_nil ?_
    refine qn_then ?_
    refine wc_ret ?_
    refine qn_then_ret ?_
    replace h := st_selT [false, false, false] h
    refine qn_ret [_] ⟨rfl, trivial⟩ ?_
    exfalso
    first | omega | contradiction | (rw [Int.toNat_natCast] at *; first | omega | contradiction) | (simp_all; done)
   ·
    refine wl_v rfl rfl (ov_move _ rfl) ?_
    refine wl_v rfl rfl (ov_move _ rfl) ?_
    refine wl_v rfl rfl (ov_lens _ rfl Try.underlying9) ?_
    refine wl_v rfl rfl (ov_bin _ rfl rfl (binR_gtr)) ?_
    refine wl_v rfl rfl (ov_pick_false _ rfl rfl) ?_
    refine wl_nil ?_
    refine qn_then ?_
    refine wc_cond (by rfl) (fun c39 => ?_) (fun c39 => ?_)
    ·
     refine wc_seq ?_
     refine wc_region ?_
     refine wl_v rfl rfl (ov_move _ rfl) ?_
     refine wl_v rfl rfl (ov_bin (.bool true) rfl rfl (binR_neq)) ?_
     refine wl_v rfl rfl (ov_move _ rfl) ?_
     refine wl_skip rfl rfl ?_
     refine wl_skip rfl rfl ?_
     refine wl_v rfl rfl (ov_pick_true _ rfl rfl) ?_
     refine wl_nil ?_
     refine qn_then ?_
     refine wc_cond_true rfl ?_
     refine wc_seq ?_
     refine wc_region ?_
     refine wl_v rfl rfl (ov_assign _ rfl) ?_
     refine wl_nil ?_
     refine qn_then ?_
     refine wc_ret ?_
     refine qn_then_ret ?_
     replace h := st_selT [false, false, false] h
     refine qn_ret [_] ⟨rfl, trivial⟩ ?_
     exfalso
     first | omega | contradiction | (rw [Int.toNat_natCast] at *; first | omega | contradiction) | (simp_all; done)
    ·
     refine wc_seq ?_
     refine wc_region ?_
     refine wl_v rfl rfl (ov_move _ rfl) ?_
     refine wl_v rfl rfl (ov_bin (.bool false) rfl rfl (binR_neq)) ?_
     refine wl_v rfl rfl (ov_move _ rfl) ?_
     refine wl_v rfl rfl (ov_move _ rfl) ?_
     refine wl_v rfl rfl (ov_move _ rfl) ?_
     refine wl_v rfl rfl (ov_move _ rfl) ?_
     refine wl_v rfl rfl (ov_slices _ 0 ((at0 : Int).toNat) (by rfl) (by exact rfl) (by exact ⟨_, _, rfl, (by omega)⟩) Try.underlying9 (by omega) (by omega)) ?_
     refine wl_call _ rfl rfl rfl ent22 (AW.Ends_calls (R := [Pc.tx (Φ5) g2 (D3) (d4), Pc.lib (Φ5), Sx.row (Kd.int .i64) 3 (A8) (cp9) (AW.endsL (Pc.catB D3))] ++ R) ((Pc.catB D3).extract 0 ((at0 : Int).toNat)) (by (first | omega | (rw [ByteArray.size_extract]; omega))) h) ?_
     rintro e_ w_ ⟨A40, cp41, rfl, h⟩
     refine ⟨_, rfl, ?_⟩
     replace h : Sx.St w0 F0 ([Sx.row (Kd.int .i64) 3 (A40) (cp41) (AW.endsL ((Pc.catB D3).extract 0 ((at0 : Int).toNat))), Pc.tx (Φ5) g2 (D3) (d4), Pc.lib (Φ5), Sx.row (Kd.int .i64) 3 (A8) (cp9) (AW.endsL (Pc.catB D3))] ++ R) _ := h
     have hel42 := AW.endsL_len ((Pc.catB D3).extract 0 ((at0 : Int).toNat))
     have hen43 := Pc.nlB_le ((Pc.catB D3).extract 0 ((at0 : Int).toNat))
     refine wl_v rfl rfl (ov_len _ _ _ _ _ rfl es37) ?_
     refine wl_v rfl rfl (ov_bin _ rfl rfl (binR_neq)) ?_
     refine wl_v rfl rfl (ov_pick_false _ rfl rfl) ?_
     refine wl_nil ?_
     refine qn_then ?_
     refine wc_cond (by rfl) (fun c44 => ?_) (fun c44 => ?_)
     ·
      refine wc_seq ?_
      refine wc_region ?_
      refine wl_v rfl rfl (ov_assign _ rfl) ?_
      refine wl_nil ?_
      refine qn_then ?_
      refine wc_ret ?_
      refine qn_then_ret ?_
      replace h := st_selT [false, false, false, false] h
      refine qn_ret [_] ⟨rfl, trivial⟩ ?_
      exfalso
      first | omega | contradiction | (rw [Int.toNat_natCast] at *; first | omega | contradiction) | (simp_all; done)
     ·
      refine wc_skip ?_
      refine qn_then ?_
      refine wc_seq ?_
      refine wc_seq ?_
      refine wc_region ?_
      refine wl_v rfl rfl (ov_assign _ rfl) ?_
      refine wl_nil ?_
      refine qn_then ?_
      refine wc_block ?_
      replace h := st_front 3 h
      replace h := st_front 3 h
      replace h := st_front 3 h
      replace h := st_selT [true, true, true, false] h
      refine wc_loop (fun (x_ : Nat × (Option Addr)) => [(0, .string (s)), (1, .slice (Ascript) (script.length) (cscript)), (2, .int .i64 (at0)), (7, .pointer (some ⟨g2, 0, none⟩)), (8, .string (Pc.catB D3)), (10, .slice (x_.2) ((AW.endsL (Pc.catB D3)).length) (cp9)), (13, .int .i64 (((x_.1 : Nat) : Int)))]) (fun (x_ : Nat × (Option Addr)) (w : World) => (x_.1 ≤ (AW.endsL (Pc.catB D3)).length) ∧ Sx.St w0 F0 ([Pc.tx (Φ5) g2 (D3) (d4), Pc.lib (Φ5), Sx.row (Kd.int .i64) 3 (x_.2) (cp9) (AW.endsL (Pc.catB D3))] ++ R) w) (fun (x_ : Nat × (Option Addr)) => (AW.endsL (Pc.catB D3)).length - x_.1) (0, A8) ?_ ?_ ?_
      · exact ⟨rfl, rfl, rfl, rfl, rfl, rfl, (congrArg (fun z_ => some (Value.int .i64 z_)) (show (0 : Int) = ((0 : Nat) : Int) by omega)), trivial⟩
      · exact ⟨Nat.zero_le _, h⟩
      rintro ⟨k, Ae⟩ w h
      obtain ⟨hJ, h⟩ := h
      replace hJ : k ≤ (AW.endsL (Pc.catB D3)).length := hJ
      replace h : Sx.St w0 F0 ([Pc.tx (Φ5) g2 (D3) (d4), Pc.lib (Φ5), Sx.row (Kd.int .i64) 3 (Ae) (cp9) (AW.endsL (Pc.catB D3))] ++ R) w := h
      show Sx.WC _ _ _ _ [(0, .string (s)), (1, .slice (Ascript) (script.length) (cscript)), (2, .int .i64 (at0)), (7, .pointer (some ⟨g2, 0, none⟩)), (8, .string (Pc.catB D3)), (10, .slice (Ae) ((AW.endsL (Pc.catB D3)).length) (cp9)), (13, .int .i64 (((k : Nat) : Int)))] _
      refine wc_seq ?_
      refine wc_seq ?_
      refine wc_region ?_
      refine wl_v rfl rfl (ov_move _ rfl) ?_
      refine wl_v rfl rfl (ov_move _ rfl) ?_
      refine wl_v rfl rfl (ov_len _ _ _ _ _ rfl es37) ?_
      refine wl_v rfl rfl (ov_bin _ rfl rfl (binR_lss)) ?_
      refine wl_nil ?_
      refine qn_then ?_
      refine wc_cond (by rfl) (fun c45 => ?_) (fun c45 => ?_)
      ·
       refine wc_skip ?_
       refine qn_then ?_
       refine wc_seq ?_
       refine wc_block ?_
       refine wc_seq ?_
       refine wc_region ?_
       refine wl_v rfl rfl (ov_move _ rfl) ?_
       refine wl_v rfl rfl (ov_move _ rfl) ?_
       replace h := st_front 1 h
       replace h := st_front 1 h
       refine wl_call _ rfl rfl rfl ent35 (CN.Newline_w (R := [Sx.row (Kd.int .i64) 3 (Ae) (cp9) (AW.endsL (Pc.catB D3))] ++ R) (Φ5) g2 (D3) (d4) (((k : Nat) : Int)) h) ?_
       rintro e_ w_ ⟨rfl, h⟩
       refine ⟨_, rfl, ?_⟩
       rcases new_cases (Pc.catB D3) (((k : Nat) : Int)) with ⟨hB_, hB1_⟩ | ⟨hB_, hB1_, hB2_⟩
       ·
        exfalso
        omega
       ·
        rw [hB_]
        refine wl_v rfl rfl (ov_move _ rfl) ?_
        refine wl_v rfl rfl (ov_extract [.int .i64 ((AW.endsL (Pc.catB D3)).getD (((k : Nat) : Int) : Int).toNat 0), .bool true] _ rfl rfl) ?_
        refine wl_v rfl rfl (ov_extract [.int .i64 ((AW.endsL (Pc.catB D3)).getD (((k : Nat) : Int) : Int).toNat 0), .bool true] _ rfl rfl) ?_
        refine wl_v rfl rfl (ov_assign _ rfl) ?_
        refine wl_v rfl rfl (ov_assign _ rfl) ?_
        refine wl_nil ?_
        refine qn_then ?_
        refine wc_seq ?_
        refine wc_region ?_
        refine wl_v rfl rfl (ov_move _ rfl) ?_
        refine wl_v rfl rfl (ov_notb _ rfl) ?_
        refine wl_v rfl rfl (ov_move _ rfl) ?_
        refine wl_v rfl rfl (ov_move _ rfl) ?_
        refine wl_v rfl rfl (ov_move _ rfl) ?_
        refine wl_v rfl rfl (ov_move _ rfl) ?_
        obtain ⟨ad46, rfl⟩ := Sx.C_some ((Sx.row_reads h (i := 2) rfl).2) (k := (k : Nat)) (by first | assumption | omega)
        refine wl_v rfl rfl (ov_indexAddrN _ _ _ _ _ (k : Nat) rfl rfl es37 rfl (by first | assumption | omega | (simp only [List.length_take, List.length_drop, List.length_set]; omega))) ?_
        obtain ⟨cl49, _, hk48, hc47⟩ := Sx.C_cells ((Sx.row_reads h (i := 2) rfl).2) (z := (0 : Int)) (k := (k : Nat)) (by first | assumption | omega | (simp only [List.length_set]; omega))
        obtain rfl : cl49 = [.int .i64 _] := hk48
        refine wl_v rfl rfl (ov_load1 _ _ rfl sh3 ((hc47 0 _ rfl))) ?_
        refine wl_v rfl rfl (ov_bin _ rfl rfl (binR_neq)) ?_
        refine wl_v rfl rfl (ov_pick_false _ rfl rfl) ?_
        refine wl_nil ?_
        refine qn_then ?_
        refine wc_cond (by rfl) (fun c50 => ?_) (fun c50 => ?_)
        ·
         exact absurd rfl c50
        ·
         refine wc_skip ?_
         refine qn_block_normal ?_
         refine qn_then ?_
         refine wc_region ?_
         refine wl_v rfl rfl (ov_move _ rfl) ?_
         refine wl_v rfl rfl (ov_bin _ rfl rfl (binR_add (r := (((k : Nat) : Int)) + 1) (Sx.w64 (by omega)))) ?_
         refine wl_v rfl rfl (ov_assign _ rfl) ?_
         refine wl_nil ?_
         replace h := st_front 2 h
         replace h := st_front 2 h
         replace h := st_front 2 h
         refine qn_next ((k + 1), some ad46) (by show (AW.endsL (Pc.catB D3)).length - (k + 1) < (AW.endsL (Pc.catB D3)).length - k; omega) ⟨rfl, rfl, rfl, rfl, rfl, rfl, (congrArg (fun z_ => some (Value.int .i64 z_)) (show ((((k : Nat) : Int)) + 1 : Int) = (((k + 1) : Nat) : Int) by omega)), trivial⟩ ?_
         show ((k + 1) ≤ (AW.endsL (Pc.catB D3)).length) ∧ _
         exact ⟨by omega, h⟩
      ·
       refine wc_exit ?_
       refine qn_then_exit ?_
       refine qn_then_exit ?_
       refine qn_block_exit ?_
       refine qn_then ?_
       refine wc_seq ?_
       refine wc_region ?_
       refine wl_v rfl rfl (ov_move _ rfl) ?_
       refine wl_v rfl rfl (ov_move _ rfl) ?_
       replace h := st_front 1 h
       replace h := st_front 1 h
       refine wl_call _ rfl rfl rfl ent35 (CN.Newline_w (R := [Sx.row (Kd.int .i64) 3 (Ae) (cp9) (AW.endsL (Pc.catB D3))] ++ R) (Φ5) g2 (D3) (d4) (at0) h) ?_
       rintro e_ w_ ⟨rfl, h⟩
       refine ⟨_, rfl, ?_⟩
       rcases new_cases (Pc.catB D3) (at0) with ⟨hB_, hB1_⟩ | ⟨hB_, hB1_, hB2_⟩
       ·
        rw [hB_]
        refine wl_v rfl rfl (ov_move _ rfl) ?_
        refine wl_v rfl rfl (ov_extract [.int .i64 (0), .bool false] _ rfl rfl) ?_
        refine wl_v rfl rfl (ov_extract [.int .i64 (0), .bool false] _ rfl rfl) ?_
        refine wl_v rfl rfl (ov_assign _ rfl) ?_
        refine wl_v rfl rfl (ov_assign _ rfl) ?_
        refine wl_nil ?_
        refine qn_then ?_
        refine wc_seq ?_
        refine wc_region ?_
        refine wl_v rfl rfl (ov_move _ rfl) ?_
        refine wl_v rfl rfl (ov_move _ rfl) ?_
        refine wl_v rfl rfl (ov_bin _ rfl rfl (binR_geq)) ?_
        refine wl_v rfl rfl (ov_move _ rfl) ?_
        refine wl_split 96 rfl (fun c51 => ?_) (fun c51 => ?_)
        ·
         refine wl_v rfl rfl (ov_move _ rfl) ?_
         refine wl_v rfl rfl (ov_move _ rfl) ?_
         refine wl_v rfl rfl (ov_len _ _ _ _ _ rfl es37) ?_
         refine wl_v rfl rfl (ov_bin _ rfl rfl (binR_lss)) ?_
         refine wl_v rfl rfl (ov_pick_true _ rfl rfl) ?_
         refine wl_v rfl rfl (ov_bin _ rfl rfl (binR_eqb Try.underlying4)) ?_
         refine wl_v rfl rfl (ov_move _ rfl) ?_
         refine wl_split 103 rfl (fun c52 => ?_) (fun c52 => ?_)
         ·
          have hbd_ := c52
          simp at hbd_
          refine wl_v rfl rfl (ov_move _ rfl) ?_
          refine wl_v rfl rfl (ov_move _ rfl) ?_
          refine wl_v rfl rfl (ov_move _ rfl) ?_
          refine wl_v rfl rfl (ov_bin (.bool true) rfl rfl (binR_eql)) ?_
          refine wl_v rfl rfl (ov_pick_false _ rfl rfl) ?_
          refine wl_v rfl rfl (ov_pick_true _ rfl rfl) ?_
          refine wl_v rfl rfl (ov_assign _ rfl) ?_
          refine wl_nil ?_
          refine qn_then ?_
          refine wc_ret ?_
          replace h := st_selT [false, false, false] h
          refine qn_ret [_] ⟨rfl, trivial⟩ ?_
          exact ⟨rfl, h⟩
         ·
          have hbd_ := c52
          simp at hbd_
          refine wl_skip rfl rfl ?_
          refine wl_skip rfl rfl ?_
          refine wl_skip rfl rfl ?_
          refine wl_skip rfl rfl ?_
          refine wl_skip rfl rfl ?_
          refine wl_v rfl rfl (ov_pick_false _ rfl rfl) ?_
          refine wl_v rfl rfl (ov_assign _ rfl) ?_
          refine wl_nil ?_
          refine qn_then ?_
          refine wc_ret ?_
          replace h := st_selT [false, false, false] h
          refine qn_ret [_] ⟨rfl, trivial⟩ ?_
          exfalso
          first | omega | contradiction | (rw [Int.toNat_natCast] at *; first | omega | contradiction) | (simp_all; done)
        ·
         refine wl_skip rfl rfl ?_
         refine wl_skip rfl rfl ?_
         refine wl_skip rfl rfl ?_
         refine wl_skip rfl rfl ?_
         refine wl_v rfl rfl (ov_pick_false _ rfl rfl) ?_
         refine wl_v rfl rfl (ov_bin _ rfl rfl (binR_eqb Try.underlying4)) ?_
         refine wl_v rfl rfl (ov_move _ rfl) ?_
         refine wl_split 103 rfl (fun c53 => ?_) (fun c53 => ?_)
         ·
          refine wl_v rfl rfl (ov_move _ rfl) ?_
          refine wl_v rfl rfl (ov_move _ rfl) ?_
          refine wl_v rfl rfl (ov_move _ rfl) ?_
          refine wl_v rfl rfl (ov_bin (.bool true) rfl rfl (binR_eql)) ?_
          refine wl_v rfl rfl (ov_pick_false _ rfl rfl) ?_
          refine wl_v rfl rfl (ov_pick_true _ rfl rfl) ?_
          refine wl_v rfl rfl (ov_assign _ rfl) ?_
          refine wl_nil ?_
          refine qn_then ?_
          refine wc_ret ?_
          replace h := st_selT [false, false, false] h
          refine qn_ret [_] ⟨rfl, trivial⟩ ?_
          exact ⟨rfl, h⟩
         ·
          refine wl_skip rfl rfl ?_
          refine wl_skip rfl rfl ?_
          refine wl_skip rfl rfl ?_
          refine wl_skip rfl rfl ?_
          refine wl_skip rfl rfl ?_
          refine wl_v rfl rfl (ov_pick_false _ rfl rfl) ?_
          refine wl_v rfl rfl (ov_assign _ rfl) ?_
          refine wl_nil ?_
          refine qn_then ?_
          refine wc_ret ?_
          replace h := st_selT [false, false, false] h
          refine qn_ret [_] ⟨rfl, trivial⟩ ?_
          exfalso
          first | omega | contradiction | (rw [Int.toNat_natCast] at *; first | omega | contradiction) | (simp_all; done)
       ·
        rw [hB_]
        refine wl_v rfl rfl (ov_move _ rfl) ?_
        refine wl_v rfl rfl (ov_extract [.int .i64 ((AW.endsL (Pc.catB D3)).getD (at0 : Int).toNat 0), .bool true] _ rfl rfl) ?_
        refine wl_v rfl rfl (ov_extract [.int .i64 ((AW.endsL (Pc.catB D3)).getD (at0 : Int).toNat 0), .bool true] _ rfl rfl) ?_
        refine wl_v rfl rfl (ov_assign _ rfl) ?_
        refine wl_v rfl rfl (ov_assign _ rfl) ?_
        refine wl_nil ?_
        refine qn_then ?_
        refine wc_seq ?_
        refine wc_region ?_
        refine wl_v rfl rfl (ov_move _ rfl) ?_
        refine wl_v rfl rfl (ov_move _ rfl) ?_
        refine wl_v rfl rfl (ov_bin _ rfl rfl (binR_geq)) ?_
        refine wl_v rfl rfl (ov_move _ rfl) ?_
        refine wl_split 96 rfl (fun c54 => ?_) (fun c54 => ?_)
        ·
         refine wl_v rfl rfl (ov_move _ rfl) ?_
         refine wl_v rfl rfl (ov_move _ rfl) ?_
         refine wl_v rfl rfl (ov_len _ _ _ _ _ rfl es37) ?_
         refine wl_v rfl rfl (ov_bin _ rfl rfl (binR_lss)) ?_
         refine wl_v rfl rfl (ov_pick_true _ rfl rfl) ?_
         refine wl_v rfl rfl (ov_bin _ rfl rfl (binR_eqb Try.underlying4)) ?_
         refine wl_v rfl rfl (ov_move _ rfl) ?_
         refine wl_split 103 rfl (fun c55 => ?_) (fun c55 => ?_)
         ·
          have hbd_ := c55
          simp at hbd_
          refine wl_v rfl rfl (ov_move _ rfl) ?_
          refine wl_v rfl rfl (ov_move _ rfl) ?_
          refine wl_skip rfl rfl ?_
          refine wl_skip rfl rfl ?_
          refine wl_v rfl rfl (ov_pick_true _ rfl rfl) ?_
          refine wl_v rfl rfl (ov_pick_true _ rfl rfl) ?_
          refine wl_v rfl rfl (ov_assign _ rfl) ?_
          refine wl_nil ?_
          refine qn_then ?_
          refine wc_ret ?_
          replace h := st_selT [false, false, false] h
          refine qn_ret [_] ⟨rfl, trivial⟩ ?_
          exact ⟨rfl, h⟩
         ·
          have hbd_ := c55
          simp at hbd_
          refine wl_skip rfl rfl ?_
          refine wl_skip rfl rfl ?_
          refine wl_skip rfl rfl ?_
          refine wl_skip rfl rfl ?_
          refine wl_skip rfl rfl ?_
          refine wl_v rfl rfl (ov_pick_false _ rfl rfl) ?_
          refine wl_v rfl rfl (ov_assign _ rfl) ?_
          refine wl_nil ?_
          refine qn_then ?_
          refine wc_ret ?_
          replace h := st_selT [false, false, false] h
          refine qn_ret [_] ⟨rfl, trivial⟩ ?_
          exfalso
          first | omega | contradiction | (rw [Int.toNat_natCast] at *; first | omega | contradiction) | (simp_all; done)
        ·
         refine wl_skip rfl rfl ?_
         refine wl_skip rfl rfl ?_
         refine wl_skip rfl rfl ?_
         refine wl_skip rfl rfl ?_
         refine wl_v rfl rfl (ov_pick_false _ rfl rfl) ?_
         refine wl_v rfl rfl (ov_bin _ rfl rfl (binR_eqb Try.underlying4)) ?_
         refine wl_v rfl rfl (ov_move _ rfl) ?_
         refine wl_split 103 rfl (fun c56 => ?_) (fun c56 => ?_)
         ·
          refine wl_v rfl rfl (ov_move _ rfl) ?_
          refine wl_v rfl rfl (ov_move _ rfl) ?_
          refine wl_skip rfl rfl ?_
          refine wl_skip rfl rfl ?_
          refine wl_v rfl rfl (ov_pick_true _ rfl rfl) ?_
          refine wl_v rfl rfl (ov_pick_true _ rfl rfl) ?_
          refine wl_v rfl rfl (ov_assign _ rfl) ?_
          refine wl_nil ?_
          refine qn_then ?_
          refine wc_ret ?_
          replace h := st_selT [false, false, false] h
          refine qn_ret [_] ⟨rfl, trivial⟩ ?_
          exact ⟨rfl, h⟩
         ·
          refine wl_skip rfl rfl ?_
          refine wl_skip rfl rfl ?_
          refine wl_skip rfl rfl ?_
          refine wl_skip rfl rfl ?_
          refine wl_skip rfl rfl ?_
          refine wl_v rfl rfl (ov_pick_false _ rfl rfl) ?_
          refine wl_v rfl rfl (ov_assign _ rfl) ?_
          refine wl_nil ?_
          refine qn_then ?_
          refine wc_ret ?_
          replace h := st_selT [false, false, false] h
          refine qn_ret [_] ⟨rfl, trivial⟩ ?_
          exfalso
          first | omega | contradiction | (rw [Int.toNat_natCast] at *; first | omega | contradiction) | (simp_all; done)
end Go.Proofs.Ytieieindakbpoaa.L
