/- Pruned by wip/prune.py. -/
import Derived.Test.YtieieindakbpoaaProg
import Derived.Test.YtieieindakbpoaaQSxGlue
import Derived.Test.YtieieindakbpoaaQSxRanged
import Derived.Test.YtieieindakbpoaaQSxRange1
import Derived.Test.YtieieindakbpoaaQSxFlow
import Derived.Test.YtieieindakbpoaaQSxBytes
import Derived.Test.YtieieindakbpoaaQSxKinds
import Derived.Test.YtieieindakbpoaaQPcText
import Derived.Test.YtieieindakbpoaaQPcWalk
import Derived.Test.YtieieindakbpoaaQPcRead
import Derived.Test.YtieieindakbpoaaQSxTree
import Derived.Test.YtieieindakbpoaaQSxRunes
import Derived.Test.YtieieindakbpoaaQSxLast
import Derived.Test.YtieieindakbpoaaQSxWalk
import Derived.Test.YtieieindakbpoaaQSxChunks
import Derived.Test.YtieieindakbpoaaQPcTx
import Derived.Test.YtieieindakbpoaaQSxRead
import Derived.Test.YtieieindakbpoaaQSxSplitR
import Derived.Test.YtieieindakbpoaaQSxString
import Derived.Test.YtieieindakbpoaaQSxText
import Derived.Test.YtieieindakbpoaaQSxEdit
import Derived.Test.YtieieindakbpoaaQSxWhole
import Derived.Test.YtieieindakbpoaaQPcEdit
import Derived.Test.YtieieindakbpoaaQSxPlayed
import Derived.Test.YtieieindakbpoaaQSxAwake
import Derived.Test.YtieieindakbpoaaQSxCopy
namespace Go.Proofs.Ytieieindakbpoaa.L
open Go Go.RowKit Go.Proofs.YtieieindakbpoaaW.PrintWords Go.Proofs.Ytieieindakbpoaa.Kinds Go.Proofs.Ytieieindakbpoaa.Given Go.Proofs.Ytieieindakbpoaa.Rn Go.Proofs.Ytieieindakbpoaa.Sx Go.Proofs.Ytieieindakbpoaa.Pc 
set_option linter.unusedVariables false
set_option linter.unusedSimpArgs false
theorem ent12 : Sx.Ent Try.prog 12 := ⟨Try.f12, Try.func12, by kernel_rfl, by kernel_rfl⟩
theorem ent17 : Sx.Ent Try.prog 17 := ⟨Try.f17, Try.func17, by kernel_rfl, by kernel_rfl⟩
theorem ent18 : Sx.Ent Try.prog 18 := ⟨Try.f18, Try.func18, by kernel_rfl, by kernel_rfl⟩
theorem ent26 : Sx.Ent Try.prog 26 := ⟨Try.f26, Try.func26, by kernel_rfl, by kernel_rfl⟩
theorem ent15 : Sx.Ent Try.prog 15 := ⟨Try.f15, Try.func15, by kernel_rfl, by kernel_rfl⟩
theorem es30 : Sx.elemSz Try.prog 30 = some (48, 4) := by kernel_rfl
theorem sh48 : Sx.shapeOf Try.prog 48 = some (true, 4) := by kernel_rfl
theorem ent27 : Sx.Ent Try.prog 27 := ⟨Try.f27, Try.func27, by kernel_rfl, by kernel_rfl⟩
theorem ent21 : Sx.Ent Try.prog 21 := ⟨Try.f21, Try.func21, by kernel_rfl, by kernel_rfl⟩
theorem ent22 : Sx.Ent Try.prog 22 := ⟨Try.f22, Try.func22, by kernel_rfl, by kernel_rfl⟩
theorem es37 : Sx.elemSz Try.prog 37 = some (3, 1) := by kernel_rfl
set_option maxHeartbeats 4000000 in
set_option maxRecDepth 100000 in
theorem PiecesCopies_calls {w0 w : World} {F0 : Nat → Prop} {R : List Sx.HP} {v0 : World} (s : ByteArray) (script : List S48) (Ascript : Option Addr) (cscript : Nat) (other : List S48) (Aother : Option Addr) (cother : Nat) (hv : Sx.RO v0 w0 F0) (hzs : s.size ≤ 9223372036854775807) (hlscript : script.length ≤ cscript) (hCscript : k48.C v0 Ascript script.length script) (hmscript : script.length ≤ 9223372036854775807) (hlother : other.length ≤ cother) (hCother : k48.C v0 Aother other.length other) (hmother : other.length ≤ 9223372036854775807) (hlbscript : script.length ≤ 1048576) (hopscript : ∀ o ∈ script, o.f3.size ≤ 17592186044416) (hlbother : other.length ≤ 1048576) (hopother : ∀ o ∈ other, o.f3.size ≤ 17592186044416) (h : Sx.St w0 F0 ([] ++ R) w) : Calls Try.prog 8 #[.string (s), .slice (Ascript) (script.length) (cscript), .slice (Aother) (other.length) (cother)] w (fun e w1 => e = .returned (.bool true) ∧ Sx.St w0 F0 R w1) := by
 refine Sx.calls_fn (vs := [.string (s), .slice (Ascript) (script.length) (cscript), .slice (Aother) (other.length) (cother)]) Try.func8 rfl Try.ntmps8 rfl ?_
 refine wc_seq ?_
 refine wc_region ?_
 refine wl_v rfl rfl (ov_assign _ rfl) ?_
 refine wl_nil ?_
 refine qn_then ?_
 refine wc_seq ?_
 refine wc_seq ?_
 refine wc_region ?_
 refine wl_call _ rfl rfl rfl ent12 (AW.awake_calls (R := [] ++ R) h) ?_
 rintro e_ w_ ⟨rfl, h⟩
 refine ⟨_, rfl, ?_⟩
 refine wl_v rfl rfl (ov_notb _ rfl) ?_
 refine wl_nil ?_
 refine qn_then ?_
 refine wc_cond_false rfl ?_
 refine wc_skip ?_
 refine qn_then ?_
 refine wc_seq ?_
 refine wc_seq ?_
 refine wc_region ?_
 refine wl_v rfl rfl (ov_move _ rfl) ?_
 refine wl_call _ rfl rfl rfl ent17 (PD.right_calls (R := [] ++ R) s h) ?_
 rintro e_ w_ ⟨rfl, h⟩
 refine ⟨_, rfl, ?_⟩
 refine wl_v rfl rfl (ov_not _ (¬ (s.size ≤ 4096 ∧ (refV s).2 < 0)) rfl (by first | exact decide_not.symm | simp)) ?_
 refine wl_nil ?_
 refine qn_then ?_
 refine wc_cond (by rfl) (fun c1 => ?_) (fun c1 => ?_)
 ·
  refine wc_seq ?_
  refine wc_region ?_
  refine wl_v rfl rfl (ov_assign _ rfl) ?_
  refine wl_nil ?_
  refine qn_then ?_
  refine wc_ret ?_
  refine qn_then_ret ?_
  refine qn_ret [_] ⟨rfl, trivial⟩ ?_
  exact ⟨rfl, h⟩
 ·
  have hrt_ : s.size ≤ 4096 ∧ (refV s).2 < 0 := Classical.not_not.1 c1
  have hrs_ := hrt_.1
  refine wc_skip ?_
  refine qn_then ?_
  refine wc_seq ?_
  refine wc_region ?_
  refine wl_v rfl rfl (ov_move _ rfl) ?_
  refine wl_v rfl rfl (ov_move _ rfl) ?_
  have hnv0_ : TX.newV s = 0 := by
    rw [TX.newV_fit (by omega)]
    exact PE.right_check (by first | exact hrt_.2 | assumption)
  have hrt0_ : PE.Rt s := ⟨hrt_.2, by omega⟩
  refine wl_call _ rfl rfl rfl ent18 (PD.played_calls (R := [] ++ R) s (Ascript) (cscript) (script) (by omega) hnv0_ hopscript (by omega) hlscript (fun _ _ h_ => Sx.ro_C hv h_ hCscript) h) ?_
  rintro e_ w_ ⟨g2, D3, d4, Φ5, rfl, hD6, hDl7, h⟩
  refine ⟨_, rfl, ?_⟩
  replace h : Sx.St w0 F0 ([Pc.tx (Φ5) g2 (D3) (d4), Pc.lib (Φ5)] ++ R) _ := h
  have hfc_ := Pc.tx_facts h
  have hfs_ := hfc_.size
  refine wl_v rfl rfl (ov_move _ rfl) ?_
  refine wl_v rfl rfl (ov_extract [.pointer (some ⟨g2, 0, none⟩), .string (Pc.catB D3), .int .i64 (((min (script).length 60 : Nat) : Int))] _ rfl rfl) ?_
  refine wl_v rfl rfl (ov_extract [.pointer (some ⟨g2, 0, none⟩), .string (Pc.catB D3), .int .i64 (((min (script).length 60 : Nat) : Int))] _ rfl rfl) ?_
  refine wl_v rfl rfl (ov_extract [.pointer (some ⟨g2, 0, none⟩), .string (Pc.catB D3), .int .i64 (((min (script).length 60 : Nat) : Int))] _ rfl rfl) ?_
  refine wl_v rfl rfl (ov_assign _ rfl) ?_
  refine wl_v rfl rfl (ov_assign _ rfl) ?_
  refine wl_v rfl rfl (ov_assign _ rfl) ?_
  refine wl_nil ?_
  refine qn_then ?_
  refine wc_seq ?_
  refine wc_seq ?_
  refine wc_region ?_
  refine wl_v rfl rfl (ov_move _ rfl) ?_
  refine wl_v rfl rfl (ov_bin (.bool false) rfl rfl (binR_eqnil Try.underlying23)) ?_
  refine wl_nil ?_
  refine qn_then ?_
  refine wc_cond_false rfl ?_
  refine wc_skip ?_
  refine qn_then ?_
  refine wc_seq ?_
  refine wc_region ?_
  refine wl_v rfl rfl (ov_move _ rfl) ?_
  replace h := st_front 1 h
  replace h := st_front 1 h
  refine wl_call _ rfl rfl rfl ent26 (CP.Copy_calls (R := [] ++ R) (Φ5) g2 (D3) (d4) h) ?_
  rintro e_ w_ ⟨g8, Φ9, rfl, hsub10, h⟩
  refine ⟨_, rfl, ?_⟩
  refine wl_v rfl rfl (ov_assign _ rfl) ?_
  refine wl_nil ?_
  refine qn_then ?_
  refine wc_seq ?_
  refine wc_seq ?_
  refine wc_region ?_
  refine wl_v rfl rfl (ov_move _ rfl) ?_
  refine wl_v rfl rfl (ov_bin (.bool false) rfl rfl (binR_eqnil Try.underlying23)) ?_
  refine wl_v rfl rfl (ov_move _ rfl) ?_
  refine wl_v rfl rfl (ov_move _ rfl) ?_
  replace h := st_front 2 h
  replace h := st_front 2 h
  refine wl_call _ rfl rfl rfl ent15 (WH.String_w (R := [Pc.tx (Φ9) g2 (D3) (d4)] ++ R) (Φ9) g8 (D3) (d4)  h) ?_
  rintro e_ w_ ⟨rfl, h⟩
  refine ⟨_, rfl, ?_⟩
  refine wl_v rfl rfl (ov_move _ rfl) ?_
  refine wl_v rfl rfl (ov_bin _ rfl rfl (binR_nes)) ?_
  refine wl_v rfl rfl (ov_pick_false _ rfl rfl) ?_
  refine wl_nil ?_
  refine qn_then ?_
  refine wc_cond (by rfl) (fun c11 => ?_) (fun c11 => ?_)
  ·
   refine wc_seq ?_
   refine wc_region ?_
   refine wl_v rfl rfl (ov_assign _ rfl) ?_
   refine wl_nil ?_
   refine qn_then ?_
   refine wc_ret ?_
   refine qn_then_ret ?_
   replace h := st_selT [false, false, false] h
   refine qn_ret [_] ⟨rfl, trivial⟩ ?_
   exfalso
   first | omega | contradiction | (simp_all; done) | (simp_all; omega)
  ·
   refine wc_skip ?_
   refine qn_then ?_
   refine wc_seq ?_
   refine wc_region ?_
   refine wl_v rfl rfl (ov_move _ rfl) ?_
   refine wl_v rfl rfl (ov_move _ rfl) ?_
   refine wl_v rfl rfl (ov_assign _ rfl) ?_
   refine wl_v rfl rfl (ov_assign _ rfl) ?_
   refine wl_nil ?_
   refine qn_then ?_
   refine wc_seq ?_
   refine wc_seq ?_
   refine wc_region ?_
   refine wl_v rfl rfl (ov_assign _ rfl) ?_
   refine wl_nil ?_
   refine qn_then ?_
   refine wc_block ?_
   replace h := st_front 1 h
   replace h := st_front 1 h
   replace h := st_front 2 h
   refine wc_loop (fun (x_ : Nat × (List ByteArray) × Int × (List ByteArray) × Int × (World → Prop)) => [(0, .string (s)), (2, .slice (Aother) (other.length) (cother)), (7, .pointer (some ⟨g2, 0, none⟩)), (10, .pointer (some ⟨g8, 0, none⟩)), (11, .string (Pc.catB x_.2.1)), (12, .string (Pc.catB x_.2.2.2.1)), (13, .int .i64 (((x_.1 : Nat) : Int)))]) (fun (x_ : Nat × (List ByteArray) × Int × (List ByteArray) × Int × (World → Prop)) (w : World) => (x_.1 ≤ 40) ∧ Sx.St w0 F0 ([Pc.tx (x_.2.2.2.2.2) g2 (x_.2.1) (x_.2.2.1), Pc.tx (x_.2.2.2.2.2) g8 (x_.2.2.2.1) (x_.2.2.2.2.1), Pc.lib (x_.2.2.2.2.2)] ++ R) w) (fun (x_ : Nat × (List ByteArray) × Int × (List ByteArray) × Int × (World → Prop)) => 40 - x_.1) (0, D3, d4, D3, d4, Φ9) ?_ ?_ ?_
   · exact ⟨rfl, rfl, rfl, rfl, rfl, rfl, (congrArg (fun z_ => some (Value.int .i64 z_)) (show (0 : Int) = ((0 : Nat) : Int) by omega)), trivial⟩
   · exact ⟨Nat.zero_le _, h⟩
   rintro ⟨i, D1, d1, D2, d2, Φ⟩ w h
   obtain ⟨hJ, h⟩ := h
   replace hJ : i ≤ 40 := hJ
   replace h : Sx.St w0 F0 ([Pc.tx (Φ) g2 (D1) (d1), Pc.tx (Φ) g8 (D2) (d2), Pc.lib (Φ)] ++ R) w := h
   show Sx.WC _ _ _ _ [(0, .string (s)), (2, .slice (Aother) (other.length) (cother)), (7, .pointer (some ⟨g2, 0, none⟩)), (10, .pointer (some ⟨g8, 0, none⟩)), (11, .string (Pc.catB D1)), (12, .string (Pc.catB D2)), (13, .int .i64 (((i : Nat) : Int)))] _
   have hf1_ := (Pc.tx_facts h).size
   have hf2_ := (Pc.tx_facts (st_front 1 h)).size
   refine wc_seq ?_
   refine wc_seq ?_
   refine wc_region ?_
   refine wl_v rfl rfl (ov_move _ rfl) ?_
   refine wl_v rfl rfl (ov_move _ rfl) ?_
   refine wl_v rfl rfl (ov_len _ _ _ _ _ rfl es30) ?_
   refine wl_v rfl rfl (ov_bin _ rfl rfl (binR_lss)) ?_
   refine wl_v rfl rfl (ov_move _ rfl) ?_
   refine wl_split 45 rfl (fun c12 => ?_) (fun c12 => ?_)
   ·
    refine wl_v rfl rfl (ov_move _ rfl) ?_
    refine wl_v rfl rfl (ov_bin _ rfl rfl (binR_lss)) ?_
    refine wl_v rfl rfl (ov_pick_true _ rfl rfl) ?_
    refine wl_nil ?_
    refine qn_then ?_
    refine wc_cond (by rfl) (fun c13 => ?_) (fun c13 => ?_)
    ·
     refine wc_skip ?_
     refine qn_then ?_
     refine wc_seq ?_
     refine wc_block ?_
     refine wc_seq ?_
     refine wc_region ?_
     refine wl_v rfl rfl (ov_assign _ rfl) ?_
     refine wl_nil ?_
     refine qn_then ?_
     refine wc_seq ?_
     refine wc_seq ?_
     refine wc_region ?_
     refine wl_v rfl rfl (ov_move _ rfl) ?_
     refine wl_v rfl rfl (ov_bin _ rfl rfl (binR_rem (r := (((i : Nat) : Int)) % 2) (by decide) (Int.tmod_eq_emod_of_nonneg (by omega)))) ?_
     refine wl_v rfl rfl (ov_bin _ rfl rfl (binR_eql)) ?_
     refine wl_nil ?_
     refine qn_then ?_
     refine wc_cond (by rfl) (fun c14 => ?_) (fun c14 => ?_)
     ·
      refine wc_region ?_
      refine wl_v rfl rfl (ov_move _ rfl) ?_
      refine wl_v rfl rfl (ov_move _ rfl) ?_
      refine wl_v rfl rfl (ov_move _ rfl) ?_
      refine wl_v rfl rfl (ov_move _ rfl) ?_
      obtain ⟨ad15, rfl⟩ := Sx.C_some ((Sx.ro_C hv h hCother)) (k := (i : Nat)) (by first | assumption | omega)
      refine wl_v rfl rfl (ov_indexAddrN _ _ _ _ _ (i : Nat) rfl rfl es30 rfl (by first | assumption | omega | (simp only [List.length_take, List.length_drop, List.length_set]; omega))) ?_
      obtain ⟨cl18, _, hk17, hc16⟩ := Sx.C_cells (hCother) (z := z48) (k := (i : Nat)) (by first | assumption | omega)
      obtain rfl := k48_open hk17
      refine wl_v rfl rfl (ov_loadN _ [.bool (((other).getD (i : Nat) z48).f0), .int .i64 (((other).getD (i : Nat) z48).f1), .int .i64 (((other).getD (i : Nat) z48).f2), .string (((other).getD (i : Nat) z48).f3)] rfl sh48 (by intro j u hu; rw [Deep.add_add]; exact Sx.ro_cell hv h (hc16 _ _ hu))) ?_
      replace h := st_front 2 h
      replace h := st_front 1 h
      refine wl_call _ rfl rfl rfl ent27 (PD.edit_calls (R := [Pc.tx (Φ) g8 (D2) (d2)] ++ R) (Φ) g2 (D1) (d1) ((other).getD (i : Nat) z48) (hopother _ (by rw [List.getD_eq_getElem?_getD, List.getElem?_eq_getElem (by omega), Option.getD_some]; exact List.getElem_mem _)) h) ?_
      rintro e_ w_ ⟨D19, d20, Φ21, rfl, hsub22, ⟨hD23, hDl24⟩, h⟩
      refine ⟨_, rfl, ?_⟩
      rw [← hD23]
      refine wl_v rfl rfl (ov_move _ rfl) ?_
      refine wl_v rfl rfl (ov_extract [.string (Pc.catB D19), .bool true] _ rfl rfl) ?_
      refine wl_v rfl rfl (ov_extract [.string (Pc.catB D19), .bool true] _ rfl rfl) ?_
      refine wl_v rfl rfl (ov_assign _ rfl) ?_
      refine wl_v rfl rfl (ov_assign _ rfl) ?_
      refine wl_nil ?_
      refine qn_then ?_
      refine wc_seq ?_
      refine wc_region ?_
      refine wl_v rfl rfl (ov_move _ rfl) ?_
      refine wl_v rfl rfl (ov_notb _ rfl) ?_
      refine wl_nil ?_
      refine qn_then ?_
      refine wc_cond_false rfl ?_
      refine wc_skip ?_
      refine qn_block_normal ?_
      refine qn_then ?_
      refine wc_region ?_
      refine wl_v rfl rfl (ov_move _ rfl) ?_
      refine wl_v rfl rfl (ov_bin _ rfl rfl (binR_add (r := (((i : Nat) : Int)) + 1) (Sx.w64 (by omega)))) ?_
      refine wl_v rfl rfl (ov_assign _ rfl) ?_
      refine wl_nil ?_
      replace h := st_front 2 h
      replace h := Pc.tx_weak (Ψ := Φ21) (fun W_ z_ => (hsub22 W_ z_)) h
      replace h := st_front 2 h
      replace h := st_front 1 h
      replace h := st_front 2 h
      refine qn_next ((i + 1), D19, d20, D2, d2, Φ21) (by show 40 - (i + 1) < 40 - i; omega) ⟨rfl, (congrArg (fun z_ => some (Value.slice (some ad15) z_ (cother))) (show (other.length : Nat) = other.length by first | rfl | simp)), rfl, rfl, rfl, rfl, (congrArg (fun z_ => some (Value.int .i64 z_)) (show ((((i : Nat) : Int)) + 1 : Int) = (((i + 1) : Nat) : Int) by omega)), trivial⟩ ?_
      show ((i + 1) ≤ 40) ∧ _
      exact ⟨by omega, h⟩
     ·
      refine wc_region ?_
      refine wl_v rfl rfl (ov_move _ rfl) ?_
      refine wl_v rfl rfl (ov_move _ rfl) ?_
      refine wl_v rfl rfl (ov_move _ rfl) ?_
      refine wl_v rfl rfl (ov_move _ rfl) ?_
      obtain ⟨ad25, rfl⟩ := Sx.C_some ((Sx.ro_C hv h hCother)) (k := (i : Nat)) (by first | assumption | omega)
      refine wl_v rfl rfl (ov_indexAddrN _ _ _ _ _ (i : Nat) rfl rfl es30 rfl (by first | assumption | omega | (simp only [List.length_take, List.length_drop, List.length_set]; omega))) ?_
      obtain ⟨cl28, _, hk27, hc26⟩ := Sx.C_cells (hCother) (z := z48) (k := (i : Nat)) (by first | assumption | omega)
      obtain rfl := k48_open hk27
      refine wl_v rfl rfl (ov_loadN _ [.bool (((other).getD (i : Nat) z48).f0), .int .i64 (((other).getD (i : Nat) z48).f1), .int .i64 (((other).getD (i : Nat) z48).f2), .string (((other).getD (i : Nat) z48).f3)] rfl sh48 (by intro j u hu; rw [Deep.add_add]; exact Sx.ro_cell hv h (hc26 _ _ hu))) ?_
      replace h := st_front 2 h
      replace h := st_front 2 h
      refine wl_call _ rfl rfl rfl ent27 (PD.edit_calls (R := [Pc.tx (Φ) g2 (D1) (d1)] ++ R) (Φ) g8 (D2) (d2) ((other).getD (i : Nat) z48) (hopother _ (by rw [List.getD_eq_getElem?_getD, List.getElem?_eq_getElem (by omega), Option.getD_some]; exact List.getElem_mem _)) h) ?_
      rintro e_ w_ ⟨D29, d30, Φ31, rfl, hsub32, ⟨hD33, hDl34⟩, h⟩
      refine ⟨_, rfl, ?_⟩
      rw [← hD33]
      refine wl_v rfl rfl (ov_move _ rfl) ?_
      refine wl_v rfl rfl (ov_extract [.string (Pc.catB D29), .bool true] _ rfl rfl) ?_
      refine wl_v rfl rfl (ov_extract [.string (Pc.catB D29), .bool true] _ rfl rfl) ?_
      refine wl_v rfl rfl (ov_assign _ rfl) ?_
      refine wl_v rfl rfl (ov_assign _ rfl) ?_
      refine wl_nil ?_
      refine qn_then ?_
      refine wc_seq ?_
      refine wc_region ?_
      refine wl_v rfl rfl (ov_move _ rfl) ?_
      refine wl_v rfl rfl (ov_notb _ rfl) ?_
      refine wl_nil ?_
      refine qn_then ?_
      refine wc_cond_false rfl ?_
      refine wc_skip ?_
      refine qn_block_normal ?_
      refine qn_then ?_
      refine wc_region ?_
      refine wl_v rfl rfl (ov_move _ rfl) ?_
      refine wl_v rfl rfl (ov_bin _ rfl rfl (binR_add (r := (((i : Nat) : Int)) + 1) (Sx.w64 (by omega)))) ?_
      refine wl_v rfl rfl (ov_assign _ rfl) ?_
      refine wl_nil ?_
      replace h := st_front 2 h
      replace h := Pc.tx_weak (Ψ := Φ31) (fun W_ z_ => (hsub32 W_ z_)) h
      replace h := st_front 2 h
      replace h := st_front 2 h
      replace h := st_front 2 h
      refine qn_next ((i + 1), D1, d1, D29, d30, Φ31) (by show 40 - (i + 1) < 40 - i; omega) ⟨rfl, (congrArg (fun z_ => some (Value.slice (some ad25) z_ (cother))) (show (other.length : Nat) = other.length by first | rfl | simp)), rfl, rfl, rfl, rfl, (congrArg (fun z_ => some (Value.int .i64 z_)) (show ((((i : Nat) : Int)) + 1 : Int) = (((i + 1) : Nat) : Int) by omega)), trivial⟩ ?_
      show ((i + 1) ≤ 40) ∧ _
      exact ⟨by omega, h⟩
    ·
     refine wc_exit ?_
     refine qn_then_exit ?_
     refine qn_then_exit ?_
     refine qn_block_exit ?_
     refine qn_then ?_
     refine wc_seq ?_
     refine wc_region ?_
     refine wl_v rfl rfl (ov_move _ rfl) ?_
     replace h := st_front 2 h
     replace h := st_front 1 h
     refine wl_call _ rfl rfl rfl ent15 (WH.String_w (R := [Pc.tx (Φ) g8 (D2) (d2)] ++ R) (Φ) g2 (D1) (d1)  h) ?_
     rintro e_ w_ ⟨rfl, h⟩
     refine ⟨_, rfl, ?_⟩
     refine wl_v rfl rfl (ov_move _ rfl) ?_
     refine wl_v rfl rfl (ov_bin _ rfl rfl (binR_eqs)) ?_
     refine wl_v rfl rfl (ov_move _ rfl) ?_
     refine wl_split 80 rfl (fun c35 => ?_) (fun c35 => ?_)
     ·
      refine wl_v rfl rfl (ov_move _ rfl) ?_
      replace h := st_front 1 h
      replace h := st_front 2 h
      refine wl_call _ rfl rfl rfl ent15 (WH.String_w (R := [Pc.tx (Φ) g2 (D1) (d1)] ++ R) (Φ) g8 (D2) (d2)  h) ?_
      rintro e_ w_ ⟨rfl, h⟩
      refine ⟨_, rfl, ?_⟩
      refine wl_v rfl rfl (ov_move _ rfl) ?_
      refine wl_v rfl rfl (ov_bin _ rfl rfl (binR_eqs)) ?_
      refine wl_v rfl rfl (ov_pick_true _ rfl rfl) ?_
      refine wl_v rfl rfl (ov_move _ rfl) ?_
      refine wl_split 86 rfl (fun c36 => ?_) (fun c36 => ?_)
      ·
       refine wl_v rfl rfl (ov_move _ rfl) ?_
       replace h := st_front 1 h
       replace h := st_front 2 h
       refine wl_call _ rfl rfl rfl ent21 (WH.Lines_w (R := [Pc.tx (Φ) g8 (D2) (d2)] ++ R) (Φ) g2 (D1) (d1)  h) ?_
       rintro e_ w_ ⟨rfl, h⟩
       refine ⟨_, rfl, ?_⟩
       refine wl_v rfl rfl (ov_move _ rfl) ?_
       refine wl_call _ rfl rfl rfl ent22 (AW.Ends_calls (R := [Pc.tx (Φ) g2 (D1) (d1), Pc.lib (Φ), Pc.tx (Φ) g8 (D2) (d2)] ++ R) (Pc.catB D1) (by omega) h) ?_
       rintro e_ w_ ⟨A37, cp38, rfl, h⟩
       refine ⟨_, rfl, ?_⟩
       replace h : Sx.St w0 F0 ([Sx.row (Kd.int .i64) 3 (A37) (cp38) (AW.endsL (Pc.catB D1)), Pc.tx (Φ) g2 (D1) (d1), Pc.lib (Φ), Pc.tx (Φ) g8 (D2) (d2)] ++ R) _ := h
       have hel39 := AW.endsL_len (Pc.catB D1)
       have hen40 := Pc.nlB_le (Pc.catB D1)
       refine wl_v rfl rfl (ov_len _ _ _ _ _ rfl es37) ?_
       refine wl_v rfl rfl (ov_bin _ rfl rfl (binR_eql)) ?_
       refine wl_v rfl rfl (ov_pick_true _ rfl rfl) ?_
       refine wl_v rfl rfl (ov_move _ rfl) ?_
       refine wl_split 94 rfl (fun c41 => ?_) (fun c41 => ?_)
       ·
        refine wl_v rfl rfl (ov_move _ rfl) ?_
        replace h := st_front 2 h
        replace h := st_front 3 h
        refine wl_call _ rfl rfl rfl ent21 (WH.Lines_w (R := [Sx.row (Kd.int .i64) 3 (A37) (cp38) (AW.endsL (Pc.catB D1)), Pc.tx (Φ) g2 (D1) (d1)] ++ R) (Φ) g8 (D2) (d2)  h) ?_
        rintro e_ w_ ⟨rfl, h⟩
        refine ⟨_, rfl, ?_⟩
        refine wl_v rfl rfl (ov_move _ rfl) ?_
        refine wl_call _ rfl rfl rfl ent22 (AW.Ends_calls (R := [Pc.tx (Φ) g8 (D2) (d2), Pc.lib (Φ), Sx.row (Kd.int .i64) 3 (A37) (cp38) (AW.endsL (Pc.catB D1)), Pc.tx (Φ) g2 (D1) (d1)] ++ R) (Pc.catB D2) (by omega) h) ?_
        rintro e_ w_ ⟨A42, cp43, rfl, h⟩
        refine ⟨_, rfl, ?_⟩
        replace h : Sx.St w0 F0 ([Sx.row (Kd.int .i64) 3 (A42) (cp43) (AW.endsL (Pc.catB D2)), Pc.tx (Φ) g8 (D2) (d2), Pc.lib (Φ), Sx.row (Kd.int .i64) 3 (A37) (cp38) (AW.endsL (Pc.catB D1)), Pc.tx (Φ) g2 (D1) (d1)] ++ R) _ := h
        have hel44 := AW.endsL_len (Pc.catB D2)
        have hen45 := Pc.nlB_le (Pc.catB D2)
        refine wl_v rfl rfl (ov_len _ _ _ _ _ rfl es37) ?_
        refine wl_v rfl rfl (ov_bin _ rfl rfl (binR_eql)) ?_
        refine wl_v rfl rfl (ov_pick_true _ rfl rfl) ?_
        refine wl_v rfl rfl (ov_assign _ rfl) ?_
        refine wl_nil ?_
        refine qn_then ?_
        refine wc_ret ?_
        replace h := st_selT [false, false, false, false, false] h
        refine qn_ret [_] ⟨rfl, trivial⟩ ?_
        have b_ : (decide ((Pc.nlB (Pc.catB D2) : Int) = ((((AW.endsL (Pc.catB D2)).length : Nat) : Int)))) = true := by first | (apply decide_eq_true; omega) | (simp_all; done) | (simp_all; omega)
        exact ⟨congrArg (fun z => Ending.returned (Value.bool z)) b_, h⟩
       ·
        refine wl_skip rfl rfl ?_
        refine wl_skip rfl rfl ?_
        refine wl_skip rfl rfl ?_
        refine wl_skip rfl rfl ?_
        refine wl_skip rfl rfl ?_
        refine wl_skip rfl rfl ?_
        refine wl_v rfl rfl (ov_pick_false _ rfl rfl) ?_
        refine wl_v rfl rfl (ov_assign _ rfl) ?_
        refine wl_nil ?_
        refine qn_then ?_
        refine wc_ret ?_
        replace h := st_selT [false, false, false, false] h
        refine qn_ret [_] ⟨rfl, trivial⟩ ?_
        exfalso
        first | omega | contradiction | (simp_all; done) | (simp_all; omega)
      ·
       refine wl_skip rfl rfl ?_
       refine wl_skip rfl rfl ?_
       refine wl_skip rfl rfl ?_
       refine wl_skip rfl rfl ?_
       refine wl_skip rfl rfl ?_
       refine wl_skip rfl rfl ?_
       refine wl_v rfl rfl (ov_pick_false _ rfl rfl) ?_
       refine wl_v rfl rfl (ov_move _ rfl) ?_
       refine wl_skip rfl rfl ?_
       refine wl_skip rfl rfl ?_
       refine wl_skip rfl rfl ?_
       refine wl_skip rfl rfl ?_
       refine wl_skip rfl rfl ?_
       refine wl_skip rfl rfl ?_
       refine wl_v rfl rfl (ov_pick_false _ rfl rfl) ?_
       refine wl_v rfl rfl (ov_assign _ rfl) ?_
       refine wl_nil ?_
       refine qn_then ?_
       refine wc_ret ?_
       replace h := st_selT [false, false, false] h
       refine qn_ret [_] ⟨rfl, trivial⟩ ?_
       exfalso
       first | omega | contradiction | (simp_all; done) | (simp_all; omega)
     ·
      refine wl_skip rfl rfl ?_
      refine wl_skip rfl rfl ?_
      refine wl_skip rfl rfl ?_
      refine wl_skip rfl rfl ?_
      refine wl_v rfl rfl (ov_pick_false _ rfl rfl) ?_
      refine wl_v rfl rfl (ov_move _ rfl) ?_
      refine wl_skip rfl rfl ?_
      refine wl_skip rfl rfl ?_
      refine wl_skip rfl rfl ?_
      refine wl_skip rfl rfl ?_
      refine wl_skip rfl rfl ?_
      refine wl_skip rfl rfl ?_
      refine wl_v rfl rfl (ov_pick_false _ rfl rfl) ?_
      refine wl_v rfl rfl (ov_move _ rfl) ?_
      refine wl_skip rfl rfl ?_
      refine wl_skip rfl rfl ?_
      refine wl_skip rfl rfl ?_
      refine wl_skip rfl rfl ?_
      refine wl_skip rfl rfl ?_
      refine wl_skip rfl rfl ?_
      refine wl_v rfl rfl (ov_pick_false _ rfl rfl) ?_
      refine wl_v rfl rfl (ov_assign _ rfl) ?_
      refine wl_nil ?_
      refine qn_then ?_
      refine wc_ret ?_
      replace h := st_selT [false, false, false] h
      refine qn_ret [_] ⟨rfl, trivial⟩ ?_
      exfalso
      first | omega | contradiction | (simp_all; done) | (simp_all; omega)
   ·
    refine wl_skip rfl rfl ?_
    refine wl_skip rfl rfl ?_
    refine wl_v rfl rfl (ov_pick_false _ rfl rfl) ?_
    refine wl_nil ?_
    refine qn_then ?_
    refine wc_cond_false rfl ?_
    refine wc_exit ?_
    refine qn_then_exit ?_
    refine qn_then_exit ?_
    refine qn_block_exit ?_
    refine qn_then ?_
    refine wc_seq ?_
    refine wc_region ?_
    refine wl_v rfl rfl (ov_move _ rfl) ?_
    replace h := st_front 2 h
    replace h := st_front 1 h
    refine wl_call _ rfl rfl rfl ent15 (WH.String_w (R := [Pc.tx (Φ) g8 (D2) (d2)] ++ R) (Φ) g2 (D1) (d1)  h) ?_
    rintro e_ w_ ⟨rfl, h⟩
    refine ⟨_, rfl, ?_⟩
    refine wl_v rfl rfl (ov_move _ rfl) ?_
    refine wl_v rfl rfl (ov_bin _ rfl rfl (binR_eqs)) ?_
    refine wl_v rfl rfl (ov_move _ rfl) ?_
    refine wl_split 80 rfl (fun c46 => ?_) (fun c46 => ?_)
    ·
     refine wl_v rfl rfl (ov_move _ rfl) ?_
     replace h := st_front 1 h
     replace h := st_front 2 h
     refine wl_call _ rfl rfl rfl ent15 (WH.String_w (R := [Pc.tx (Φ) g2 (D1) (d1)] ++ R) (Φ) g8 (D2) (d2)  h) ?_
     rintro e_ w_ ⟨rfl, h⟩
     refine ⟨_, rfl, ?_⟩
     refine wl_v rfl rfl (ov_move _ rfl) ?_
     refine wl_v rfl rfl (ov_bin _ rfl rfl (binR_eqs)) ?_
     refine wl_v rfl rfl (ov_pick_true _ rfl rfl) ?_
     refine wl_v rfl rfl (ov_move _ rfl) ?_
     refine wl_split 86 rfl (fun c47 => ?_) (fun c47 => ?_)
     ·
      refine wl_v rfl rfl (ov_move _ rfl) ?_
      replace h := st_front 1 h
      replace h := st_front 2 h
      refine wl_call _ rfl rfl rfl ent21 (WH.Lines_w (R := [Pc.tx (Φ) g8 (D2) (d2)] ++ R) (Φ) g2 (D1) (d1)  h) ?_
      rintro e_ w_ ⟨rfl, h⟩
      refine ⟨_, rfl, ?_⟩
      refine wl_v rfl rfl (ov_move _ rfl) ?_
      refine wl_call _ rfl rfl rfl ent22 (AW.Ends_calls (R := [Pc.tx (Φ) g2 (D1) (d1), Pc.lib (Φ), Pc.tx (Φ) g8 (D2) (d2)] ++ R) (Pc.catB D1) (by omega) h) ?_
      rintro e_ w_ ⟨A48, cp49, rfl, h⟩
      refine ⟨_, rfl, ?_⟩
      replace h : Sx.St w0 F0 ([Sx.row (Kd.int .i64) 3 (A48) (cp49) (AW.endsL (Pc.catB D1)), Pc.tx (Φ) g2 (D1) (d1), Pc.lib (Φ), Pc.tx (Φ) g8 (D2) (d2)] ++ R) _ := h
      have hel50 := AW.endsL_len (Pc.catB D1)
      have hen51 := Pc.nlB_le (Pc.catB D1)
      refine wl_v rfl rfl (ov_len _ _ _ _ _ rfl es37) ?_
      refine wl_v rfl rfl (ov_bin _ rfl rfl (binR_eql)) ?_
      refine wl_v rfl rfl (ov_pick_true _ rfl rfl) ?_
      refine wl_v rfl rfl (ov_move _ rfl) ?_
      refine wl_split 94 rfl (fun c52 => ?_) (fun c52 => ?_)
      ·
       refine wl_v rfl rfl (ov_move _ rfl) ?_
       replace h := st_front 2 h
       replace h := st_front 3 h
       refine wl_call _ rfl rfl rfl ent21 (WH.Lines_w (R := [Sx.row (Kd.int .i64) 3 (A48) (cp49) (AW.endsL (Pc.catB D1)), Pc.tx (Φ) g2 (D1) (d1)] ++ R) (Φ) g8 (D2) (d2)  h) ?_
       rintro e_ w_ ⟨rfl, h⟩
       refine ⟨_, rfl, ?_⟩
       refine wl_v rfl rfl (ov_move _ rfl) ?_
       refine wl_call _ rfl rfl rfl ent22 (AW.Ends_calls (R := [Pc.tx (Φ) g8 (D2) (d2), Pc.lib (Φ), Sx.row (Kd.int .i64) 3 (A48) (cp49) (AW.endsL (Pc.catB D1)), Pc.tx (Φ) g2 (D1) (d1)] ++ R) (Pc.catB D2) (by omega) h) ?_
       rintro e_ w_ ⟨A53, cp54, rfl, h⟩
       refine ⟨_, rfl, ?_⟩
       replace h : Sx.St w0 F0 ([Sx.row (Kd.int .i64) 3 (A53) (cp54) (AW.endsL (Pc.catB D2)), Pc.tx (Φ) g8 (D2) (d2), Pc.lib (Φ), Sx.row (Kd.int .i64) 3 (A48) (cp49) (AW.endsL (Pc.catB D1)), Pc.tx (Φ) g2 (D1) (d1)] ++ R) _ := h
       have hel55 := AW.endsL_len (Pc.catB D2)
       have hen56 := Pc.nlB_le (Pc.catB D2)
       refine wl_v rfl rfl (ov_len _ _ _ _ _ rfl es37) ?_
       refine wl_v rfl rfl (ov_bin _ rfl rfl (binR_eql)) ?_
       refine wl_v rfl rfl (ov_pick_true _ rfl rfl) ?_
       refine wl_v rfl rfl (ov_assign _ rfl) ?_
       refine wl_nil ?_
       refine qn_then ?_
       refine wc_ret ?_
       replace h := st_selT [false, false, false, false, false] h
       refine qn_ret [_] ⟨rfl, trivial⟩ ?_
       have b_ : (decide ((Pc.nlB (Pc.catB D2) : Int) = ((((AW.endsL (Pc.catB D2)).length : Nat) : Int)))) = true := by first | (apply decide_eq_true; omega) | (simp_all; done) | (simp_all; omega)
       exact ⟨congrArg (fun z => Ending.returned (Value.bool z)) b_, h⟩
      ·
       refine wl_skip rfl rfl ?_
       refine wl_skip rfl rfl ?_
       refine wl_skip rfl rfl ?_
       refine wl_skip rfl rfl ?_
       refine wl_skip rfl rfl ?_
       refine wl_skip rfl rfl ?_
       refine wl_v rfl rfl (ov_pick_false _ rfl rfl) ?_
       refine wl_v rfl rfl (ov_assign _ rfl) ?_
       refine wl_nil ?_
       refine qn_then ?_
       refine wc_ret ?_
       replace h := st_selT [false, false, false, false] h
       refine qn_ret [_] ⟨rfl, trivial⟩ ?_
       exfalso
       first | omega | contradiction | (simp_all; done) | (simp_all; omega)
     ·
      refine wl_skip rfl rfl ?_
      refine wl_skip rfl rfl ?_
      refine wl_skip rfl rfl ?_
      refine wl_skip rfl rfl ?_
      refine wl_skip rfl rfl ?_
      refine wl_skip rfl rfl ?_
      refine wl_v rfl rfl (ov_pick_false _ rfl rfl) ?_
      refine wl_v rfl rfl (ov_move _ rfl) ?_
      refine wl_skip rfl rfl ?_
      refine wl_skip rfl rfl ?_
      refine wl_skip rfl rfl ?_
      refine wl_skip rfl rfl ?_
      refine wl_skip rfl rfl ?_
      refine wl_skip rfl rfl ?_
      refine wl_v rfl rfl (ov_pick_false _ rfl rfl) ?_
      refine wl_v rfl rfl (ov_assign _ rfl) ?_
      refine wl_nil ?_
      refine qn_then ?_
      refine wc_ret ?_
      replace h := st_selT [false, false, false] h
      refine qn_ret [_] ⟨rfl, trivial⟩ ?_
      exfalso
      first | omega | contradiction | (simp_all; done) | (simp_all; omega)
    ·
     refine wl_skip rfl rfl ?_
     refine wl_skip rfl rfl ?_
     refine wl_skip rfl rfl ?_
     refine wl_skip rfl rfl ?_
     refine wl_v rfl rfl (ov_pick_false _ rfl rfl) ?_
     refine wl_v rfl rfl (ov_move _ rfl) ?_
     refine wl_skip rfl rfl ?_
     refine wl_skip rfl rfl ?_
     refine wl_skip rfl rfl ?_
     refine wl_skip rfl rfl ?_
     refine wl_skip rfl rfl ?_
     refine wl_skip rfl rfl ?_
     refine wl_v rfl rfl (ov_pick_false _ rfl rfl) ?_
     refine wl_v rfl rfl (ov_move _ rfl) ?_
     refine wl_skip rfl rfl ?_
     refine wl_skip rfl rfl ?_
     refine wl_skip rfl rfl ?_
     refine wl_skip rfl rfl ?_
     refine wl_skip rfl rfl ?_
     refine wl_skip rfl rfl ?_
     refine wl_v rfl rfl (ov_pick_false _ rfl rfl) ?_
     refine wl_v rfl rfl (ov_assign _ rfl) ?_
     refine wl_nil ?_
     refine qn_then ?_
     refine wc_ret ?_
     replace h := st_selT [false, false, false] h
     refine qn_ret [_] ⟨rfl, trivial⟩ ?_
     exfalso
     first | omega | contradiction | (simp_all; done) | (simp_all; omega)
end Go.Proofs.Ytieieindakbpoaa.L
