/- Pruned by wip/prune.py. -/
import Derived.Test.YtieieindakbpoaaProg
import Derived.Test.YtieieindakbpoaaQSxGlue
import Derived.Test.YtieieindakbpoaaQSxRanged
import Derived.Test.YtieieindakbpoaaQSxRange1
import Derived.Test.YtieieindakbpoaaQSxFlow
import Derived.Test.YtieieindakbpoaaQSxBytes
import Derived.Test.YtieieindakbpoaaQSxKinds
import Derived.Test.YtieieindakbpoaaQPcText
import Derived.Test.YtieieindakbpoaaQPcWalk
import Derived.Test.YtieieindakbpoaaQPcRead
import Derived.Test.YtieieindakbpoaaQSxTree
import Derived.Test.YtieieindakbpoaaQSxRunes
import Derived.Test.YtieieindakbpoaaQSxLast
import Derived.Test.YtieieindakbpoaaQSxWalk
import Derived.Test.YtieieindakbpoaaQSxChunks
import Derived.Test.YtieieindakbpoaaQPcTx
import Derived.Test.YtieieindakbpoaaQSxRead
import Derived.Test.YtieieindakbpoaaQSxSplitR
import Derived.Test.YtieieindakbpoaaQSxString
namespace Go.Proofs.Ytieieindakbpoaa.TX
open Go Go.RowKit Go.Proofs.YtieieindakbpoaaW.PrintWords Go.Proofs.Ytieieindakbpoaa.Kinds Go.Proofs.Ytieieindakbpoaa.Given Go.Proofs.Ytieieindakbpoaa.Rn Go.Proofs.Ytieieindakbpoaa.Sx Go.Proofs.Ytieieindakbpoaa.Pc 
set_option linter.unusedVariables false
set_option linter.unusedSimpArgs false
theorem fo68_0 : Sx.fieldOff Try.prog 68 0 = some 0 := by kernel_rfl
theorem sh9 : Sx.shapeOf Try.prog 9 = some (false, 1) := by kernel_rfl
theorem fo68_1 : Sx.fieldOff Try.prog 68 1 = some 1 := by kernel_rfl
theorem sh41 : Sx.shapeOf Try.prog 41 = some (false, 1) := by kernel_rfl
theorem fo68_2 : Sx.fieldOff Try.prog 68 2 = some 2 := by kernel_rfl
theorem sh66 : Sx.shapeOf Try.prog 66 = some (false, 1) := by kernel_rfl
theorem ent46 : Sx.Ent Try.prog 46 := ⟨Try.f46, Try.func46, by kernel_rfl, by kernel_rfl⟩
theorem ent60 : Sx.Ent Try.prog 60 := ⟨Try.f60, Try.func60, by kernel_rfl, by kernel_rfl⟩
theorem es41 : Sx.elemSz Try.prog 41 = some (5, 1) := by kernel_rfl
theorem ent15 : Sx.Ent Try.prog 15 := ⟨Try.f15, Try.func15, by kernel_rfl, by kernel_rfl⟩
theorem ent37 : Sx.Ent Try.prog 37 := ⟨Try.f37, Try.func37, by kernel_rfl, by kernel_rfl⟩
theorem ent36 : Sx.Ent Try.prog 36 := ⟨Try.f36, Try.func36, by kernel_rfl, by kernel_rfl⟩
set_option maxHeartbeats 4000000 in
set_option maxRecDepth 100000 in
theorem lay_calls {w0 w : World} {F0 : Nat → Prop} {R : List Sx.HP} (g : Nat) (t0 : ByteArray) (v1 v2 : Value) (Φ : World → Prop) (s : ByteArray) (hs : s.size ≤ 65536) (h : Sx.St w0 F0 ([Sx.blk g [.string (t0), v1, v2] 68, Pc.lib (Φ)] ++ R) w) : Calls Try.prog 37 #[.pointer (some ⟨g, 0, none⟩), .string (s)] w (fun e w1 => ∃ (D : List ByteArray) (d : Int) (Φ2 : World → Prop), e = .returned (.tuple #[]) ∧ (∀ W, Φ2 W → Φ W) ∧ Pc.catB D = s ∧ (D.length ≤ s.size ∧ D.length ≤ 1) ∧ Sx.St w0 F0 ([Pc.tx Φ2 g D d, Pc.lib Φ2] ++ R) w1) := by
 refine Sx.calls_fn (vs := [.pointer (some ⟨g, 0, none⟩), .string (s)]) Try.func37 rfl Try.ntmps37 rfl ?_
 refine wc_seq ?_
 refine wc_region ?_
 refine wl_v rfl rfl (ov_move _ rfl) ?_
 refine wl_v rfl rfl (ov_move _ rfl) ?_
 refine wl_v rfl rfl (ov_move _ rfl) ?_
 refine wl_v rfl rfl (ov_move _ rfl) ?_
 refine wl_v rfl rfl (ov_nilCheck _ rfl) ?_
 refine wl_v rfl rfl (ov_fieldAddr _ ⟨g, 0, none⟩ _ rfl fo68_0 rfl) ?_
 refine wl_storeb 0 _ [.string (s), v1, v2] h rfl rfl rfl rfl rfl rfl sh9 rfl rfl (fun _ h => ?_)
 refine wl_v rfl rfl (ov_nilCheck _ rfl) ?_
 refine wl_v rfl rfl (ov_fieldAddr _ ⟨g, 1, none⟩ _ rfl fo68_1 rfl) ?_
 refine wl_storeb 0 _ [.string (s), .slice (none) (0) (0), v2] h rfl rfl rfl rfl rfl rfl sh41 rfl rfl (fun _ h => ?_)
 refine wl_v rfl rfl (ov_nilCheck _ rfl) ?_
 refine wl_v rfl rfl (ov_fieldAddr _ ⟨g, 2, none⟩ _ rfl fo68_2 rfl) ?_
 refine wl_storeb 0 _ [.string (s), .slice (none) (0) (0), .pointer none] h rfl rfl rfl rfl rfl rfl sh66 rfl rfl (fun _ h => ?_)
 refine wl_nil ?_
 refine qn_then ?_
 refine wc_seq ?_
 refine wc_region ?_
 refine wl_v rfl rfl (ov_move _ rfl) ?_
 refine wl_v rfl rfl (ov_bin _ rfl rfl (binR_nes)) ?_
 refine wl_nil ?_
 refine qn_then ?_
 refine wc_cond (by rfl) (fun c1 => ?_) (fun c1 => ?_)
 ·
  refine wc_region ?_
  refine wl_v rfl rfl (ov_move _ rfl) ?_
  refine wl_v rfl rfl (ov_move _ rfl) ?_
  refine wl_v rfl rfl (ov_lens _ rfl Try.underlying9) ?_
  refine wl_v rfl rfl (ov_move _ rfl) ?_
  refine wl_call _ rfl rfl rfl ent46 (RN.Lines_calls (R := [Sx.blk g [.string (s), .slice (none) (0) (0), .pointer none] 68, Pc.lib (Φ)] ++ R) s (by omega) h) ?_
  rintro e_ w_ ⟨rfl, h⟩
  refine ⟨_, rfl, ?_⟩
  have hnb2 := Pc.nlB_le s
  refine wl_v rfl rfl (ov_build [(2, .int .i64 (((s).size : Int))), (3, .int .i64 (Pc.nlB s))] [.bool false, .int .i64 (0), .int .i64 (((s).size : Int)), .int .i64 (Pc.nlB s)] rfl rfl (by kernel_rfl)) ?_
  replace h := st_front 1 h
  refine wl_call _ rfl rfl rfl ent60 (TR.made_calls (R := [Sx.blk g [.string (s), .slice (none) (0) (0), .pointer none] 68] ++ R) (Φ) Pc.AT.nil (⟨false, 0, ((s).size : Int), Pc.nlB s⟩ : S77) Pc.AT.nil (fun _ _ => trivial) (fun _ _ => trivial) (by have q1_ := Pc.nlB_le s; exact ⟨by simp [Pc.AT.fl], fun q_ hq_ => by have hq2_ : q_ = ⟨false, 0, s.size, Pc.nlB s⟩ := (by simpa [Pc.AT.fl] using hq_); rw [hq2_]; exact ⟨by show (0 : Int) ≤ s.size; omega, by show (s.size : Int) ≤ 1000000; omega, q1_.1, by show Pc.nlB s ≤ 1000000; omega⟩⟩) h) ?_
  rintro e_ w_ ⟨gm3, Φ4, rfl, hsub5, hT6, h⟩
  refine ⟨_, rfl, ?_⟩
  refine wl_v rfl rfl (ov_nilCheck _ rfl) ?_
  refine wl_v rfl rfl (ov_fieldAddr _ ⟨g, 2, none⟩ _ rfl fo68_2 rfl) ?_
  refine wl_storeb 1 _ [.string (s), .slice (none) (0) (0), .pointer (some ⟨gm3, 0, none⟩)] h rfl rfl rfl rfl rfl rfl sh66 rfl rfl (fun _ h => ?_)
  refine wl_nil ?_
  replace h := st_front 1 h
  refine qn_end [] trivial ?_
  replace h := st_front 1 (Pc.full_rowl (Φ := Φ4) (e := 5) (A := none) (c := 0) (L := []) rfl (fun _ _ => Kd.C_nil _ _) h)
  have hp_ : 0 < s.size := by
    rcases Nat.eq_zero_or_pos s.size with z_ | z_
    · exact absurd (Pc.size_zero z_) (by assumption)
    · exact z_
  obtain ⟨hw_, he_⟩ := Pc.lay_ok s hp_
  have hc_ : Pc.cat s [] (Pc.AT.fl (Pc.AT.nd gm3 Pc.AT.nil (⟨false, 0, ((s).size : Int), Pc.nlB s⟩ : S77) Pc.AT.nil)) = s := by show Pc.cat s [] ([] ++ [_]) = s; rw [List.nil_append, Pc.cat_one]; exact he_
  refine ⟨_, _, Φ4, rfl, fun W_ z_ => (hsub5 W_ z_), ?_, ?_, Pc.tx_close (s0 := s) (L := []) (T := (Pc.AT.nd gm3 Pc.AT.nil (⟨false, 0, ((s).size : Int), Pc.nlB s⟩ : S77) Pc.AT.nil)) (D := Pc.chs s [] (Pc.AT.fl (Pc.AT.nd gm3 Pc.AT.nil (⟨false, 0, ((s).size : Int), Pc.nlB s⟩ : S77) Pc.AT.nil))) (d := Pc.AT.ht (Pc.AT.nd gm3 Pc.AT.nil (⟨false, 0, ((s).size : Int), Pc.nlB s⟩ : S77) Pc.AT.nil)) rfl ⟨hT6, ⟨trivial, trivial, by show (0 : Int) ≤ 0 + 1; omega, by show (0 : Int) ≤ 0 + 1; omega⟩, ?_, Pc.bytes_nil, rfl, rfl, hs, Nat.zero_le _, by rw [hc_]; exact hs⟩ h⟩
  · rw [Pc.catB_chs, hc_]
  · rw [Pc.chs_len]
    show ([] ++ [_] : List _).length ≤ s.size ∧ ([] ++ [_] : List _).length ≤ 1
    rw [List.nil_append, List.length_singleton]
    omega
  · intro q_ hq_
    have hq2_ : q_ = ⟨false, 0, s.size, Pc.nlB s⟩ := by simpa [Pc.AT.fl] using hq_
    rw [hq2_]
    exact hw_
 ·
  refine wc_skip ?_
  replace h := st_front 1 h
  replace h := st_front 1 h
  refine qn_end [] trivial ?_
  replace h := st_front 1 (Pc.full_rowl (Φ := Φ) (e := 5) (A := none) (c := 0) (L := []) rfl (fun _ _ => Kd.C_nil _ _) h)
  have hs0_ : s = ByteArray.empty := Classical.not_not.1 c1
  refine ⟨[], 0, _, rfl, fun W_ z_ => z_, ?_, ⟨Nat.zero_le _, Nat.zero_le _⟩, Pc.tx_close (s0 := s) (L := []) (T := Pc.AT.nil) rfl ⟨fun _ _ => trivial, trivial, Pc.wf_nil, Pc.bytes_nil, rfl, rfl, hs, Nat.zero_le _, Nat.zero_le _⟩ h⟩
  rw [hs0_]; rfl
set_option maxHeartbeats 4000000 in
set_option maxRecDepth 100000 in
theorem tidy_calls {w0 w : World} {F0 : Nat → Prop} {R : List Sx.HP} (g : Nat) (s0 : ByteArray) (A : Option Addr) (c : Nat) (L : List Int) (T : Pc.AT) (Φ : World → Prop) (hlc : L.length ≤ c) (hT : ∀ W, Φ W → Pc.At W T) (hbal : Pc.AT.bal T) (hw : Pc.Wf s0 L (Pc.AT.fl T)) (hb : Pc.Bytes L) (hz0 : s0.size ≤ 65536) (hzL : L.length ≤ 327680) (hcz : (Pc.cat s0 L (Pc.AT.fl T)).size ≤ 65536) (h : Sx.St w0 F0 ([Sx.blk g [.string (s0), .slice (A) (L.length) (c), .pointer (Pc.AT.ptr T)] 68, Pc.rowl (Φ) 5 (A) (c) (L), Pc.lib (Φ)] ++ R) w) : Calls Try.prog 49 #[.pointer (some ⟨g, 0, none⟩)] w (fun e w1 => ∃ (D : List ByteArray) (d : Int) (Φ2 : World → Prop), e = .returned (.tuple #[]) ∧ (∀ W, Φ2 W → Φ W) ∧ Pc.catB D = Pc.cat s0 L (Pc.AT.fl T) ∧ D.length ≤ (Pc.AT.fl T).length ∧ Sx.St w0 F0 ([Pc.tx Φ2 g D d, Pc.lib Φ2] ++ R) w1) := by
 refine Sx.calls_fn (vs := [.pointer (some ⟨g, 0, none⟩)]) Try.func49 rfl Try.ntmps49 rfl ?_
 refine wc_seq ?_
 refine wc_region ?_
 refine wl_v rfl rfl (ov_move _ rfl) ?_
 refine wl_v rfl rfl (ov_nilCheck _ rfl) ?_
 refine wl_v rfl rfl (ov_fieldAddr _ ⟨g, 1, none⟩ _ rfl fo68_1 rfl) ?_
 refine wl_v rfl rfl (ov_loadb 0 _ h rfl rfl sh41 rfl) ?_
 refine wl_v rfl rfl (ov_len _ _ _ _ _ rfl es41) ?_
 refine wl_v rfl rfl (ov_bin _ rfl rfl (binR_gtr)) ?_
 refine wl_nil ?_
 refine qn_then ?_
 refine wc_cond (by rfl) (fun c1 => ?_) (fun c1 => ?_)
 ·
  refine wc_region ?_
  refine wl_v rfl rfl (ov_move _ rfl) ?_
  refine wl_v rfl rfl (ov_move _ rfl) ?_
  replace h := st_front 2 h
  replace h := st_front 2 h
  replace h := st_front 2 h
  refine wl_call _ rfl rfl rfl ent15 (ST.String_calls (R := [] ++ R) g s0 A c L T (Φ) (Φ) (fun W_ z_ => z_) hT (by omega) (by omega) hlc hb hw (by omega) h) ?_
  rintro e_ w_ ⟨rfl, h⟩
  refine ⟨_, rfl, ?_⟩
  replace h := st_front 2 h
  replace h := st_front 1 h
  refine wl_call _ rfl rfl rfl ent37 (TX.lay_calls (R := [Pc.rowl (Φ) 5 (A) (c) (L)] ++ R) g (s0) (.slice (A) (L.length) (c)) (.pointer (Pc.AT.ptr T)) (Φ) (Pc.cat s0 L (Pc.AT.fl T)) (by omega) h) ?_
  rintro e_ w_ ⟨D2, d3, Φ4, rfl, hsub5, hD6, hDl7, h⟩
  refine ⟨_, rfl, ?_⟩
  refine wl_nil ?_
  refine qn_end [] trivial ?_
  replace h := st_front 1 h
  replace h := st_front 1 h
  replace h := st_selT [true, true, false] h
  refine ⟨D2, d3, Φ4, rfl, fun W_ z_ => (hsub5 W_ z_), hD6, ?_, h⟩
  have hsz_ := Pc.cat_size hw
  rcases Nat.eq_zero_or_pos (Pc.AT.fl T).length with z_ | z_
  · have q_ := List.eq_nil_of_length_eq_zero z_
    rw [q_] at hsz_ hDl7
    rw [Pc.szF_nil] at hsz_
    omega
  · omega
 ·
  refine wc_skip ?_
  refine qn_end [] trivial ?_
  replace h := st_front 2 h
  replace h := st_front 2 h
  replace h := st_front 2 h
  exact ⟨_, _, Φ, rfl, fun _ z_ => z_, Pc.catB_chs _ _ _, by rw [Pc.chs_len]; exact Nat.le_refl _, Pc.tx_close rfl ⟨hT, hbal, hw, hb, rfl, rfl, hz0, by omega, hcz⟩ h⟩
/-- New's answer. -/
def newV (s : ByteArray) : Int := if 65536 < s.size then 31 else checkV s
theorem check_two (s : ByteArray) : checkV s = 0 ∨ checkV s = 20 := by
  unfold checkV
  split
  · exact .inr rfl
  · exact .inl rfl
theorem newV_big {s : ByteArray} (h : 65536 < s.size) : newV s = 31 := if_pos h
theorem newV_fit {s : ByteArray} (h : s.size ≤ 65536) : newV s = checkV s := if_neg (by omega)
set_option maxHeartbeats 4000000 in
set_option maxRecDepth 100000 in
theorem New_calls {w0 w : World} {F0 : Nat → Prop} {R : List Sx.HP} (s : ByteArray) (h : Sx.St w0 F0 R w) : Calls Try.prog 13 #[.string s] w (fun e w1 => (TX.newV s ≠ 0 ∧ e = .returned (.tuple #[.pointer none, .int .i64 (TX.newV s)]) ∧ Sx.St w0 F0 R w1) ∨ (TX.newV s = 0 ∧ ∃ (g : Nat) (D : List ByteArray) (d : Int) (Φ : World → Prop), e = .returned (.tuple #[.pointer (some ⟨g, 0, none⟩), .int .i64 0]) ∧ Pc.catB D = s ∧ D.length ≤ 1 ∧ Sx.St w0 F0 ([Pc.tx Φ g D d, Pc.lib Φ] ++ R) w1)) := by
 replace h := Pc.lib_nil h
 replace h : Sx.St w0 F0 ([Pc.lib (fun _ => True)] ++ R) _ := h
 refine Sx.calls_fn (vs := [.string (s)]) Try.func13 rfl Try.ntmps13 rfl ?_
 refine wc_seq ?_
 refine wc_region ?_
 refine wl_v rfl rfl (ov_assign _ rfl) ?_
 refine wl_v rfl rfl (ov_assign _ rfl) ?_
 refine wl_nil ?_
 refine qn_then ?_
 refine wc_seq ?_
 refine wc_seq ?_
 refine wc_region ?_
 refine wl_v rfl rfl (ov_move _ rfl) ?_
 refine wl_v rfl rfl (ov_lens _ rfl Try.underlying9) ?_
 refine wl_v rfl rfl (ov_bin _ rfl rfl (binR_gtr)) ?_
 refine wl_nil ?_
 refine qn_then ?_
 refine wc_cond (by rfl) (fun c1 => ?_) (fun c1 => ?_)
 ·
  refine wc_seq ?_
  refine wc_region ?_
  refine wl_v rfl rfl (ov_assign _ rfl) ?_
  refine wl_v rfl rfl (ov_assign _ rfl) ?_
  refine wl_nil ?_
  refine qn_then ?_
  refine wc_ret ?_
  refine qn_then_ret ?_
  refine qn_ret [_, _] ⟨rfl, rfl, trivial⟩ ?_
  replace h := st_selT [false] h
  have e_ : TX.newV s = 31 := by first | exact TX.newV_big (by omega) | exact TX.newV_fit (by omega)
  rw [← e_]
  exact .inl ⟨by rw [e_]; first | decide | assumption | omega, rfl, h⟩
 ·
  refine wc_skip ?_
  refine qn_then ?_
  refine wc_seq ?_
  refine wc_seq ?_
  refine wc_region ?_
  refine wl_v rfl rfl (ov_move _ rfl) ?_
  refine wl_call _ rfl rfl rfl ent36 (RN.RCheck_calls (R := [Pc.lib (fun _ => True)] ++ R) s (by omega) h) ?_
  rintro e_ w_ ⟨rfl, h⟩
  refine ⟨_, rfl, ?_⟩
  refine wl_v rfl rfl (ov_assign _ rfl) ?_
  refine wl_nil ?_
  refine qn_then ?_
  refine wc_seq ?_
  refine wc_region ?_
  refine wl_v rfl rfl (ov_move _ rfl) ?_
  refine wl_v rfl rfl (ov_bin _ rfl rfl (binR_neq)) ?_
  refine wl_nil ?_
  refine qn_then ?_
  refine wc_cond (by rfl) (fun c2 => ?_) (fun c2 => ?_)
  ·
   refine wc_seq ?_
   refine wc_region ?_
   refine wl_v rfl rfl (ov_move _ rfl) ?_
   refine wl_v rfl rfl (ov_assign _ rfl) ?_
   refine wl_v rfl rfl (ov_assign _ rfl) ?_
   refine wl_nil ?_
   refine qn_then ?_
   refine wc_ret ?_
   refine qn_then_ret ?_
   refine qn_ret [_, _] ⟨rfl, rfl, trivial⟩ ?_
   replace h := st_selT [false] h
   have e_ : TX.newV s = checkV s := by first | exact TX.newV_big (by omega) | exact TX.newV_fit (by omega)
   rw [← e_]
   exact .inl ⟨by rw [e_]; first | decide | assumption | omega, rfl, h⟩
  ·
   refine wc_skip ?_
   refine qn_then ?_
   refine wc_seq ?_
   refine wc_region ?_
   refine wl_v rfl rfl (ov_build [] [.string (ByteArray.empty), .slice (none) (0) (0), .pointer none] rfl rfl (by kernel_rfl)) ?_
   refine wl_box _ h rfl rfl rfl (fun b3 _ h => ?_)
   replace h : Sx.St _ _ (Sx.blk b3 [.string (ByteArray.empty), .slice (none) (0) (0), .pointer none] 68 :: _) _ := h
   refine wl_v rfl rfl (ov_assign _ rfl) ?_
   refine wl_nil ?_
   refine qn_then ?_
   refine wc_seq ?_
   refine wc_region ?_
   refine wl_v rfl rfl (ov_move _ rfl) ?_
   refine wl_v rfl rfl (ov_move _ rfl) ?_
   replace h := st_front 1 h
   replace h := st_front 1 h
   refine wl_call _ rfl rfl rfl ent37 (TX.lay_calls (R := [] ++ R) b3 (ByteArray.empty) (.slice (none) (0) (0)) (.pointer none) (fun _ => True) s (by omega) h) ?_
   rintro e_ w_ ⟨D4, d5, Φ6, rfl, hsub7, hD8, hDl9, h⟩
   refine ⟨_, rfl, ?_⟩
   refine wl_nil ?_
   refine qn_then ?_
   refine wc_seq ?_
   refine wc_region ?_
   refine wl_v rfl rfl (ov_move _ rfl) ?_
   refine wl_v rfl rfl (ov_assign _ rfl) ?_
   refine wl_v rfl rfl (ov_assign _ rfl) ?_
   refine wl_nil ?_
   refine qn_then ?_
   refine wc_ret ?_
   refine qn_ret [_, _] ⟨rfl, rfl, trivial⟩ ?_
   replace h := st_front 1 h
   replace h := st_front 1 h
   have e_ : TX.newV s = 0 := by rw [TX.newV_fit (by omega)]; omega
   exact .inr ⟨e_, b3, D4, d5, Φ6, rfl, hD8, hDl9.2, h⟩
end Go.Proofs.Ytieieindakbpoaa.TX
