/- Pruned by wip/prune.py. -/
import Derived.Test.YtieieindakbpoaaProg
import Derived.Test.YtieieindakbpoaaQSxGlue
import Derived.Test.YtieieindakbpoaaQSxRanged
import Derived.Test.YtieieindakbpoaaQSxRange1
import Derived.Test.YtieieindakbpoaaQSxFlow
import Derived.Test.YtieieindakbpoaaQSxBytes
import Derived.Test.YtieieindakbpoaaQSxKinds
import Derived.Test.YtieieindakbpoaaQPcText
import Derived.Test.YtieieindakbpoaaQPcWalk
import Derived.Test.YtieieindakbpoaaQPcRead
import Derived.Test.YtieieindakbpoaaQSxTree
import Derived.Test.YtieieindakbpoaaQSxRunes
import Derived.Test.YtieieindakbpoaaQSxLast
import Derived.Test.YtieieindakbpoaaQSxWalk
import Derived.Test.YtieieindakbpoaaQSxChunks
import Derived.Test.YtieieindakbpoaaQPcTx
import Derived.Test.YtieieindakbpoaaQSxRead
import Derived.Test.YtieieindakbpoaaQSxSplitR
import Derived.Test.YtieieindakbpoaaQSxString
import Derived.Test.YtieieindakbpoaaQSxText
import Derived.Test.YtieieindakbpoaaQSxEdit
import Derived.Test.YtieieindakbpoaaQSxWhole
import Derived.Test.YtieieindakbpoaaQPcEdit
import Derived.Test.YtieieindakbpoaaQSxPlayed
import Derived.Test.YtieieindakbpoaaQSxAwake
import Derived.Test.YtieieindakbpoaaQSxGather
namespace Go.Proofs.Ytieieindakbpoaa.CN
open Go Go.RowKit Go.Proofs.YtieieindakbpoaaW.PrintWords Go.Proofs.Ytieieindakbpoaa.Kinds Go.Proofs.Ytieieindakbpoaa.Given Go.Proofs.Ytieieindakbpoaa.Rn Go.Proofs.Ytieieindakbpoaa.Sx Go.Proofs.Ytieieindakbpoaa.Pc 
set_option linter.unusedVariables false
set_option linter.unusedSimpArgs false
theorem ent16 : Sx.Ent Try.prog 16 := ⟨Try.f16, Try.func16, by kernel_rfl, by kernel_rfl⟩
theorem fo68_2 : Sx.fieldOff Try.prog 68 2 = some 2 := by kernel_rfl
theorem sh66 : Sx.shapeOf Try.prog 66 = some (false, 1) := by kernel_rfl
theorem fo89_0 : Sx.fieldOff Try.prog 89 0 = some 0 := by kernel_rfl
theorem ent39 : Sx.Ent Try.prog 39 := ⟨Try.f39, Try.func39, by kernel_rfl, by kernel_rfl⟩
theorem ent43 : Sx.Ent Try.prog 43 := ⟨Try.f43, Try.func43, by kernel_rfl, by kernel_rfl⟩
theorem fo89_2 : Sx.fieldOff Try.prog 89 2 = some 2 := by kernel_rfl
theorem fo77_2 : Sx.fieldOff Try.prog 77 2 = some 2 := by kernel_rfl
theorem sh3 : Sx.shapeOf Try.prog 3 = some (false, 1) := by kernel_rfl
theorem sh77 : Sx.shapeOf Try.prog 77 = some (true, 4) := by kernel_rfl
theorem ent58 : Sx.Ent Try.prog 58 := ⟨Try.f58, Try.func58, by kernel_rfl, by kernel_rfl⟩
theorem ent57 : Sx.Ent Try.prog 57 := ⟨Try.f57, Try.func57, by kernel_rfl, by kernel_rfl⟩
theorem fo77_3 : Sx.fieldOff Try.prog 77 3 = some 3 := by kernel_rfl
theorem fo89_1 : Sx.fieldOff Try.prog 89 1 = some 1 := by kernel_rfl
theorem ent21 : Sx.Ent Try.prog 21 := ⟨Try.f21, Try.func21, by kernel_rfl, by kernel_rfl⟩
def befV (C : ByteArray) (k : Int) : Int := Pc.nlB (GA.part C 0 k)
theorem part_zero (C : ByteArray) (m k : Int) (h : m ≤ 0) : GA.part C m k = GA.part C 0 k := by unfold GA.part; rw [show m.toNat = 0 by omega, show (0 : Int).toNat = 0 from rfl]
theorem part_all {C : ByteArray} {k : Int} (h : (C.size : Int) ≤ k) : GA.part C 0 k = C := by
  unfold GA.part
  refine Pc.ba_ext (by rw [ByteArray.size_extract]; omega) fun i hi => ?_
  rw [ByteArray.size_extract] at hi
  rw [show ((0 : Int).toNat) = 0 from rfl, GA.bt_ex _ _ _ _ (by omega) (by omega), show (i : Int) + ((0 : Nat) : Int) = (i : Int) by omega]
section
variable {s0 : ByteArray} {L : List Int}
theorem bef_nd {l r : List Pc.P1} {p : Pc.P1} (hl : Pc.Wf s0 L l) (hp : Pc.WfP s0 L p) (k : Int) (h0 : 0 ≤ k) :
    (k ≤ Pc.szF l → befV (Pc.cat s0 L (l ++ p :: r)) k = befV (Pc.cat s0 L l) k) ∧ (Pc.szF l ≤ k → k ≤ Pc.szF l + p.f2 → befV (Pc.cat s0 L (l ++ p :: r)) k = Pc.lnF l + befV (Pc.txP s0 L p) (k - Pc.szF l)) ∧
    (Pc.szF l + p.f2 ≤ k → befV (Pc.cat s0 L (l ++ p :: r)) k = Pc.lnF l + p.f3 + befV (Pc.cat s0 L r) (k - (Pc.szF l + p.f2))) := by
  have e1 := Pc.cat_size hl
  have e2 := Pc.tx_size hp
  have e3 := Pc.cat_lines hl
  have e4 := hp.f3
  have hf := hp.f1
  have hn := GA.part_nd (r := r) hl hp 0 k
  have hb : befV (Pc.cat s0 L (l ++ p :: r)) k = befV (Pc.cat s0 L l) k + (befV (Pc.txP s0 L p) (k - Pc.szF l) + befV (Pc.cat s0 L r) (k - (Pc.szF l + p.f2))) := by
    unfold befV
    rw [hn, Pc.nlB_app, Pc.nlB_app, part_zero _ (0 - Pc.szF l) _ (by omega), part_zero _ (0 - (Pc.szF l + p.f2)) _ (by omega)]
  have z : ∀ (C : ByteArray) (j : Int), j ≤ 0 → befV C j = 0 := fun C j hj => by unfold befV; rw [GA.part_none (.inr (.inl hj))]; rfl
  have a : ∀ (C : ByteArray) (j : Int), (C.size : Int) ≤ j → befV C j = Pc.nlB C := fun C j hj => by unfold befV; rw [part_all hj]
  refine ⟨fun h => ?_, fun h h2 => ?_, fun h => ?_⟩
  · rw [hb, z (Pc.txP s0 L p) (k - Pc.szF l) (by omega), z (Pc.cat s0 L r) (k - (Pc.szF l + p.f2)) (by omega)]; omega
  · rw [hb, a (Pc.cat s0 L l) k (by omega), z (Pc.cat s0 L r) (k - (Pc.szF l + p.f2)) (by omega)]; omega
  · rw [hb, a (Pc.cat s0 L l) k (by omega), a (Pc.txP s0 L p) (k - Pc.szF l) (by omega)]; omega
theorem bef_le (C : ByteArray) (k : Int) : 0 ≤ befV C k ∧ befV C k ≤ C.size := by
  have h1 := Pc.nlB_le (GA.part C 0 k)
  have h2 := GA.part_le C 0 k
  unfold befV
  omega
theorem bef_nil (k : Int) : befV ByteArray.empty k = 0 := by
  have := bef_le ByteArray.empty k
  have h : (ByteArray.empty.size : Int) = 0 := rfl
  omega
/-- The places of the line ends of a joined text. -/
theorem endsF_shift (A B : ByteArray) : ∀ (m p : Nat), AW.endsF (A ++ B) m (A.size + p) = (AW.endsF B m p).map (· + (A.size : Int))
  | 0, p => rfl
  | m + 1, p => by
    unfold AW.endsF
    rw [ByteArray.size_append]
    by_cases c : p < B.size
    · rw [if_pos (by omega), if_pos c, List.map_append, ← endsF_shift A B m (p + 1), show A.size + p + 1 = A.size + (p + 1) by omega, Pc.bt_right _ _ (by omega), show ((A.size + p : Nat) : Int) - (A.size : Int) = (p : Int) by omega]
      congr 1
      split
      · simp; omega
      · rfl
    · rw [if_neg (by omega), if_neg c]; rfl
theorem endsF_left (A B : ByteArray) : ∀ (m p : Nat), p + m = A.size → AW.endsF (A ++ B) (m + (B.size + 1)) p = AW.endsF A (m + 1) p ++ AW.endsF (A ++ B) (B.size + 1) A.size
  | 0, p, h => by
    have hp : p = A.size := by omega
    subst hp
    rw [Nat.zero_add]
    have : AW.endsF A (0 + 1) A.size = [] := by unfold AW.endsF; rw [if_neg (by omega)]
    rw [this, List.nil_append]
  | m + 1, p, h => by
    rw [show m + 1 + (B.size + 1) = (m + (B.size + 1)) + 1 by omega]
    have e1 : AW.endsF (A ++ B) ((m + (B.size + 1)) + 1) p = if p < (A ++ B).size then (if bt (A ++ B) p = 10 then [(p : Int)] else []) ++ AW.endsF (A ++ B) (m + (B.size + 1)) (p + 1) else [] := rfl
    have e2 : AW.endsF A ((m + 1) + 1) p = if p < A.size then (if bt A p = 10 then [(p : Int)] else []) ++ AW.endsF A (m + 1) (p + 1) else [] := rfl
    rw [e1, e2, ByteArray.size_append, if_pos (show p < A.size + B.size by omega), if_pos (show p < A.size by omega), endsF_left A B m (p + 1) (by omega), bt_append_left _ _ _ (by omega) (by omega), List.append_assoc]
theorem ends_app (A B : ByteArray) : AW.endsL (A ++ B) = AW.endsL A ++ (AW.endsL B).map (· + (A.size : Int)) := by
  unfold AW.endsL
  rw [ByteArray.size_append, show A.size + B.size + 1 = A.size + (B.size + 1) by omega, endsF_left A B A.size 0 (by omega)]
  exact congrArg _ (endsF_shift A B (B.size + 1) 0)
theorem ends_nd {l r : List Pc.P1} {p : Pc.P1} (hl : Pc.Wf s0 L l) (hp : Pc.WfP s0 L p) (hr : Pc.Wf s0 L r) (n : Int) (h0 : 0 ≤ n) :
    (n < Pc.lnF l → (AW.endsL (Pc.cat s0 L (l ++ p :: r))).getD n.toNat 0 = (AW.endsL (Pc.cat s0 L l)).getD n.toNat 0) ∧
    (Pc.lnF l ≤ n → n < Pc.lnF l + p.f3 → (AW.endsL (Pc.cat s0 L (l ++ p :: r))).getD n.toNat 0 = (AW.endsL (Pc.txP s0 L p)).getD (n - Pc.lnF l).toNat 0 + Pc.szF l) ∧
    (Pc.lnF l + p.f3 ≤ n → n < Pc.lnF l + p.f3 + Pc.lnF r → (AW.endsL (Pc.cat s0 L (l ++ p :: r))).getD n.toNat 0 = (AW.endsL (Pc.cat s0 L r)).getD (n - (Pc.lnF l + p.f3)).toNat 0 + (Pc.szF l + p.f2)) := by
  have e1 := Pc.cat_size hl
  have e2 := Pc.tx_size hp
  have c1 := AW.endsL_len (Pc.cat s0 L l)
  have c2 := AW.endsL_len (Pc.txP s0 L p)
  have c3 := AW.endsL_len (Pc.cat s0 L r)
  rw [Pc.cat_lines hl] at c1
  rw [← hp.f3] at c2
  rw [Pc.cat_lines hr] at c3
  have n1 := Pc.nlB_le (Pc.cat s0 L l)
  rw [Pc.cat_lines hl] at n1
  have key : AW.endsL (Pc.cat s0 L (l ++ p :: r)) = AW.endsL (Pc.cat s0 L l) ++ (AW.endsL (Pc.txP s0 L p) ++ (AW.endsL (Pc.cat s0 L r)).map (· + p.f2)).map (· + Pc.szF l) := by
    rw [Pc.cat_app]
    simp only [Pc.cat]
    rw [ends_app, ends_app, e1, e2]
  rw [key]
  have gd : ∀ (X : List Int) (d : Int) (j : Nat), j < X.length → (X.map (· + d)).getD j 0 = X.getD j 0 + d := fun X d j hj => by
    rw [List.getD_eq_getElem?_getD, List.getD_eq_getElem?_getD, List.getElem?_map, List.getElem?_eq_getElem hj]; rfl
  have gl : ∀ (X Y : List Int) (j : Nat), j < X.length → (X ++ Y).getD j 0 = X.getD j 0 := fun X Y j hj => by
    rw [List.getD_eq_getElem?_getD, List.getD_eq_getElem?_getD, List.getElem?_append_left hj]
  have gr : ∀ (X Y : List Int) (j : Nat), X.length ≤ j → (X ++ Y).getD j 0 = Y.getD (j - X.length) 0 := fun X Y j hj => by
    rw [List.getD_eq_getElem?_getD, List.getD_eq_getElem?_getD, List.getElem?_append_right hj]
  refine ⟨fun h => gl _ _ _ (by omega), fun h h2 => ?_, fun h h2 => ?_⟩
  · rw [gr _ _ _ (by omega), gd _ _ _ (by rw [List.length_append, List.length_map]; omega), gl _ _ _ (by omega), show n.toNat - (AW.endsL (Pc.cat s0 L l)).length = (n - Pc.lnF l).toNat by omega]
  · rw [gr _ _ _ (by omega), gd _ _ _ (by rw [List.length_append, List.length_map]; omega), gr _ _ _ (by omega), gd _ _ _ (by omega), show n.toNat - (AW.endsL (Pc.cat s0 L l)).length - (AW.endsL (Pc.txP s0 L p)).length = (n - (Pc.lnF l + p.f3)).toNat by omega]
    omega
end
set_option maxHeartbeats 4000000 in
set_option maxRecDepth 100000 in
theorem pends_calls {w0 w : World} {F0 : Nat → Prop} {R : List Sx.HP} (s : ByteArray) (hs : s.size ≤ 1099511627776) (h : Sx.St w0 F0 ([] ++ R) w) : Calls Try.prog 57 #[.string (s)] w (fun e w1 => e = .returned (.int .i64 (Pc.nlB s)) ∧ Sx.St w0 F0 ([] ++ R) w1) := by
 refine Sx.calls_fn (vs := [.string (s)]) Try.func57 rfl Try.ntmps57 rfl ?_
 refine wc_seq ?_
 refine wc_region ?_
 refine wl_v rfl rfl (ov_assign _ rfl) ?_
 refine wl_nil ?_
 refine qn_then ?_
 refine wc_seq ?_
 refine wc_region ?_
 refine wl_v rfl rfl (ov_assign _ rfl) ?_
 refine wl_nil ?_
 refine qn_then ?_
 refine wc_seq ?_
 refine wc_seq ?_
 refine wc_region ?_
 refine wl_v rfl rfl (ov_move _ rfl) ?_
 refine wl_v rfl rfl (ov_lens _ rfl Try.underlying9) ?_
 refine wl_v rfl rfl (ov_move _ rfl) ?_
 refine wl_nil ?_
 refine qn_then ?_
 refine wc_block ?_
 refine wc_loop (fun (x_ : Nat × Nat) => [(0, .string (s)), (3, .int .i64 (((x_.2 : Nat) : Int))), (6, .int .i64 ((s.size : Int))), (7, .int .i64 (((x_.1 : Nat) : Int)))]) (fun (x_ : Nat × Nat) (w : World) => (x_.1 ≤ s.size ∧ x_.2 + Pc.nlF s x_.1 = Pc.nlF s 0 ∧ x_.2 ≤ x_.1) ∧ Sx.St w0 F0 ([] ++ R) w) (fun (x_ : Nat × Nat) => s.size - x_.1) (0, 0) ?_ ?_ ?_
 · exact ⟨rfl, (congrArg (fun z_ => some (Value.int .i64 z_)) (show (0 : Int) = ((0 : Nat) : Int) by omega)), (congrArg (fun z_ => some (Value.int .i64 z_)) (show (((s).size : Int) : Int) = (s.size : Int) by omega)), (congrArg (fun z_ => some (Value.int .i64 z_)) (show (0 : Int) = ((0 : Nat) : Int) by omega)), trivial⟩
 · exact ⟨⟨Nat.zero_le _, Nat.zero_add _, Nat.le_refl _⟩, h⟩
 rintro ⟨p, n⟩ w h
 obtain ⟨hJ, h⟩ := h
 replace hJ : p ≤ s.size ∧ n + Pc.nlF s p = Pc.nlF s 0 ∧ n ≤ p := hJ
 replace h : Sx.St w0 F0 ([] ++ R) w := h
 show Sx.WC _ _ _ _ [(0, .string (s)), (3, .int .i64 (((n : Nat) : Int))), (6, .int .i64 ((s.size : Int))), (7, .int .i64 (((p : Nat) : Int)))] _
 refine wc_seq ?_
 refine wc_region ?_
 refine wl_v rfl rfl (ov_bin _ rfl rfl (binR_lss)) ?_
 refine wl_nil ?_
 refine qn_then ?_
 refine wc_seq ?_
 refine wc_cond (by rfl) (fun c1 => ?_) (fun c1 => ?_)
 ·
  refine wc_skip ?_
  refine qn_then ?_
  refine wc_seq ?_
  refine wc_block ?_
  refine wc_seq ?_
  refine wc_region ?_
  refine wl_v rfl rfl (ov_move _ rfl) ?_
  refine wl_v rfl rfl (ov_assign _ rfl) ?_
  refine wl_nil ?_
  refine qn_then ?_
  refine wc_seq ?_
  refine wc_region ?_
  refine wl_v rfl rfl (ov_move _ rfl) ?_
  refine wl_v rfl rfl (ov_move _ rfl) ?_
  have hbt2 := Go.Proofs.Ytieieindakbpoaa.Given.bt_nonneg s (((p : Nat) : Int))
  refine wl_v rfl rfl (ov_indexbt _ _ rfl rfl Try.underlying9 (by omega) (by omega)) ?_
  refine wl_v rfl rfl (ov_bin _ rfl rfl (binR_eql)) ?_
  refine wl_nil ?_
  refine qn_then ?_
  refine wc_cond (by rfl) (fun c3 => ?_) (fun c3 => ?_)
  ·
   refine wc_region ?_
   refine wl_v rfl rfl (ov_move _ rfl) ?_
   refine wl_v rfl rfl (ov_bin _ rfl rfl (binR_add (r := (((n : Nat) : Int)) + 1) (Sx.w64 (by omega)))) ?_
   refine wl_v rfl rfl (ov_assign _ rfl) ?_
   refine wl_nil ?_
   refine qn_block_normal ?_
   refine qn_then ?_
   refine wc_region ?_
   refine wl_v rfl rfl (ov_bin _ rfl rfl (binR_add (r := (((p : Nat) : Int)) + 1) (Sx.w64 (by omega)))) ?_
   refine wl_v rfl rfl (ov_move _ rfl) ?_
   refine wl_nil ?_
   refine qn_next ((p + 1), (n + 1)) (by show s.size - (p + 1) < s.size - p; omega) ⟨rfl, (congrArg (fun z_ => some (Value.int .i64 z_)) (show ((((n : Nat) : Int)) + 1 : Int) = (((n + 1) : Nat) : Int) by omega)), rfl, (congrArg (fun z_ => some (Value.int .i64 z_)) (show ((((p : Nat) : Int)) + 1 : Int) = (((p + 1) : Nat) : Int) by omega)), trivial⟩ ?_
   show ((p + 1) ≤ s.size ∧ (n + 1) + Pc.nlF s (p + 1) = Pc.nlF s 0 ∧ (n + 1) ≤ (p + 1)) ∧ _
   have hs_ := Pc.nlF_step s p (by omega)
   rw [if_pos (by omega)] at hs_
   exact ⟨⟨by omega, by omega, by omega⟩, h⟩
  ·
   refine wc_skip ?_
   refine qn_block_normal ?_
   refine qn_then ?_
   refine wc_region ?_
   refine wl_v rfl rfl (ov_bin _ rfl rfl (binR_add (r := (((p : Nat) : Int)) + 1) (Sx.w64 (by omega)))) ?_
   refine wl_v rfl rfl (ov_move _ rfl) ?_
   refine wl_nil ?_
   refine qn_next ((p + 1), n) (by show s.size - (p + 1) < s.size - p; omega) ⟨rfl, rfl, rfl, (congrArg (fun z_ => some (Value.int .i64 z_)) (show ((((p : Nat) : Int)) + 1 : Int) = (((p + 1) : Nat) : Int) by omega)), trivial⟩ ?_
   show ((p + 1) ≤ s.size ∧ n + Pc.nlF s (p + 1) = Pc.nlF s 0 ∧ n ≤ (p + 1)) ∧ _
   have hs_ := Pc.nlF_step s p (by omega)
   rw [if_neg (by omega)] at hs_
   exact ⟨⟨by omega, by omega, by omega⟩, h⟩
 ·
  refine wc_exit ?_
  refine qn_then_exit ?_
  refine qn_then_exit ?_
  refine qn_block_exit ?_
  refine qn_then ?_
  refine wc_seq ?_
  refine wc_region ?_
  refine wl_v rfl rfl (ov_move _ rfl) ?_
  refine wl_v rfl rfl (ov_assign _ rfl) ?_
  refine wl_nil ?_
  refine qn_then ?_
  refine wc_ret ?_
  refine qn_ret [_] ⟨rfl, trivial⟩ ?_
  have hz_ := Pc.nlF_end s p (by omega)
  have e_ : Pc.nlB s = (n : Int) := by
    show ((Pc.nlF s 0 : Nat) : Int) = _
    omega
  rw [e_]
  exact ⟨rfl, h⟩
def befR (C : ByteArray) (k : Int) : Int × Int := if k < 0 ∨ (C.size : Int) < k then (0, 30) else (befV C k, 0)
set_option maxHeartbeats 4000000 in
set_option maxRecDepth 100000 in
theorem Before_calls {w0 w : World} {F0 : Nat → Prop} {R : List Sx.HP} (gt : Nat) (s0 : ByteArray) (A : Option Addr) (c : Nat) (L : List Int) (T : Pc.AT) (k0 : Int) (hz0 : s0.size ≤ 1000000) (hzL : L.length ≤ 1000000) (hlc : L.length ≤ c) (hb : Pc.Bytes L) (hw : Pc.Wf s0 L (Pc.AT.fl T)) (hcz : (Pc.cat s0 L (Pc.AT.fl T)).size ≤ 1000000) (ht : ∀ cs_ w_, Sx.St w0 F0 (cs_ ++ R) w_ → ∀ j_, w_.cell? ⟨gt, j_, none⟩ = ([.string s0, .slice A L.length c, .pointer (Pc.AT.ptr T)] : List Value)[j_]?) (hr : ∀ cs_ w_, Sx.St w0 F0 (cs_ ++ R) w_ → (Kd.int .u8).C w_ A L.length L) (hT : ∀ cs_ w_, Sx.St w0 F0 (cs_ ++ R) w_ → Pc.At w_ T)  (h : Sx.St w0 F0 ([] ++ R) w) : Calls Try.prog 34 #[.pointer (some ⟨gt, 0, none⟩), .int .i64 (k0)] w (fun e w1 => e = .returned (.tuple #[.int .i64 (CN.befR (Pc.cat s0 L (Pc.AT.fl T)) k0).1, .int .i64 (CN.befR (Pc.cat s0 L (Pc.AT.fl T)) k0).2]) ∧ Sx.St w0 F0 ([] ++ R) w1) := by
 have hcs_ := Pc.cat_size hw
 refine Sx.calls_fn (vs := [.pointer (some ⟨gt, 0, none⟩), .int .i64 (k0)]) Try.func34 rfl Try.ntmps34 rfl ?_
 refine wc_seq ?_
 refine wc_region ?_
 refine wl_v rfl rfl (ov_assign _ rfl) ?_
 refine wl_v rfl rfl (ov_assign _ rfl) ?_
 refine wl_nil ?_
 refine qn_then ?_
 refine wc_seq ?_
 refine wc_seq ?_
 refine wc_region ?_
 refine wl_v rfl rfl (ov_move _ rfl) ?_
 refine wl_v rfl rfl (ov_bin _ rfl rfl (binR_lss)) ?_
 refine wl_v rfl rfl (ov_move _ rfl) ?_
 refine wl_split 11 rfl (fun c1 => ?_) (fun c1 => ?_)
 ·
  refine wl_skip rfl rfl ?_
  refine wl_skip rfl rfl ?_
  refine wl_skip rfl rfl ?_
  refine wl_skip rfl rfl ?_
  refine wl_v rfl rfl (ov_pick_true _ rfl rfl) ?_
  refine wl_nil ?_
  refine qn_then ?_
  refine wc_cond_true rfl ?_
  refine wc_seq ?_
  refine wc_region ?_
  refine wl_v rfl rfl (ov_assign _ rfl) ?_
  refine wl_v rfl rfl (ov_assign _ rfl) ?_
  refine wl_nil ?_
  refine qn_then ?_
  refine wc_ret ?_
  refine qn_then_ret ?_
  refine qn_ret [_, _] ⟨rfl, rfl, trivial⟩ ?_
  have e_ : CN.befR (Pc.cat s0 L (Pc.AT.fl T)) k0 = (0, 30) := if_pos (by omega)
  have e1_ := congrArg Prod.fst e_
  have e2_ := congrArg Prod.snd e_
  dsimp only at e1_ e2_
  rw [e1_, e2_]
  exact ⟨rfl, h⟩
 ·
  refine wl_v rfl rfl (ov_move _ rfl) ?_
  refine wl_v rfl rfl (ov_move _ rfl) ?_
  refine wl_call _ rfl rfl rfl ent16 (RD.Len_calls (R := [] ++ R) gt s0 A c L T  hz0 hzL hlc hb hw hcz ht hr hT  h) ?_
  rintro e_ w_ ⟨rfl, h⟩
  refine ⟨_, rfl, ?_⟩
  refine wl_v rfl rfl (ov_bin _ rfl rfl (binR_gtr)) ?_
  refine wl_v rfl rfl (ov_pick_false _ rfl rfl) ?_
  refine wl_nil ?_
  refine qn_then ?_
  refine wc_cond (by rfl) (fun c2 => ?_) (fun c2 => ?_)
  ·
   refine wc_seq ?_
   refine wc_region ?_
   refine wl_v rfl rfl (ov_assign _ rfl) ?_
   refine wl_v rfl rfl (ov_assign _ rfl) ?_
   refine wl_nil ?_
   refine qn_then ?_
   refine wc_ret ?_
   refine qn_then_ret ?_
   refine qn_ret [_, _] ⟨rfl, rfl, trivial⟩ ?_
   have e_ : CN.befR (Pc.cat s0 L (Pc.AT.fl T)) k0 = (0, 30) := if_pos (by omega)
   have e1_ := congrArg Prod.fst e_
   have e2_ := congrArg Prod.snd e_
   dsimp only at e1_ e2_
   rw [e1_, e2_]
   exact ⟨rfl, h⟩
  ·
   refine wc_skip ?_
   refine qn_then ?_
   refine wc_seq ?_
   refine wc_region ?_
   refine wl_v rfl rfl (ov_assign _ rfl) ?_
   refine wl_nil ?_
   refine qn_then ?_
   refine wc_seq ?_
   refine wc_seq ?_
   refine wc_region ?_
   refine wl_v rfl rfl (ov_move _ rfl) ?_
   refine wl_v rfl rfl (ov_nilCheck _ rfl) ?_
   refine wl_v rfl rfl (ov_fieldAddr _ ⟨gt, 2, none⟩ _ rfl fo68_2 rfl) ?_
   refine wl_v rfl rfl (ov_load1 ⟨gt, 2, none⟩ _ rfl sh66 (((ht [] _ h) 2).trans rfl)) ?_
   refine wl_v rfl rfl (ov_assign _ rfl) ?_
   refine wl_nil ?_
   refine qn_then ?_
   refine wc_block ?_
   refine wc_loop (fun (x_ : Pc.AT × Int × Int) => [(0, .pointer (some ⟨gt, 0, none⟩)), (1, .int .i64 (x_.2.1)), (6, .int .i64 (x_.2.2)), (7, .pointer (Pc.AT.ptr x_.1))]) (fun (x_ : Pc.AT × Int × Int) (w : World) => ((∀ cs_ w_, Sx.St w0 F0 (cs_ ++ R) w_ → Pc.At w_ x_.1) ∧ Pc.Wf s0 L (Pc.AT.fl x_.1) ∧ 0 ≤ x_.2.1 ∧ x_.2.1 ≤ Pc.szF (Pc.AT.fl x_.1) ∧ x_.2.2 + CN.befV (Pc.cat s0 L (Pc.AT.fl x_.1)) x_.2.1 = CN.befV (Pc.cat s0 L (Pc.AT.fl T)) k0 ∧ (Pc.cat s0 L (Pc.AT.fl x_.1)).size ≤ 1000000 ∧ 0 ≤ x_.2.2) ∧ Sx.St w0 F0 ([] ++ R) w) (fun (x_ : Pc.AT × Int × Int) => Pc.AT.cnt x_.1) (T, k0, 0) ?_ ?_ ?_
   · exact ⟨rfl, rfl, rfl, rfl, trivial⟩
   · exact ⟨⟨hT, hw, (by show 0 ≤ k0; omega), (by show k0 ≤ Pc.szF (Pc.AT.fl T); omega), Int.zero_add _, hcz, Int.le_refl _⟩, h⟩
   rintro ⟨S, k, n⟩ w h
   obtain ⟨hJ, h⟩ := h
   replace hJ : (∀ cs_ w_, Sx.St w0 F0 (cs_ ++ R) w_ → Pc.At w_ S) ∧ Pc.Wf s0 L (Pc.AT.fl S) ∧ 0 ≤ k ∧ k ≤ Pc.szF (Pc.AT.fl S) ∧ n + CN.befV (Pc.cat s0 L (Pc.AT.fl S)) k = CN.befV (Pc.cat s0 L (Pc.AT.fl T)) k0 ∧ (Pc.cat s0 L (Pc.AT.fl S)).size ≤ 1000000 ∧ 0 ≤ n := hJ
   replace h : Sx.St w0 F0 ([] ++ R) w := h
   show Sx.WC _ _ _ _ [(0, .pointer (some ⟨gt, 0, none⟩)), (1, .int .i64 (k)), (6, .int .i64 (n)), (7, .pointer (Pc.AT.ptr S))] _
   obtain ⟨hS_, hW_, hk0_, hk1_, hq_, hcz_, hn0_⟩ := hJ
   have hbl_ := CN.bef_le (Pc.cat s0 L (Pc.AT.fl S)) k
   have hbl2_ := CN.bef_le (Pc.cat s0 L (Pc.AT.fl T)) k0
   refine wc_seq ?_
   refine wc_seq ?_
   refine wc_region ?_
   refine wl_v rfl rfl (ov_move _ rfl) ?_
   refine wl_v rfl rfl (ov_bin _ rfl rfl (binR_nenil Try.underlying66)) ?_
   refine wl_nil ?_
   refine qn_then ?_
   refine wc_cond (by rfl) (fun c3 => ?_) (fun c3 => ?_)
   ·
    obtain ⟨g4, tl5, tp6, tr7, rfl⟩ := Pc.AT.ptr_some c3
    obtain ⟨hw1_, hw2_, hw3_, hw4_⟩ := Pc.nd_facts hW_
    have hfl_ : Pc.AT.fl (Pc.AT.nd g4 tl5 tp6 tr7) = Pc.AT.fl tl5 ++ tp6 :: Pc.AT.fl tr7 := rfl
    have hz1_ := Pc.cat_size hw1_
    have hz2_ := Pc.tx_size hw2_
    have hz3_ := Pc.cat_size hw3_
    have hl1_ := Pc.cat_lines hw1_
    have hl3_ := Pc.cat_lines hw3_
    have hn1_ := Pc.nlB_le (Pc.cat s0 L (Pc.AT.fl tl5))
    have hn2_ := Pc.nlB_le (Pc.txP s0 L tp6)
    have hn3_ := Pc.nlB_le (Pc.cat s0 L (Pc.AT.fl tr7))
    have hsm_ := Pc.wf_small hz0 hzL hw2_
    have hf0_ := hw2_.f0
    have hf1_ := hw2_.f1
    have hf3_ := hw2_.f3
    have hlF_ : Pc.lnF (Pc.AT.fl tl5 ++ tp6 :: Pc.AT.fl tr7) = Pc.lnF (Pc.AT.fl tl5) + (tp6).f3 + Pc.lnF (Pc.AT.fl tr7) := by rw [Pc.lnF_app, Pc.lnF_cons]; omega
    have hsF_ : Pc.szF (Pc.AT.fl tl5 ++ tp6 :: Pc.AT.fl tr7) = Pc.szF (Pc.AT.fl tl5) + (tp6).f2 + Pc.szF (Pc.AT.fl tr7) := by rw [Pc.szF_app, Pc.szF_cons]; omega
    rw [hfl_] at hk1_ hq_ hbl_
    obtain ⟨hm1_, hm2_, hm3_⟩ := CN.bef_nd (r := Pc.AT.fl tr7) hw1_ hw2_ k hk0_
    have hbx_ := CN.bef_le (Pc.txP s0 L tp6) (k - Pc.szF (Pc.AT.fl tl5))
    have hbz_ : Pc.nlB ((Pc.txP s0 L tp6).extract 0 (k - Pc.szF (Pc.AT.fl tl5)).toNat) = CN.befV (Pc.txP s0 L tp6) (k - Pc.szF (Pc.AT.fl tl5)) := rfl
    have hby_ := CN.bef_le (Pc.cat s0 L (Pc.AT.fl tr7)) (k - (Pc.szF (Pc.AT.fl tl5) + (tp6).f2))
    refine wc_skip ?_
    refine qn_then ?_
    refine wc_block ?_
    refine wc_seq ?_
    refine wc_region ?_
    refine wl_v rfl rfl (ov_move _ rfl) ?_
    refine wl_v rfl rfl (ov_nilCheck _ rfl) ?_
    refine wl_v rfl rfl (ov_fieldAddr _ ⟨g4, 0, none⟩ _ rfl fo89_0 rfl) ?_
    refine wl_v rfl rfl (ov_load1 ⟨g4, 0, none⟩ _ rfl sh66 (((Pc.at_cell (hS_ [] _ h)) 0).trans rfl)) ?_
    refine wl_call _ rfl rfl rfl ent39 (RD.nbytes_calls (R := [] ++ R) tl5 (fun cs_ w_ h_ => (hS_ cs_ w_ h_).2.1) h) ?_
    rintro e_ w_ ⟨rfl, h⟩
    refine ⟨_, rfl, ?_⟩
    refine wl_v rfl rfl (ov_assign _ rfl) ?_
    refine wl_nil ?_
    refine qn_then ?_
    refine wc_seq ?_
    refine wc_seq ?_
    refine wc_region ?_
    refine wl_v rfl rfl (ov_move _ rfl) ?_
    refine wl_v rfl rfl (ov_move _ rfl) ?_
    refine wl_v rfl rfl (ov_bin _ rfl rfl (binR_leq)) ?_
    refine wl_nil ?_
    refine qn_then ?_
    refine wc_cond (by rfl) (fun c8 => ?_) (fun c8 => ?_)
    ·
     refine wc_seq ?_
     refine wc_region ?_
     refine wl_v rfl rfl (ov_move _ rfl) ?_
     refine wl_v rfl rfl (ov_nilCheck _ rfl) ?_
     refine wl_v rfl rfl (ov_fieldAddr _ ⟨g4, 0, none⟩ _ rfl fo89_0 rfl) ?_
     refine wl_v rfl rfl (ov_load1 ⟨g4, 0, none⟩ _ rfl sh66 (((Pc.at_cell (hS_ [] _ h)) 0).trans rfl)) ?_
     refine wl_v rfl rfl (ov_assign _ rfl) ?_
     refine wl_nil ?_
     refine qn_then ?_
     refine wc_exit ?_
     refine qn_then_exit ?_
     refine qn_block_exit ?_
     refine qn_next (tl5, k, n) (by show Pc.AT.cnt tl5 < Pc.AT.cnt (Pc.AT.nd g4 tl5 tp6 tr7); first | (show _ < Pc.AT.cnt _ + 1 + Pc.AT.cnt _; omega) | omega) ⟨rfl, rfl, rfl, rfl, trivial⟩ ?_
     show ((∀ cs_ w_, Sx.St w0 F0 (cs_ ++ R) w_ → Pc.At w_ tl5) ∧ Pc.Wf s0 L (Pc.AT.fl tl5) ∧ 0 ≤ k ∧ k ≤ Pc.szF (Pc.AT.fl tl5) ∧ n + CN.befV (Pc.cat s0 L (Pc.AT.fl tl5)) k = CN.befV (Pc.cat s0 L (Pc.AT.fl T)) k0 ∧ (Pc.cat s0 L (Pc.AT.fl tl5)).size ≤ 1000000 ∧ 0 ≤ n) ∧ _
     exact ⟨⟨(fun cs_ w_ h_ => (hS_ cs_ w_ h_).2.1), hw1_, hk0_, by omega, by rw [← hm1_ (by omega)]; exact hq_, by omega, hn0_⟩, h⟩
    ·
     refine wc_skip ?_
     refine qn_then ?_
     refine wc_seq ?_
     refine wc_region ?_
     refine wl_v rfl rfl (ov_move _ rfl) ?_
     refine wl_v rfl rfl (ov_move _ rfl) ?_
     refine wl_v rfl rfl (ov_nilCheck _ rfl) ?_
     refine wl_v rfl rfl (ov_fieldAddr _ ⟨g4, 0, none⟩ _ rfl fo89_0 rfl) ?_
     refine wl_v rfl rfl (ov_load1 ⟨g4, 0, none⟩ _ rfl sh66 (((Pc.at_cell (hS_ [] _ h)) 0).trans rfl)) ?_
     refine wl_call _ rfl rfl rfl ent43 (RD.nends_calls (R := [] ++ R) tl5 (fun cs_ w_ h_ => (hS_ cs_ w_ h_).2.1) h) ?_
     rintro e_ w_ ⟨rfl, h⟩
     refine ⟨_, rfl, ?_⟩
     refine wl_v rfl rfl (ov_bin _ rfl rfl (binR_add (r := n + (Pc.lnF (Pc.AT.fl tl5))) (Sx.w64 (by omega)))) ?_
     refine wl_v rfl rfl (ov_assign _ rfl) ?_
     refine wl_nil ?_
     refine qn_then ?_
     refine wc_seq ?_
     refine wc_region ?_
     refine wl_v rfl rfl (ov_move _ rfl) ?_
     refine wl_v rfl rfl (ov_move _ rfl) ?_
     refine wl_v rfl rfl (ov_bin _ rfl rfl (binR_sub (r := k - (Pc.szF (Pc.AT.fl tl5))) (Sx.w64 (by omega)))) ?_
     refine wl_v rfl rfl (ov_assign _ rfl) ?_
     refine wl_nil ?_
     refine qn_then ?_
     refine wc_seq ?_
     refine wc_seq ?_
     refine wc_region ?_
     refine wl_v rfl rfl (ov_move _ rfl) ?_
     refine wl_v rfl rfl (ov_move _ rfl) ?_
     refine wl_v rfl rfl (ov_nilCheck _ rfl) ?_
     refine wl_v rfl rfl (ov_fieldAddr _ ⟨g4, 2, none⟩ _ rfl fo89_2 rfl) ?_
     refine wl_v rfl rfl (ov_fieldAddr _ ⟨g4, 4, none⟩ _ rfl fo77_2 rfl) ?_
     refine wl_v rfl rfl (ov_load1 ⟨g4, 4, none⟩ _ rfl sh3 (((Pc.at_cell (hS_ [] _ h)) 4).trans rfl)) ?_
     refine wl_v rfl rfl (ov_bin _ rfl rfl (binR_lss)) ?_
     refine wl_nil ?_
     refine qn_then ?_
     refine wc_cond (by rfl) (fun c9 => ?_) (fun c9 => ?_)
     ·
      refine wc_seq ?_
      refine wc_region ?_
      refine wl_v rfl rfl (ov_move _ rfl) ?_
      refine wl_v rfl rfl (ov_move _ rfl) ?_
      refine wl_v rfl rfl (ov_move _ rfl) ?_
      refine wl_v rfl rfl (ov_nilCheck _ rfl) ?_
      refine wl_v rfl rfl (ov_fieldAddr _ ⟨g4, 2, none⟩ _ rfl fo89_2 rfl) ?_
      refine wl_v rfl rfl (ov_loadN ⟨g4, 2, none⟩ [.bool ((tp6).f0), .int .i64 ((tp6).f1), .int .i64 ((tp6).f2), .int .i64 ((tp6).f3)] rfl sh77 (Sx.rob_cells ((Pc.at_cell (hS_ [] _ h))) 2 rfl)) ?_
      refine wl_call _ rfl rfl rfl ent58 (TW.textR_calls (R := [] ++ R) gt s0 A c L (Pc.AT.ptr T) tp6 hz0 hzL (Pc.wf_bd hw2_) hlc ht hr h) ?_
      rintro e_ w_ ⟨rfl, h⟩
      refine ⟨_, rfl, ?_⟩
      refine wl_v rfl rfl (ov_move _ rfl) ?_
      refine wl_v rfl rfl (ov_slices _ 0 ((k - (Pc.szF (Pc.AT.fl tl5)) : Int).toNat) (by rfl) (by exact rfl) (by exact ⟨_, _, rfl, (by omega)⟩) Try.underlying9 (by (first | omega | (rw [← hz2_] at *; omega))) (by (first | omega | (rw [← hz2_] at *; omega)))) ?_
      refine wl_call _ rfl rfl rfl ent57 (CN.pends_calls (R := [] ++ R) ((Pc.txP s0 L tp6).extract 0 ((k - (Pc.szF (Pc.AT.fl tl5)) : Int).toNat)) (by rw [ByteArray.size_extract]; omega) h) ?_
      rintro e_ w_ ⟨rfl, h⟩
      refine ⟨_, rfl, ?_⟩
      have hnb10 := Pc.nlB_le ((Pc.txP s0 L tp6).extract 0 ((k - (Pc.szF (Pc.AT.fl tl5)) : Int).toNat))
      refine wl_v rfl rfl (ov_bin _ rfl rfl (binR_add (r := (n + (Pc.lnF (Pc.AT.fl tl5))) + (Pc.nlB ((Pc.txP s0 L tp6).extract 0 ((k - (Pc.szF (Pc.AT.fl tl5)) : Int).toNat)))) (Sx.w64 (by omega)))) ?_
      refine wl_v rfl rfl (ov_assign _ rfl) ?_
      refine wl_v rfl rfl (ov_assign _ rfl) ?_
      refine wl_nil ?_
      refine qn_then ?_
      refine wc_ret ?_
      refine qn_then_ret ?_
      refine qn_block_ret ?_
      refine qn_then_ret ?_
      refine qn_block_ret ?_
      refine qn_then_ret ?_
      refine qn_ret [_, _] ⟨rfl, rfl, trivial⟩ ?_
      have hm_ := hm2_ (by omega) (by omega)
      have hz_ : CN.befV (Pc.txP s0 L tp6) (k - Pc.szF (Pc.AT.fl tl5)) = Pc.nlB ((Pc.txP s0 L tp6).extract 0 (k - Pc.szF (Pc.AT.fl tl5)).toNat) := rfl
      have e_ : CN.befR (Pc.cat s0 L (Pc.AT.fl T)) k0 = ((n + (Pc.lnF (Pc.AT.fl tl5))) + (Pc.nlB ((Pc.txP s0 L tp6).extract 0 ((k - (Pc.szF (Pc.AT.fl tl5)) : Int).toNat))), 0) := by
        show (if _ then _ else _) = _
        rw [if_neg (by omega)]
        refine Prod.ext ?_ rfl
        show CN.befV _ _ = _
        first | omega | (rw [hz_] at hm_; omega)
      have e1_ := congrArg Prod.fst e_
      have e2_ := congrArg Prod.snd e_
      dsimp only at e1_ e2_
      rw [e1_, e2_]
      exact ⟨rfl, h⟩
     ·
      refine wc_skip ?_
      refine qn_then ?_
      refine wc_seq ?_
      refine wc_region ?_
      refine wl_v rfl rfl (ov_move _ rfl) ?_
      refine wl_v rfl rfl (ov_move _ rfl) ?_
      refine wl_v rfl rfl (ov_nilCheck _ rfl) ?_
      refine wl_v rfl rfl (ov_fieldAddr _ ⟨g4, 2, none⟩ _ rfl fo89_2 rfl) ?_
      refine wl_v rfl rfl (ov_fieldAddr _ ⟨g4, 5, none⟩ _ rfl fo77_3 rfl) ?_
      refine wl_v rfl rfl (ov_load1 ⟨g4, 5, none⟩ _ rfl sh3 (((Pc.at_cell (hS_ [] _ h)) 5).trans rfl)) ?_
      refine wl_v rfl rfl (ov_bin _ rfl rfl (binR_add (r := (n + (Pc.lnF (Pc.AT.fl tl5))) + ((tp6).f3)) (Sx.w64 (by omega)))) ?_
      refine wl_v rfl rfl (ov_assign _ rfl) ?_
      refine wl_nil ?_
      refine qn_then ?_
      refine wc_seq ?_
      refine wc_region ?_
      refine wl_v rfl rfl (ov_move _ rfl) ?_
      refine wl_v rfl rfl (ov_move _ rfl) ?_
      refine wl_v rfl rfl (ov_nilCheck _ rfl) ?_
      refine wl_v rfl rfl (ov_fieldAddr _ ⟨g4, 2, none⟩ _ rfl fo89_2 rfl) ?_
      refine wl_v rfl rfl (ov_fieldAddr _ ⟨g4, 4, none⟩ _ rfl fo77_2 rfl) ?_
      refine wl_v rfl rfl (ov_load1 ⟨g4, 4, none⟩ _ rfl sh3 (((Pc.at_cell (hS_ [] _ h)) 4).trans rfl)) ?_
      refine wl_v rfl rfl (ov_bin _ rfl rfl (binR_sub (r := (k - (Pc.szF (Pc.AT.fl tl5))) - ((tp6).f2)) (Sx.w64 (by omega)))) ?_
      refine wl_v rfl rfl (ov_assign _ rfl) ?_
      refine wl_nil ?_
      refine qn_then ?_
      refine wc_region ?_
      refine wl_v rfl rfl (ov_move _ rfl) ?_
      refine wl_v rfl rfl (ov_nilCheck _ rfl) ?_
      refine wl_v rfl rfl (ov_fieldAddr _ ⟨g4, 1, none⟩ _ rfl fo89_1 rfl) ?_
      refine wl_v rfl rfl (ov_load1 ⟨g4, 1, none⟩ _ rfl sh66 (((Pc.at_cell (hS_ [] _ h)) 1).trans rfl)) ?_
      refine wl_v rfl rfl (ov_assign _ rfl) ?_
      refine wl_nil ?_
      refine qn_block_normal ?_
      refine qn_next (tr7, ((k - (Pc.szF (Pc.AT.fl tl5))) - ((tp6).f2)), ((n + (Pc.lnF (Pc.AT.fl tl5))) + ((tp6).f3))) (by show Pc.AT.cnt tr7 < Pc.AT.cnt (Pc.AT.nd g4 tl5 tp6 tr7); first | (show _ < Pc.AT.cnt _ + 1 + Pc.AT.cnt _; omega) | omega) ⟨rfl, (congrArg (fun z_ => some (Value.int .i64 z_)) (show ((k - (Pc.szF (Pc.AT.fl tl5))) - ((tp6).f2) : Int) = ((k - (Pc.szF (Pc.AT.fl tl5))) - ((tp6).f2)) by omega)), (congrArg (fun z_ => some (Value.int .i64 z_)) (show ((n + (Pc.lnF (Pc.AT.fl tl5))) + ((tp6).f3) : Int) = ((n + (Pc.lnF (Pc.AT.fl tl5))) + ((tp6).f3)) by omega)), rfl, trivial⟩ ?_
      show ((∀ cs_ w_, Sx.St w0 F0 (cs_ ++ R) w_ → Pc.At w_ tr7) ∧ Pc.Wf s0 L (Pc.AT.fl tr7) ∧ 0 ≤ ((k - (Pc.szF (Pc.AT.fl tl5))) - ((tp6).f2)) ∧ ((k - (Pc.szF (Pc.AT.fl tl5))) - ((tp6).f2)) ≤ Pc.szF (Pc.AT.fl tr7) ∧ ((n + (Pc.lnF (Pc.AT.fl tl5))) + ((tp6).f3)) + CN.befV (Pc.cat s0 L (Pc.AT.fl tr7)) ((k - (Pc.szF (Pc.AT.fl tl5))) - ((tp6).f2)) = CN.befV (Pc.cat s0 L (Pc.AT.fl T)) k0 ∧ (Pc.cat s0 L (Pc.AT.fl tr7)).size ≤ 1000000 ∧ 0 ≤ ((n + (Pc.lnF (Pc.AT.fl tl5))) + ((tp6).f3))) ∧ _
      have hm_ := hm3_ (by omega)
      rw [show k - (Pc.szF (Pc.AT.fl tl5) + (tp6).f2) = (k - (Pc.szF (Pc.AT.fl tl5))) - ((tp6).f2) by omega] at hm_
      exact ⟨⟨(fun cs_ w_ h_ => (hS_ cs_ w_ h_).2.2), hw3_, by omega, by omega, by omega, by omega, by omega⟩, h⟩
   ·
    obtain rfl := Pc.AT.ptr_none (Classical.not_not.1 c3)
    refine wc_exit ?_
    refine qn_then_exit ?_
    refine qn_then_exit ?_
    refine qn_block_exit ?_
    refine qn_then ?_
    refine wc_seq ?_
    refine wc_region ?_
    refine wl_v rfl rfl (ov_move _ rfl) ?_
    refine wl_v rfl rfl (ov_assign _ rfl) ?_
    refine wl_v rfl rfl (ov_assign _ rfl) ?_
    refine wl_nil ?_
    refine qn_then ?_
    refine wc_ret ?_
    refine qn_ret [_, _] ⟨rfl, rfl, trivial⟩ ?_
    have hz_ := CN.bef_nil k
    have e_ : CN.befR (Pc.cat s0 L (Pc.AT.fl T)) k0 = (n, 0) := by
      show (if _ then _ else _) = _
      rw [if_neg (by omega)]
      refine Prod.ext ?_ rfl
      show CN.befV _ _ = n
      rw [← hq_]
      show n + CN.befV ByteArray.empty k = n
      omega
    have e1_ := congrArg Prod.fst e_
    have e2_ := congrArg Prod.snd e_
    dsimp only at e1_ e2_
    rw [e1_, e2_]
    exact ⟨rfl, h⟩
def newR (C : ByteArray) (n : Int) : Int × Bool := if n < 0 ∨ Pc.nlB C ≤ n then (0, false) else ((AW.endsL C).getD n.toNat 0, true)
set_option maxHeartbeats 4000000 in
set_option maxRecDepth 100000 in
theorem Newline_calls {w0 w : World} {F0 : Nat → Prop} {R : List Sx.HP} (gt : Nat) (s0 : ByteArray) (A : Option Addr) (c : Nat) (L : List Int) (T : Pc.AT) (n0 : Int) (hz0 : s0.size ≤ 1000000) (hzL : L.length ≤ 1000000) (hlc : L.length ≤ c) (hb : Pc.Bytes L) (hw : Pc.Wf s0 L (Pc.AT.fl T)) (hcz : (Pc.cat s0 L (Pc.AT.fl T)).size ≤ 1000000) (ht : ∀ cs_ w_, Sx.St w0 F0 (cs_ ++ R) w_ → ∀ j_, w_.cell? ⟨gt, j_, none⟩ = ([.string s0, .slice A L.length c, .pointer (Pc.AT.ptr T)] : List Value)[j_]?) (hr : ∀ cs_ w_, Sx.St w0 F0 (cs_ ++ R) w_ → (Kd.int .u8).C w_ A L.length L) (hT : ∀ cs_ w_, Sx.St w0 F0 (cs_ ++ R) w_ → Pc.At w_ T)  (h : Sx.St w0 F0 ([] ++ R) w) : Calls Try.prog 35 #[.pointer (some ⟨gt, 0, none⟩), .int .i64 (n0)] w (fun e w1 => e = .returned (.tuple #[.int .i64 (CN.newR (Pc.cat s0 L (Pc.AT.fl T)) n0).1, .bool (CN.newR (Pc.cat s0 L (Pc.AT.fl T)) n0).2]) ∧ Sx.St w0 F0 ([] ++ R) w1) := by
 have hcs_ := Pc.cat_size hw
 have hcl_ := Pc.cat_lines hw
 refine Sx.calls_fn (vs := [.pointer (some ⟨gt, 0, none⟩), .int .i64 (n0)]) Try.func35 rfl Try.ntmps35 rfl ?_
 refine wc_seq ?_
 refine wc_region ?_
 refine wl_v rfl rfl (ov_assign _ rfl) ?_
 refine wl_v rfl rfl (ov_assign _ rfl) ?_
 refine wl_nil ?_
 refine qn_then ?_
 refine wc_seq ?_
 refine wc_seq ?_
 refine wc_region ?_
 refine wl_v rfl rfl (ov_move _ rfl) ?_
 refine wl_v rfl rfl (ov_bin _ rfl rfl (binR_lss)) ?_
 refine wl_v rfl rfl (ov_move _ rfl) ?_
 refine wl_split 12 rfl (fun c1 => ?_) (fun c1 => ?_)
 ·
  refine wl_skip rfl rfl ?_
  refine wl_skip rfl rfl ?_
  refine wl_skip rfl rfl ?_
  refine wl_skip rfl rfl ?_
  refine wl_v rfl rfl (ov_pick_true _ rfl rfl) ?_
  refine wl_nil ?_
  refine qn_then ?_
  refine wc_cond_true rfl ?_
  refine wc_seq ?_
  refine wc_region ?_
  refine wl_v rfl rfl (ov_assign _ rfl) ?_
  refine wl_v rfl rfl (ov_assign _ rfl) ?_
  refine wl_nil ?_
  refine qn_then ?_
  refine wc_ret ?_
  refine qn_then_ret ?_
  refine qn_ret [_, _] ⟨rfl, rfl, trivial⟩ ?_
  have e_ : CN.newR (Pc.cat s0 L (Pc.AT.fl T)) n0 = (0, false) := if_pos (by omega)
  have e1_ := congrArg Prod.fst e_
  have e2_ := congrArg Prod.snd e_
  dsimp only at e1_ e2_
  rw [e1_, e2_]
  exact ⟨rfl, h⟩
 ·
  refine wl_v rfl rfl (ov_move _ rfl) ?_
  refine wl_v rfl rfl (ov_move _ rfl) ?_
  refine wl_call _ rfl rfl rfl ent21 (RD.Lines_calls (R := [] ++ R) gt s0 A c L T  hz0 hzL hlc hb hw hcz ht hr hT  h) ?_
  rintro e_ w_ ⟨rfl, h⟩
  refine ⟨_, rfl, ?_⟩
  refine wl_v rfl rfl (ov_bin _ rfl rfl (binR_geq)) ?_
  refine wl_v rfl rfl (ov_pick_false _ rfl rfl) ?_
  refine wl_nil ?_
  refine qn_then ?_
  refine wc_cond (by rfl) (fun c2 => ?_) (fun c2 => ?_)
  ·
   refine wc_seq ?_
   refine wc_region ?_
   refine wl_v rfl rfl (ov_assign _ rfl) ?_
   refine wl_v rfl rfl (ov_assign _ rfl) ?_
   refine wl_nil ?_
   refine qn_then ?_
   refine wc_ret ?_
   refine qn_then_ret ?_
   refine qn_ret [_, _] ⟨rfl, rfl, trivial⟩ ?_
   have e_ : CN.newR (Pc.cat s0 L (Pc.AT.fl T)) n0 = (0, false) := if_pos (by omega)
   have e1_ := congrArg Prod.fst e_
   have e2_ := congrArg Prod.snd e_
   dsimp only at e1_ e2_
   rw [e1_, e2_]
   exact ⟨rfl, h⟩
  ·
   refine wc_skip ?_
   refine qn_then ?_
   refine wc_seq ?_
   refine wc_region ?_
   refine wl_v rfl rfl (ov_assign _ rfl) ?_
   refine wl_nil ?_
   refine qn_then ?_
   refine wc_seq ?_
   refine wc_region ?_
   refine wl_v rfl rfl (ov_move _ rfl) ?_
   refine wl_v rfl rfl (ov_nilCheck _ rfl) ?_
   refine wl_v rfl rfl (ov_fieldAddr _ ⟨gt, 2, none⟩ _ rfl fo68_2 rfl) ?_
   refine wl_v rfl rfl (ov_load1 ⟨gt, 2, none⟩ _ rfl sh66 (((ht [] _ h) 2).trans rfl)) ?_
   refine wl_v rfl rfl (ov_assign _ rfl) ?_
   refine wl_nil ?_
   refine qn_then ?_
   refine wc_block ?_
   refine wc_loop (fun (x_ : Pc.AT × Int × Int) => [(0, .pointer (some ⟨gt, 0, none⟩)), (1, .int .i64 (x_.2.1)), (6, .int .i64 (x_.2.2)), (7, .pointer (Pc.AT.ptr x_.1))]) (fun (x_ : Pc.AT × Int × Int) (w : World) => ((∀ cs_ w_, Sx.St w0 F0 (cs_ ++ R) w_ → Pc.At w_ x_.1) ∧ Pc.Wf s0 L (Pc.AT.fl x_.1) ∧ 0 ≤ x_.2.1 ∧ x_.2.1 < Pc.lnF (Pc.AT.fl x_.1) ∧ (AW.endsL (Pc.cat s0 L (Pc.AT.fl x_.1))).getD (x_.2.1).toNat 0 + x_.2.2 = (AW.endsL (Pc.cat s0 L (Pc.AT.fl T))).getD n0.toNat 0 ∧ (Pc.cat s0 L (Pc.AT.fl x_.1)).size + x_.2.2 ≤ 1000000 ∧ 0 ≤ x_.2.2) ∧ Sx.St w0 F0 ([] ++ R) w) (fun (x_ : Pc.AT × Int × Int) => Pc.AT.cnt x_.1) (T, n0, 0) ?_ ?_ ?_
   · exact ⟨rfl, rfl, rfl, rfl, trivial⟩
   · exact ⟨⟨hT, hw, (by show 0 ≤ n0; omega), (by show n0 < Pc.lnF (Pc.AT.fl T); omega), Int.add_zero _, (by show ((Pc.cat s0 L (Pc.AT.fl T)).size : Int) + 0 ≤ 1000000; omega), Int.le_refl _⟩, h⟩
   rintro ⟨S, n, a⟩ w h
   obtain ⟨hJ, h⟩ := h
   replace hJ : (∀ cs_ w_, Sx.St w0 F0 (cs_ ++ R) w_ → Pc.At w_ S) ∧ Pc.Wf s0 L (Pc.AT.fl S) ∧ 0 ≤ n ∧ n < Pc.lnF (Pc.AT.fl S) ∧ (AW.endsL (Pc.cat s0 L (Pc.AT.fl S))).getD (n).toNat 0 + a = (AW.endsL (Pc.cat s0 L (Pc.AT.fl T))).getD n0.toNat 0 ∧ (Pc.cat s0 L (Pc.AT.fl S)).size + a ≤ 1000000 ∧ 0 ≤ a := hJ
   replace h : Sx.St w0 F0 ([] ++ R) w := h
   show Sx.WC _ _ _ _ [(0, .pointer (some ⟨gt, 0, none⟩)), (1, .int .i64 (n)), (6, .int .i64 (a)), (7, .pointer (Pc.AT.ptr S))] _
   obtain ⟨hS_, hW_, hk0_, hk1_, hq_, hcz_, ha0_⟩ := hJ
   have hlS_ := Pc.cat_lines hW_
   have hnS_ := Pc.nlB_le (Pc.cat s0 L (Pc.AT.fl S))
   have hsS_ := Pc.cat_size hW_
   obtain ⟨g3, tl4, tp5, tr6, rfl⟩ := Pc.AT.ht_pos (T := S) (Pc.ht_of_sz (by omega))
   obtain ⟨hw1_, hw2_, hw3_, hw4_⟩ := Pc.nd_facts hW_
   have hfl_ : Pc.AT.fl (Pc.AT.nd g3 tl4 tp5 tr6) = Pc.AT.fl tl4 ++ tp5 :: Pc.AT.fl tr6 := rfl
   have hz1_ := Pc.cat_size hw1_
   have hz2_ := Pc.tx_size hw2_
   have hz3_ := Pc.cat_size hw3_
   have hl1_ := Pc.cat_lines hw1_
   have hl3_ := Pc.cat_lines hw3_
   have hn1_ := Pc.nlB_le (Pc.cat s0 L (Pc.AT.fl tl4))
   have hn2_ := Pc.nlB_le (Pc.txP s0 L tp5)
   have hn3_ := Pc.nlB_le (Pc.cat s0 L (Pc.AT.fl tr6))
   have hsm_ := Pc.wf_small hz0 hzL hw2_
   have hf0_ := hw2_.f0
   have hf1_ := hw2_.f1
   have hf3_ := hw2_.f3
   have hlF_ : Pc.lnF (Pc.AT.fl tl4 ++ tp5 :: Pc.AT.fl tr6) = Pc.lnF (Pc.AT.fl tl4) + (tp5).f3 + Pc.lnF (Pc.AT.fl tr6) := by rw [Pc.lnF_app, Pc.lnF_cons]; omega
   have hsF_ : Pc.szF (Pc.AT.fl tl4 ++ tp5 :: Pc.AT.fl tr6) = Pc.szF (Pc.AT.fl tl4) + (tp5).f2 + Pc.szF (Pc.AT.fl tr6) := by rw [Pc.szF_app, Pc.szF_cons]; omega
   rw [hfl_] at hk1_ hq_
   rw [hlF_] at hk1_
   obtain ⟨hm1_, hm2_, hm3_⟩ := CN.ends_nd hw1_ hw2_ hw3_ n hk0_
   refine wc_block ?_
   refine wc_seq ?_
   refine wc_seq ?_
   refine wc_region ?_
   refine wl_v rfl rfl (ov_move _ rfl) ?_
   refine wl_v rfl rfl (ov_move _ rfl) ?_
   refine wl_v rfl rfl (ov_nilCheck _ rfl) ?_
   refine wl_v rfl rfl (ov_fieldAddr _ ⟨g3, 0, none⟩ _ rfl fo89_0 rfl) ?_
   refine wl_v rfl rfl (ov_load1 ⟨g3, 0, none⟩ _ rfl sh66 (((Pc.at_cell (hS_ [] _ h)) 0).trans rfl)) ?_
   refine wl_call _ rfl rfl rfl ent43 (RD.nends_calls (R := [] ++ R) tl4 (fun cs_ w_ h_ => (hS_ cs_ w_ h_).2.1) h) ?_
   rintro e_ w_ ⟨rfl, h⟩
   refine ⟨_, rfl, ?_⟩
   refine wl_v rfl rfl (ov_bin _ rfl rfl (binR_lss)) ?_
   refine wl_nil ?_
   refine qn_then ?_
   refine wc_cond (by rfl) (fun c7 => ?_) (fun c7 => ?_)
   ·
    refine wc_seq ?_
    refine wc_region ?_
    refine wl_v rfl rfl (ov_move _ rfl) ?_
    refine wl_v rfl rfl (ov_nilCheck _ rfl) ?_
    refine wl_v rfl rfl (ov_fieldAddr _ ⟨g3, 0, none⟩ _ rfl fo89_0 rfl) ?_
    refine wl_v rfl rfl (ov_load1 ⟨g3, 0, none⟩ _ rfl sh66 (((Pc.at_cell (hS_ [] _ h)) 0).trans rfl)) ?_
    refine wl_v rfl rfl (ov_assign _ rfl) ?_
    refine wl_nil ?_
    refine qn_then ?_
    refine wc_exit ?_
    refine qn_then_exit ?_
    refine qn_block_exit ?_
    refine qn_next (tl4, n, a) (by show Pc.AT.cnt tl4 < Pc.AT.cnt (Pc.AT.nd g3 tl4 tp5 tr6); first | (show _ < Pc.AT.cnt _ + 1 + Pc.AT.cnt _; omega) | omega) ⟨rfl, rfl, rfl, rfl, trivial⟩ ?_
    show ((∀ cs_ w_, Sx.St w0 F0 (cs_ ++ R) w_ → Pc.At w_ tl4) ∧ Pc.Wf s0 L (Pc.AT.fl tl4) ∧ 0 ≤ n ∧ n < Pc.lnF (Pc.AT.fl tl4) ∧ (AW.endsL (Pc.cat s0 L (Pc.AT.fl tl4))).getD (n).toNat 0 + a = (AW.endsL (Pc.cat s0 L (Pc.AT.fl T))).getD n0.toNat 0 ∧ (Pc.cat s0 L (Pc.AT.fl tl4)).size + a ≤ 1000000 ∧ 0 ≤ a) ∧ _
    have hm_ := hm1_ (by omega)
    exact ⟨⟨(fun cs_ w_ h_ => (hS_ cs_ w_ h_).2.1), hw1_, hk0_, by omega, by rw [← hm_]; exact hq_, by omega, ha0_⟩, h⟩
   ·
    refine wc_skip ?_
    refine qn_then ?_
    refine wc_seq ?_
    refine wc_region ?_
    refine wl_v rfl rfl (ov_move _ rfl) ?_
    refine wl_v rfl rfl (ov_move _ rfl) ?_
    refine wl_v rfl rfl (ov_nilCheck _ rfl) ?_
    refine wl_v rfl rfl (ov_fieldAddr _ ⟨g3, 0, none⟩ _ rfl fo89_0 rfl) ?_
    refine wl_v rfl rfl (ov_load1 ⟨g3, 0, none⟩ _ rfl sh66 (((Pc.at_cell (hS_ [] _ h)) 0).trans rfl)) ?_
    refine wl_call _ rfl rfl rfl ent43 (RD.nends_calls (R := [] ++ R) tl4 (fun cs_ w_ h_ => (hS_ cs_ w_ h_).2.1) h) ?_
    rintro e_ w_ ⟨rfl, h⟩
    refine ⟨_, rfl, ?_⟩
    refine wl_v rfl rfl (ov_bin _ rfl rfl (binR_sub (r := n - (Pc.lnF (Pc.AT.fl tl4))) (Sx.w64 (by omega)))) ?_
    refine wl_v rfl rfl (ov_assign _ rfl) ?_
    refine wl_nil ?_
    refine qn_then ?_
    refine wc_seq ?_
    refine wc_region ?_
    refine wl_v rfl rfl (ov_move _ rfl) ?_
    refine wl_v rfl rfl (ov_move _ rfl) ?_
    refine wl_v rfl rfl (ov_nilCheck _ rfl) ?_
    refine wl_v rfl rfl (ov_fieldAddr _ ⟨g3, 0, none⟩ _ rfl fo89_0 rfl) ?_
    refine wl_v rfl rfl (ov_load1 ⟨g3, 0, none⟩ _ rfl sh66 (((Pc.at_cell (hS_ [] _ h)) 0).trans rfl)) ?_
    refine wl_call _ rfl rfl rfl ent39 (RD.nbytes_calls (R := [] ++ R) tl4 (fun cs_ w_ h_ => (hS_ cs_ w_ h_).2.1) h) ?_
    rintro e_ w_ ⟨rfl, h⟩
    refine ⟨_, rfl, ?_⟩
    refine wl_v rfl rfl (ov_bin _ rfl rfl (binR_add (r := a + (Pc.szF (Pc.AT.fl tl4))) (Sx.w64 (by omega)))) ?_
    refine wl_v rfl rfl (ov_assign _ rfl) ?_
    refine wl_nil ?_
    refine qn_then ?_
    refine wc_seq ?_
    refine wc_seq ?_
    refine wc_region ?_
    refine wl_v rfl rfl (ov_move _ rfl) ?_
    refine wl_v rfl rfl (ov_move _ rfl) ?_
    refine wl_v rfl rfl (ov_nilCheck _ rfl) ?_
    refine wl_v rfl rfl (ov_fieldAddr _ ⟨g3, 2, none⟩ _ rfl fo89_2 rfl) ?_
    refine wl_v rfl rfl (ov_fieldAddr _ ⟨g3, 5, none⟩ _ rfl fo77_3 rfl) ?_
    refine wl_v rfl rfl (ov_load1 ⟨g3, 5, none⟩ _ rfl sh3 (((Pc.at_cell (hS_ [] _ h)) 5).trans rfl)) ?_
    refine wl_v rfl rfl (ov_bin _ rfl rfl (binR_geq)) ?_
    refine wl_nil ?_
    refine qn_then ?_
    refine wc_cond (by rfl) (fun c8 => ?_) (fun c8 => ?_)
    ·
     refine wc_seq ?_
     refine wc_region ?_
     refine wl_v rfl rfl (ov_move _ rfl) ?_
     refine wl_v rfl rfl (ov_move _ rfl) ?_
     refine wl_v rfl rfl (ov_nilCheck _ rfl) ?_
     refine wl_v rfl rfl (ov_fieldAddr _ ⟨g3, 2, none⟩ _ rfl fo89_2 rfl) ?_
     refine wl_v rfl rfl (ov_fieldAddr _ ⟨g3, 5, none⟩ _ rfl fo77_3 rfl) ?_
     refine wl_v rfl rfl (ov_load1 ⟨g3, 5, none⟩ _ rfl sh3 (((Pc.at_cell (hS_ [] _ h)) 5).trans rfl)) ?_
     refine wl_v rfl rfl (ov_bin _ rfl rfl (binR_sub (r := (n - (Pc.lnF (Pc.AT.fl tl4))) - ((tp5).f3)) (Sx.w64 (by omega)))) ?_
     refine wl_v rfl rfl (ov_assign _ rfl) ?_
     refine wl_nil ?_
     refine qn_then ?_
     refine wc_seq ?_
     refine wc_region ?_
     refine wl_v rfl rfl (ov_move _ rfl) ?_
     refine wl_v rfl rfl (ov_move _ rfl) ?_
     refine wl_v rfl rfl (ov_nilCheck _ rfl) ?_
     refine wl_v rfl rfl (ov_fieldAddr _ ⟨g3, 2, none⟩ _ rfl fo89_2 rfl) ?_
     refine wl_v rfl rfl (ov_fieldAddr _ ⟨g3, 4, none⟩ _ rfl fo77_2 rfl) ?_
     refine wl_v rfl rfl (ov_load1 ⟨g3, 4, none⟩ _ rfl sh3 (((Pc.at_cell (hS_ [] _ h)) 4).trans rfl)) ?_
     refine wl_v rfl rfl (ov_bin _ rfl rfl (binR_add (r := (a + (Pc.szF (Pc.AT.fl tl4))) + ((tp5).f2)) (Sx.w64 (by omega)))) ?_
     refine wl_v rfl rfl (ov_assign _ rfl) ?_
     refine wl_nil ?_
     refine qn_then ?_
     refine wc_seq ?_
     refine wc_region ?_
     refine wl_v rfl rfl (ov_move _ rfl) ?_
     refine wl_v rfl rfl (ov_nilCheck _ rfl) ?_
     refine wl_v rfl rfl (ov_fieldAddr _ ⟨g3, 1, none⟩ _ rfl fo89_1 rfl) ?_
     refine wl_v rfl rfl (ov_load1 ⟨g3, 1, none⟩ _ rfl sh66 (((Pc.at_cell (hS_ [] _ h)) 1).trans rfl)) ?_
     refine wl_v rfl rfl (ov_assign _ rfl) ?_
     refine wl_nil ?_
     refine qn_then ?_
     refine wc_exit ?_
     refine qn_then_exit ?_
     refine qn_block_exit ?_
     refine qn_next (tr6, ((n - (Pc.lnF (Pc.AT.fl tl4))) - ((tp5).f3)), ((a + (Pc.szF (Pc.AT.fl tl4))) + ((tp5).f2))) (by show Pc.AT.cnt tr6 < Pc.AT.cnt (Pc.AT.nd g3 tl4 tp5 tr6); first | (show _ < Pc.AT.cnt _ + 1 + Pc.AT.cnt _; omega) | omega) ⟨rfl, (congrArg (fun z_ => some (Value.int .i64 z_)) (show ((n - (Pc.lnF (Pc.AT.fl tl4))) - ((tp5).f3) : Int) = ((n - (Pc.lnF (Pc.AT.fl tl4))) - ((tp5).f3)) by omega)), (congrArg (fun z_ => some (Value.int .i64 z_)) (show ((a + (Pc.szF (Pc.AT.fl tl4))) + ((tp5).f2) : Int) = ((a + (Pc.szF (Pc.AT.fl tl4))) + ((tp5).f2)) by omega)), rfl, trivial⟩ ?_
     show ((∀ cs_ w_, Sx.St w0 F0 (cs_ ++ R) w_ → Pc.At w_ tr6) ∧ Pc.Wf s0 L (Pc.AT.fl tr6) ∧ 0 ≤ ((n - (Pc.lnF (Pc.AT.fl tl4))) - ((tp5).f3)) ∧ ((n - (Pc.lnF (Pc.AT.fl tl4))) - ((tp5).f3)) < Pc.lnF (Pc.AT.fl tr6) ∧ (AW.endsL (Pc.cat s0 L (Pc.AT.fl tr6))).getD (((n - (Pc.lnF (Pc.AT.fl tl4))) - ((tp5).f3))).toNat 0 + ((a + (Pc.szF (Pc.AT.fl tl4))) + ((tp5).f2)) = (AW.endsL (Pc.cat s0 L (Pc.AT.fl T))).getD n0.toNat 0 ∧ (Pc.cat s0 L (Pc.AT.fl tr6)).size + ((a + (Pc.szF (Pc.AT.fl tl4))) + ((tp5).f2)) ≤ 1000000 ∧ 0 ≤ ((a + (Pc.szF (Pc.AT.fl tl4))) + ((tp5).f2))) ∧ _
     have hm_ := hm3_ (by omega) (by omega)
     rw [show n - (Pc.lnF (Pc.AT.fl tl4) + (tp5).f3) = (n - (Pc.lnF (Pc.AT.fl tl4))) - ((tp5).f3) by omega] at hm_
     exact ⟨⟨(fun cs_ w_ h_ => (hS_ cs_ w_ h_).2.2), hw3_, by omega, by omega, by omega, by omega, by omega⟩, h⟩
    ·
     refine wc_skip ?_
     refine qn_then ?_
     refine wc_seq ?_
     refine wc_region ?_
     refine wl_v rfl rfl (ov_move _ rfl) ?_
     refine wl_v rfl rfl (ov_move _ rfl) ?_
     refine wl_v rfl rfl (ov_nilCheck _ rfl) ?_
     refine wl_v rfl rfl (ov_fieldAddr _ ⟨g3, 2, none⟩ _ rfl fo89_2 rfl) ?_
     refine wl_v rfl rfl (ov_loadN ⟨g3, 2, none⟩ [.bool ((tp5).f0), .int .i64 ((tp5).f1), .int .i64 ((tp5).f2), .int .i64 ((tp5).f3)] rfl sh77 (Sx.rob_cells ((Pc.at_cell (hS_ [] _ h))) 2 rfl)) ?_
     refine wl_call _ rfl rfl rfl ent58 (TW.textR_calls (R := [] ++ R) gt s0 A c L (Pc.AT.ptr T) tp5 hz0 hzL (Pc.wf_bd hw2_) hlc ht hr h) ?_
     rintro e_ w_ ⟨rfl, h⟩
     refine ⟨_, rfl, ?_⟩
     refine wl_v rfl rfl (ov_assign _ rfl) ?_
     refine wl_nil ?_
     refine qn_then ?_
     refine wc_seq ?_
     refine wc_region ?_
     refine wl_v rfl rfl (ov_move _ rfl) ?_
     refine wl_v rfl rfl (ov_lens _ rfl Try.underlying9) ?_
     refine wl_v rfl rfl (ov_move _ rfl) ?_
     refine wl_nil ?_
     refine qn_then ?_
     refine wc_block ?_
     have hm_ := hm2_ (by omega) (by omega)
     rw [show n - Pc.lnF (Pc.AT.fl tl4) = n - (Pc.lnF (Pc.AT.fl tl4)) by omega] at hm_
     refine wc_loop (fun (x_ : Nat × Int) => [(0, .pointer (some ⟨gt, 0, none⟩)), (1, .int .i64 (x_.2)), (6, .int .i64 (a + (Pc.szF (Pc.AT.fl tl4)))), (7, .pointer (some ⟨g3, 0, none⟩)), (8, .string (Pc.txP s0 L tp5)), (79, .int .i64 (((Pc.txP s0 L tp5).size : Int))), (80, .int .i64 (((x_.1 : Nat) : Int)))]) (fun (x_ : Nat × Int) (w : World) => (x_.1 ≤ (Pc.txP s0 L tp5).size ∧ 0 ≤ x_.2 ∧ x_.2 ≤ n ∧ ((AW.endsF (Pc.txP s0 L tp5) ((Pc.txP s0 L tp5).size + 1 - x_.1) x_.1).getD (x_.2).toNat 0 = (AW.endsL (Pc.txP s0 L tp5)).getD (n - (Pc.lnF (Pc.AT.fl tl4))).toNat 0 ∧ (x_.2).toNat < (AW.endsF (Pc.txP s0 L tp5) ((Pc.txP s0 L tp5).size + 1 - x_.1) x_.1).length)) ∧ Sx.St w0 F0 ([] ++ R) w) (fun (x_ : Nat × Int) => (Pc.txP s0 L tp5).size - x_.1) (0, n - (Pc.lnF (Pc.AT.fl tl4))) ?_ ?_ ?_
     · exact ⟨rfl, rfl, rfl, rfl, rfl, rfl, (congrArg (fun z_ => some (Value.int .i64 z_)) (show (0 : Int) = ((0 : Nat) : Int) by omega)), trivial⟩
     · exact (fun (hle_ : ((AW.endsL (Pc.txP s0 L tp5)).length : Int) = Pc.nlB (Pc.txP s0 L tp5)) => ⟨⟨Nat.zero_le _, (by show 0 ≤ n - (Pc.lnF (Pc.AT.fl tl4)); omega), (by show n - (Pc.lnF (Pc.AT.fl tl4)) ≤ n; omega), ⟨rfl, (by show (n - (Pc.lnF (Pc.AT.fl tl4))).toNat < (AW.endsL (Pc.txP s0 L tp5)).length; omega)⟩⟩, h⟩) (AW.endsL_len (Pc.txP s0 L tp5))
     rintro ⟨i, m⟩ w h
     obtain ⟨hJ, h⟩ := h
     replace hJ : i ≤ (Pc.txP s0 L tp5).size ∧ 0 ≤ m ∧ m ≤ n ∧ ((AW.endsF (Pc.txP s0 L tp5) ((Pc.txP s0 L tp5).size + 1 - i) i).getD (m).toNat 0 = (AW.endsL (Pc.txP s0 L tp5)).getD (n - (Pc.lnF (Pc.AT.fl tl4))).toNat 0 ∧ (m).toNat < (AW.endsF (Pc.txP s0 L tp5) ((Pc.txP s0 L tp5).size + 1 - i) i).length) := hJ
     replace h : Sx.St w0 F0 ([] ++ R) w := h
     show Sx.WC _ _ _ _ [(0, .pointer (some ⟨gt, 0, none⟩)), (1, .int .i64 (m)), (6, .int .i64 (a + (Pc.szF (Pc.AT.fl tl4)))), (7, .pointer (some ⟨g3, 0, none⟩)), (8, .string (Pc.txP s0 L tp5)), (79, .int .i64 (((Pc.txP s0 L tp5).size : Int))), (80, .int .i64 (((i : Nat) : Int)))] _
     refine wc_seq ?_
     refine wc_region ?_
     refine wl_v rfl rfl (ov_bin _ rfl rfl (binR_lss)) ?_
     refine wl_nil ?_
     refine qn_then ?_
     refine wc_seq ?_
     refine wc_cond (by rfl) (fun c9 => ?_) (fun c9 => ?_)
     ·
      refine wc_skip ?_
      refine qn_then ?_
      refine wc_seq ?_
      refine wc_block ?_
      refine wc_seq ?_
      refine wc_region ?_
      refine wl_v rfl rfl (ov_move _ rfl) ?_
      refine wl_v rfl rfl (ov_assign _ rfl) ?_
      refine wl_nil ?_
      refine qn_then ?_
      refine wc_seq ?_
      refine wc_seq ?_
      refine wc_region ?_
      refine wl_v rfl rfl (ov_move _ rfl) ?_
      refine wl_v rfl rfl (ov_move _ rfl) ?_
      have hbt10 := Go.Proofs.Ytieieindakbpoaa.Given.bt_nonneg (Pc.txP s0 L tp5) (((i : Nat) : Int))
      refine wl_v rfl rfl (ov_indexbt _ _ rfl rfl Try.underlying9 (by omega) (by omega)) ?_
      refine wl_v rfl rfl (ov_bin _ rfl rfl (binR_neq)) ?_
      refine wl_nil ?_
      refine qn_then ?_
      refine wc_cond (by rfl) (fun c11 => ?_) (fun c11 => ?_)
      ·
       refine wc_exit ?_
       refine qn_then_exit ?_
       refine qn_block_exit ?_
       refine qn_then ?_
       refine wc_region ?_
       refine wl_v rfl rfl (ov_bin _ rfl rfl (binR_add (r := (((i : Nat) : Int)) + 1) (Sx.w64 (by omega)))) ?_
       refine wl_v rfl rfl (ov_move _ rfl) ?_
       refine wl_nil ?_
       have hjf_ := hJ.2.2.2
       obtain ⟨q_, hq2_⟩ : ∃ q_, (Pc.txP s0 L tp5).size + 1 - i = q_ + 1 := ⟨(Pc.txP s0 L tp5).size - i, by omega⟩
       rw [hq2_] at hjf_
       unfold AW.endsF at hjf_
       rw [if_pos (by omega), if_neg (by first | assumption | omega), AW.endsF_fit (Pc.txP s0 L tp5) q_ ((Pc.txP s0 L tp5).size + 1 - (i + 1)) (i + 1) (by omega) (by omega)] at hjf_
       rw [List.nil_append] at hjf_
       refine qn_next ((i + 1), m) (by show (Pc.txP s0 L tp5).size - (i + 1) < (Pc.txP s0 L tp5).size - i; omega) ⟨rfl, rfl, rfl, rfl, rfl, rfl, (congrArg (fun z_ => some (Value.int .i64 z_)) (show ((((i : Nat) : Int)) + 1 : Int) = (((i + 1) : Nat) : Int) by omega)), trivial⟩ ?_
       show ((i + 1) ≤ (Pc.txP s0 L tp5).size ∧ 0 ≤ m ∧ m ≤ n ∧ ((AW.endsF (Pc.txP s0 L tp5) ((Pc.txP s0 L tp5).size + 1 - (i + 1)) (i + 1)).getD (m).toNat 0 = (AW.endsL (Pc.txP s0 L tp5)).getD (n - (Pc.lnF (Pc.AT.fl tl4))).toNat 0 ∧ (m).toNat < (AW.endsF (Pc.txP s0 L tp5) ((Pc.txP s0 L tp5).size + 1 - (i + 1)) (i + 1)).length)) ∧ _
       exact ⟨⟨by omega, by omega, by omega, hjf_⟩, h⟩
      ·
       refine wc_skip ?_
       refine qn_then ?_
       refine wc_seq ?_
       refine wc_seq ?_
       refine wc_region ?_
       refine wl_v rfl rfl (ov_move _ rfl) ?_
       refine wl_v rfl rfl (ov_bin _ rfl rfl (binR_eql)) ?_
       refine wl_nil ?_
       refine qn_then ?_
       refine wc_cond (by rfl) (fun c12 => ?_) (fun c12 => ?_)
       ·
        refine wc_seq ?_
        refine wc_region ?_
        refine wl_v rfl rfl (ov_move _ rfl) ?_
        refine wl_v rfl rfl (ov_move _ rfl) ?_
        refine wl_v rfl rfl (ov_bin _ rfl rfl (binR_add (r := (a + (Pc.szF (Pc.AT.fl tl4))) + (((i : Nat) : Int))) (Sx.w64 (by omega)))) ?_
        refine wl_v rfl rfl (ov_assign _ rfl) ?_
        refine wl_v rfl rfl (ov_assign _ rfl) ?_
        refine wl_nil ?_
        refine qn_then ?_
        refine wc_ret ?_
        refine qn_then_ret ?_
        refine qn_block_ret ?_
        refine qn_then_ret ?_
        refine qn_then_ret ?_
        refine qn_block_ret ?_
        refine qn_block_ret ?_
        refine qn_then_ret ?_
        refine qn_block_ret ?_
        refine qn_ret [_, _] ⟨rfl, rfl, trivial⟩ ?_
        have hjf_ := hJ.2.2.2.1
        obtain ⟨q_, hq2_⟩ : ∃ q_, (Pc.txP s0 L tp5).size + 1 - i = q_ + 1 := ⟨(Pc.txP s0 L tp5).size - i, by omega⟩
        rw [hq2_, show m.toNat = 0 by omega] at hjf_
        unfold AW.endsF at hjf_
        rw [if_pos (by omega), if_pos (by omega), List.singleton_append, List.getD_cons_zero] at hjf_
        have e_ : CN.newR (Pc.cat s0 L (Pc.AT.fl T)) n0 = ((a + (Pc.szF (Pc.AT.fl tl4))) + (((i : Nat) : Int)), true) := by
          show (if _ then _ else _) = _
          rw [if_neg (by omega)]
          refine Prod.ext ?_ rfl
          show (AW.endsL (Pc.cat s0 L (Pc.AT.fl T))).getD n0.toNat 0 = _
          omega
        have e1_ := congrArg Prod.fst e_
        have e2_ := congrArg Prod.snd e_
        dsimp only at e1_ e2_
        rw [e1_, e2_]
        exact ⟨rfl, h⟩
       ·
        refine wc_skip ?_
        refine qn_then ?_
        refine wc_region ?_
        refine wl_v rfl rfl (ov_move _ rfl) ?_
        refine wl_v rfl rfl (ov_bin _ rfl rfl (binR_sub (r := m - 1) (Sx.w64 (by omega)))) ?_
        refine wl_v rfl rfl (ov_assign _ rfl) ?_
        refine wl_nil ?_
        refine qn_block_normal ?_
        refine qn_then ?_
        refine wc_region ?_
        refine wl_v rfl rfl (ov_bin _ rfl rfl (binR_add (r := (((i : Nat) : Int)) + 1) (Sx.w64 (by omega)))) ?_
        refine wl_v rfl rfl (ov_move _ rfl) ?_
        refine wl_nil ?_
        have hjf_ := hJ.2.2.2
        obtain ⟨q_, hq2_⟩ : ∃ q_, (Pc.txP s0 L tp5).size + 1 - i = q_ + 1 := ⟨(Pc.txP s0 L tp5).size - i, by omega⟩
        rw [hq2_] at hjf_
        unfold AW.endsF at hjf_
        rw [if_pos (by omega), if_pos (by omega), AW.endsF_fit (Pc.txP s0 L tp5) q_ ((Pc.txP s0 L tp5).size + 1 - (i + 1)) (i + 1) (by omega) (by omega)] at hjf_
        obtain ⟨mm_, hmm_⟩ : ∃ mm_, m.toNat = mm_ + 1 := ⟨m.toNat - 1, by omega⟩
        rw [hmm_] at hjf_
        rw [List.singleton_append, List.getD_cons_succ, List.length_cons] at hjf_
        rw [show mm_ = (m - 1).toNat by omega] at hjf_
        refine qn_next ((i + 1), (m - 1)) (by show (Pc.txP s0 L tp5).size - (i + 1) < (Pc.txP s0 L tp5).size - i; omega) ⟨rfl, (congrArg (fun z_ => some (Value.int .i64 z_)) (show (m - 1 : Int) = (m - 1) by omega)), rfl, rfl, rfl, rfl, (congrArg (fun z_ => some (Value.int .i64 z_)) (show ((((i : Nat) : Int)) + 1 : Int) = (((i + 1) : Nat) : Int) by omega)), trivial⟩ ?_
        show ((i + 1) ≤ (Pc.txP s0 L tp5).size ∧ 0 ≤ (m - 1) ∧ (m - 1) ≤ n ∧ ((AW.endsF (Pc.txP s0 L tp5) ((Pc.txP s0 L tp5).size + 1 - (i + 1)) (i + 1)).getD ((m - 1)).toNat 0 = (AW.endsL (Pc.txP s0 L tp5)).getD (n - (Pc.lnF (Pc.AT.fl tl4))).toNat 0 ∧ ((m - 1)).toNat < (AW.endsF (Pc.txP s0 L tp5) ((Pc.txP s0 L tp5).size + 1 - (i + 1)) (i + 1)).length)) ∧ _
        exact ⟨⟨by omega, by omega, by omega, ⟨hjf_.1, by omega⟩⟩, h⟩
     ·
      exfalso
      have hjl_ := hJ.2.2.2.2
      have hi_ : i = (Pc.txP s0 L tp5).size := by omega
      rw [hi_, Nat.add_sub_cancel_left] at hjl_
      unfold AW.endsF at hjl_
      rw [if_neg (by omega)] at hjl_
      exact absurd hjl_ (Nat.not_lt_zero _)
theorem Before_w {w0 w : World} {F0 : Nat → Prop} {R : List Sx.HP} (Φ : World → Prop) (g : Nat) (D : List ByteArray) (d : Int) (k0 : Int)  (h : Sx.St w0 F0 ([Pc.tx Φ g D d, Pc.lib Φ] ++ R) w) : Calls Try.prog 34 #[.pointer (some ⟨g, 0, none⟩), .int .i64 k0] w (fun e w1 => e = .returned (.tuple #[.int .i64 (CN.befR (Pc.catB D) k0).1, .int .i64 (CN.befR (Pc.catB D) k0).2]) ∧ Sx.St w0 F0 ([Pc.tx Φ g D d, Pc.lib Φ] ++ R) w1) := by
  obtain ⟨s1_, A1_, c1_, L1_, T1_, ok_, hl_, h⟩ := Pc.tx_open h
  have hC_ := Pc.tok_cat ok_
  have hD_ := Pc.tok_len ok_
  have hz_ := Pc.cat_size ok_.wf
  have hn_ := Pc.cat_lines ok_.wf
  have hd_ := ok_.ed
  refine (CN.Before_calls (R := [Sx.blk g [.string s1_, .slice A1_ L1_.length c1_, .pointer (Pc.AT.ptr T1_)] 68, Pc.rowl Φ 5 A1_ c1_ L1_, Pc.lib Φ] ++ R) g s1_ A1_ c1_ L1_ T1_ k0 (by have := ok_.z0; omega) (by have := ok_.zL; omega) hl_ ok_.by_ ok_.wf (by have := ok_.zc; omega) (Pc.en_blk (i := 0) rfl) (Pc.en_rowl (i := 1) (j := 2) rfl rfl (fun _ z_ => z_)) (Pc.en_at (j := 2) rfl ok_.at_)  h).mono ?_
  rintro e_ w1 ⟨rfl, h⟩
  refine ⟨?_, Pc.tx_close rfl ok_ h⟩
  first | (rw [hC_]; done) | (rw [hC_, hz_]; done) | (rw [hC_, hn_]; done) | (rw [hD_]; done) | (rw [hd_]; done)
theorem Newline_w {w0 w : World} {F0 : Nat → Prop} {R : List Sx.HP} (Φ : World → Prop) (g : Nat) (D : List ByteArray) (d : Int) (n0 : Int)  (h : Sx.St w0 F0 ([Pc.tx Φ g D d, Pc.lib Φ] ++ R) w) : Calls Try.prog 35 #[.pointer (some ⟨g, 0, none⟩), .int .i64 n0] w (fun e w1 => e = .returned (.tuple #[.int .i64 (CN.newR (Pc.catB D) n0).1, .bool (CN.newR (Pc.catB D) n0).2]) ∧ Sx.St w0 F0 ([Pc.tx Φ g D d, Pc.lib Φ] ++ R) w1) := by
  obtain ⟨s1_, A1_, c1_, L1_, T1_, ok_, hl_, h⟩ := Pc.tx_open h
  have hC_ := Pc.tok_cat ok_
  have hD_ := Pc.tok_len ok_
  have hz_ := Pc.cat_size ok_.wf
  have hn_ := Pc.cat_lines ok_.wf
  have hd_ := ok_.ed
  refine (CN.Newline_calls (R := [Sx.blk g [.string s1_, .slice A1_ L1_.length c1_, .pointer (Pc.AT.ptr T1_)] 68, Pc.rowl Φ 5 A1_ c1_ L1_, Pc.lib Φ] ++ R) g s1_ A1_ c1_ L1_ T1_ n0 (by have := ok_.z0; omega) (by have := ok_.zL; omega) hl_ ok_.by_ ok_.wf (by have := ok_.zc; omega) (Pc.en_blk (i := 0) rfl) (Pc.en_rowl (i := 1) (j := 2) rfl rfl (fun _ z_ => z_)) (Pc.en_at (j := 2) rfl ok_.at_)  h).mono ?_
  rintro e_ w1 ⟨rfl, h⟩
  refine ⟨?_, Pc.tx_close rfl ok_ h⟩
  first | (rw [hC_]; done) | (rw [hC_, hz_]; done) | (rw [hC_, hn_]; done) | (rw [hD_]; done) | (rw [hd_]; done)
end Go.Proofs.Ytieieindakbpoaa.CN
