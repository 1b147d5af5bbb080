/- The walks of the plain editing. -/
import Derived.Test.YteancplgfjhagaaProg
import Derived.Test.YteancplgfjhagaaSxGlue
import Derived.Test.YteancplgfjhagaaSxKinds
import Derived.Test.YteancplgfjhagaaParasTh
import Derived.Test.YteancplgfjhagaaSxParas
import Derived.Test.YteancplgfjhagaaSxParasB
import Derived.Test.YteancplgfjhagaaSxPlain
import Derived.Test.YteancplgfjhagaaParasIns
import Derived.Test.YteancplgfjhagaaParasDel
import Derived.Test.YteancplgfjhagaaSxEdit
namespace Go.Proofs.Yteancplgfjhagaa.Paras.E
open Go Go.RowKit Go.Proofs.YteancplgfjhagaaW.PrintWords Go.Proofs.Yteancplgfjhagaa.Kinds Go.Proofs.Yteancplgfjhagaa.Paras Go.Proofs.Yteancplgfjhagaa.Paras.B Go.Proofs.Yteancplgfjhagaa.Paras.C Go.Proofs.Yteancplgfjhagaa.Paras.D
set_option linter.unusedVariables false
set_option linter.unusedSimpArgs false
theorem zo41 : Sx.zeroOf Try.prog 41 = some (.agg #[.int .i64 (0), .int .i64 (0), .int .i64 (0)]) := by kernel_rfl
theorem sh41 : Sx.shapeOf Try.prog 41 = some (true, 3) := by kernel_rfl
theorem ent18 : Sx.Ent Try.prog 18 := ⟨Try.f18, Try.func18, by kernel_rfl, by kernel_rfl⟩
theorem fo41_1 : Sx.fieldOff Try.prog 41 1 = some 1 := by kernel_rfl
theorem sh3 : Sx.shapeOf Try.prog 3 = some (false, 1) := by kernel_rfl
theorem fo41_0 : Sx.fieldOff Try.prog 41 0 = some 0 := by kernel_rfl
theorem ent19 : Sx.Ent Try.prog 19 := ⟨Try.f19, Try.func19, by kernel_rfl, by kernel_rfl⟩
theorem fo41_2 : Sx.fieldOff Try.prog 41 2 = some 2 := by kernel_rfl
theorem ent14 : Sx.Ent Try.prog 14 := ⟨Try.f14, Try.func14, by kernel_rfl, by kernel_rfl⟩
theorem ent22 : Sx.Ent Try.prog 22 := ⟨Try.f22, Try.func22, by kernel_rfl, by kernel_rfl⟩
theorem ent13 : Sx.Ent Try.prog 13 := ⟨Try.f13, Try.func13, by kernel_rfl, by kernel_rfl⟩
theorem es23 : Sx.elemSz Try.prog 23 = some (3, 1) := by kernel_rfl

/-- The text then. -/
def insS (s : ByteArray) (a : Int) (t : ByteArray) : ByteArray := if (insI (ixOf s) a t).2.2 ≠ 0 ∨ t.size = 0 then s else s.extract 0 a.toNat ++ t ++ s.extract a.toNat s.size
def delS (s : ByteArray) (a b : Int) : ByteArray := if errI (ixOf s) a b ≠ 0 ∨ a = b then s else s.extract 0 a.toNat ++ s.extract b.toNat s.size
theorem bs_app (s t : ByteArray) : bs (s ++ t) = bs s ++ bs t := by
  unfold bs
  rw [ByteArray.data_append]; simp
theorem bs_ext (s : ByteArray) (i j : Nat) : bs (s.extract i j) = ((bs s).take j).drop i := by
  unfold bs
  rw [ByteArray.data_extract]; simp [List.drop_take]
theorem size_app (s t : ByteArray) : (s ++ t).size = s.size + t.size := by rw [← bs_len, bs_app, List.length_append, bs_len, bs_len]
theorem size_ext (s : ByteArray) (i j : Nat) (h : j ≤ s.size) : (s.extract i j).size = j - i := by rw [← bs_len, bs_ext, List.length_drop, List.length_take, bs_len]; omega
theorem ins_bs {s t : ByteArray} {a : Int} (h : a ≤ s.size) : bs (s.extract 0 a.toNat ++ t ++ s.extract a.toNat s.size) = (bs s).take a.toNat ++ bs t ++ (bs s).drop a.toNat := by
  rw [bs_app, bs_app, bs_ext, bs_ext, List.drop_zero, ← bs_len s, List.take_length]
theorem del_bs {s : ByteArray} {a b : Int} : bs (s.extract 0 a.toNat ++ s.extract b.toNat s.size) = (bs s).take a.toNat ++ (bs s).drop b.toNat := by
  rw [bs_app, bs_ext, bs_ext, List.drop_zero, ← bs_len s, List.take_length]
/-- The package's Insert is the plain one. -/
theorem ins_all (s t : ByteArray) (a : Int) : (insI (ixOf s) a t).1 = ixOf (insS s a t) := by
  unfold insS
  by_cases h1 : a < 0 ∨ (ixOf s).size < a
  · have e : insI (ixOf s) a t = (ixOf s, (0, 0, 0), 30) := by unfold insI; rw [if_pos h1]
    rw [e, if_pos (.inl (by simp))]
  · by_cases h2 : t = ByteArray.mk #[]
    · have e : insI (ixOf s) a t = (ixOf s, (0, 0, 0), 0) := by unfold insI; rw [if_neg h1, if_pos h2]
      rw [e, if_pos (.inr (by rw [h2]; rfl))]
    · by_cases h3 : 65536 - (ixOf s).size < (t.size : Int)
      · have e : insI (ixOf s) a t = (ixOf s, (0, 0, 0), 31) := by unfold insI; rw [if_neg h1, if_neg h2, if_pos h3]
        rw [e, if_pos (.inl (by simp))]
      · have hsz := size_pos h2
        rw [ix_size] at h1
        have e : (insI (ixOf s) a t) = (chgI ⟨(ixOf s).lens, (ixOf s).size + t.size, newOI (ixOf s) a t⟩ (placeI (ixOf s) a).1 (oldI (ixOf s) a) (newLI (ixOf s) a t), ((placeI (ixOf s) a).1, oldI (ixOf s) a, ((newLI (ixOf s) a t).length : Int)), 0) := by unfold insI; rw [if_neg (by rw [ix_size]; exact h1), if_neg h2, if_neg h3]
        rw [e, if_neg (fun e => e.elim (fun e => e rfl) (fun e => by omega))]
        exact ins_eq (by omega) (by omega) hsz (ins_bs (by omega))
theorem del_all (s : ByteArray) (a b : Int) : (delI (ixOf s) a b).1 = ixOf (delS s a b) := by
  unfold delS
  by_cases h1 : errI (ixOf s) a b ≠ 0
  · have e : delI (ixOf s) a b = (ixOf s, (0, 0, 0), errI (ixOf s) a b) := by unfold delI; rw [if_pos h1]
    rw [e, if_pos (.inl h1)]
  · by_cases h2 : a = b
    · have e : delI (ixOf s) a b = (ixOf s, (0, 0, 0), 0) := by unfold delI; rw [if_neg h1, if_pos h2]
      rw [e, if_pos (.inr h2)]
    · have h3 := err_ok h1
      rw [ix_size] at h3
      have e : (delI (ixOf s) a b).1 = chgI ⟨(ixOf s).lens, (ixOf s).size - (b - a), openD (ixOf s) a b⟩ ((findP (ixOf s).lens a : Nat) : Int) (oldD (ixOf s) a b) (newD (ixOf s) a b) := by unfold delI; rw [if_neg h1, if_neg h2]
      rw [e, if_neg (fun e => e.elim h1 h2)]
      exact del_eq (by omega) (by omega) h3.2.2 del_bs


theorem ext_le (s : ByteArray) (i j : Nat) : (s.extract i j).size ≤ s.size := by rw [← bs_len, bs_ext, List.length_drop, List.length_take, bs_len]; omega
theorem iv_eq {S S' : ByteArray} {f o n e f' o' n' e' : Int} (hS : S = S') (hf : f = f') (ho : o = o') (hn : n = n') (he : e = e') : Ending.returned (.tuple #[.string S, .agg #[.int .i64 f, .int .i64 o, .int .i64 n], .int .i64 e]) = Ending.returned (.tuple #[.string S', .agg #[.int .i64 f', .int .i64 o', .int .i64 n'], .int .i64 e']) := by
  subst hS; subst hf; subst ho; subst hn; subst he; rfl
theorem ins_bad {s t : ByteArray} {a : Int} : (a < 0 ∨ (s.size : Int) < a → insS s a t = s ∧ (insI (ixOf s) a t).2.1.1 = 0 ∧ (insI (ixOf s) a t).2.1.2.1 = 0 ∧ (insI (ixOf s) a t).2.1.2.2 = 0 ∧ (insI (ixOf s) a t).2.2 = 30) ∧
    (¬ (a < 0 ∨ (s.size : Int) < a) → t = ByteArray.mk #[] → insS s a t = s ∧ (insI (ixOf s) a t).2.1.1 = 0 ∧ (insI (ixOf s) a t).2.1.2.1 = 0 ∧ (insI (ixOf s) a t).2.1.2.2 = 0 ∧ (insI (ixOf s) a t).2.2 = 0) ∧
    (¬ (a < 0 ∨ (s.size : Int) < a) → ¬ t = ByteArray.mk #[] → 65536 - (s.size : Int) < t.size → insS s a t = s ∧ (insI (ixOf s) a t).2.1.1 = 0 ∧ (insI (ixOf s) a t).2.1.2.1 = 0 ∧ (insI (ixOf s) a t).2.1.2.2 = 0 ∧ (insI (ixOf s) a t).2.2 = 31) := by
  refine ⟨fun h => ?_, fun h h2 => ?_, fun h h2 h3 => ?_⟩
  · have e : insI (ixOf s) a t = (ixOf s, (0, 0, 0), 30) := by unfold insI; rw [if_pos (by rw [ix_size]; exact h)]
    unfold insS; rw [e]; exact ⟨if_pos (.inl (by simp)), rfl, rfl, rfl, rfl⟩
  · have e : insI (ixOf s) a t = (ixOf s, (0, 0, 0), 0) := by unfold insI; rw [if_neg (by rw [ix_size]; exact h), if_pos h2]
    unfold insS; rw [e]; exact ⟨if_pos (.inr (by rw [h2]; rfl)), rfl, rfl, rfl, rfl⟩
  · have e : insI (ixOf s) a t = (ixOf s, (0, 0, 0), 31) := by unfold insI; rw [if_neg (by rw [ix_size]; exact h), if_neg h2, if_pos (by rw [ix_size]; exact h3)]
    unfold insS; rw [e]; exact ⟨if_pos (.inl (by simp)), rfl, rfl, rfl, rfl⟩
/-- What the plain Insert tells where it does something. -/
theorem ins_iv {s t : ByteArray} {a : Int} (h0 : 0 ≤ a) (h1 : a ≤ s.size) (h2 : ¬ t = ByteArray.mk #[]) (h3 : ¬ 65536 - (s.size : Int) < t.size) :
    insS s a t = s.extract 0 a.toNat ++ t ++ s.extract a.toNat s.size ∧ (insI (ixOf s) a t).2.2 = 0 ∧
    (insI (ixOf s) a t).2.1.2.2 = (lensOf (s.extract 0 a.toNat ++ t ++ s.extract a.toNat s.size)).length - (lensOf s).length + (insI (ixOf s) a t).2.1.2.1 ∧
    ((a < s.size ∧ (insI (ixOf s) a t).2.1.1 = (nlc s a.toNat : Int) ∧ (insI (ixOf s) a t).2.1.2.1 = 1) ∨
     (a = s.size ∧ openP s ∧ (insI (ixOf s) a t).2.1.1 = (lensOf s).length - 1 ∧ (insI (ixOf s) a t).2.1.2.1 = 1) ∨
     (a = s.size ∧ ¬ openP s ∧ (insI (ixOf s) a t).2.1.1 = (lensOf s).length ∧ (insI (ixOf s) a t).2.1.2.1 = 0)) := by
  have hsz := size_pos h2
  have e : insI (ixOf s) a t = (chgI ⟨(ixOf s).lens, (ixOf s).size + t.size, newOI (ixOf s) a t⟩ (placeI (ixOf s) a).1 (oldI (ixOf s) a) (newLI (ixOf s) a t), ((placeI (ixOf s) a).1, oldI (ixOf s) a, ((newLI (ixOf s) a t).length : Int)), 0) := by unfold insI; rw [if_neg (by rw [ix_size]; omega), if_neg h2, if_neg (by rw [ix_size]; exact h3)]
  have hi := ins_eq h0 h1 hsz (ins_bs (s := s) (t := t) h1)
  have hS : insS s a t = s.extract 0 a.toNat ++ t ++ s.extract a.toNat s.size := by
    unfold insS; rw [e, if_neg (fun e => e.elim (fun e => e rfl) (fun e => by omega))]
  have hlen := congrArg (fun x => x.lens.length) hi
  have hlen : ((lensOf s).take (placeI (ixOf s) a).1.toNat ++ newLI (ixOf s) a t ++ (lensOf s).drop ((placeI (ixOf s) a).1 + oldI (ixOf s) a).toNat).length = (lensOf (s.extract 0 a.toNat ++ t ++ s.extract a.toNat s.size)).length := hlen
  simp only [List.length_append, List.length_take, List.length_drop] at hlen
  have hopen := open_eq s
  have hold : oldI (ixOf s) a = if (placeI (ixOf s) a).1 < (lensOf s).length then 1 else 0 := rfl
  rw [e]
  refine ⟨hS, rfl, ?_, ?_⟩
  · show ((newLI (ixOf s) a t).length : Int) = _ + oldI (ixOf s) a
    rcases place_cases h0 h1 with h | h | h
    · rw [if_neg (by omega)] at hold; omega
    · rw [if_pos (by omega)] at hold; omega
    · obtain ⟨_, j, h5, h6, _⟩ := h
      rw [if_pos (by omega)] at hold; omega
  · rcases place_cases h0 h1 with h | h | h
    · rw [if_neg (by omega)] at hold
      exact .inr (.inr ⟨h.1, fun e => by rw [h.2.1] at hopen; exact absurd (hopen.trans (decide_eq_true e)) (by decide), h.2.2.1, hold⟩)
    · rw [if_pos (by omega)] at hold
      exact .inr (.inl ⟨h.1, by rw [h.2.1] at hopen; exact of_decide_eq_true hopen.symm, by show (placeI (ixOf s) a).1 = _; omega, hold⟩)
    · obtain ⟨h4, j, h5, h6, h7⟩ := h
      rw [if_pos (by omega)] at hold
      refine .inl ⟨h4, ?_, hold⟩
      show (placeI (ixOf s) a).1 = _
      have e1 := find_eq s a.toNat (by omega)
      rw [show ((a.toNat : Nat) : Int) = a by omega] at e1
      unfold placeI
      rw [ix_size, ix_lens, if_neg (fun e => by omega), if_neg (by omega), e1]

set_option maxRecDepth 100000 in
theorem rInsert_calls {w0 w : World} {F0 : Nat → Prop} {R : List Sx.HP} (s : ByteArray) (a : Int) (t : ByteArray) (hs : s.size ≤ 1099511627776) (ht : t.size ≤ 1099511627776) (h : Sx.St w0 F0 ([] ++ R) w) : Calls Try.prog 34 #[.string (s), .int .i64 (a), .string (t)] w (fun e w1 => e = .returned (.tuple #[.string (insS s a t), .agg #[.int .i64 (insI (ixOf s) a t).2.1.1, .int .i64 (insI (ixOf s) a t).2.1.2.1, .int .i64 (insI (ixOf s) a t).2.1.2.2], .int .i64 (insI (ixOf s) a t).2.2]) ∧ Sx.St w0 F0 R w1) := by
 have hz_ := ix_size s
 have hlo := lensOf_ok s
 have hx1 := ext_le s 0 a.toNat
 have hx2 := ext_le s a.toNat s.size
 have hbad := ins_bad (s := s) (t := t) (a := a)
 have hlo2 := lensOf_ok (s.extract 0 a.toNat ++ t ++ s.extract a.toNat s.size)
 have hso := size_app (s.extract 0 a.toNat ++ t) (s.extract a.toNat s.size)
 have hso2 := size_app (s.extract 0 a.toNat) t
 refine Sx.calls_fn (vs := [.string (s), .int .i64 (a), .string (t)]) Try.func34 rfl Try.ntmps34 rfl ?_
 refine Sx.wc_seq ?_
 refine Sx.wc_region ?_
 refine Sx.wl_v rfl rfl (Sx.ov_assign _ rfl) ?_
 refine Sx.wl_alloc _ h rfl rfl zo41 (fun b1 _ h => ?_)
 replace h : Sx.St _ _ (Sx.blk b1 [.int .i64 (0), .int .i64 (0), .int .i64 (0)] 41 :: _) _ := h
 refine Sx.wl_v rfl rfl (Sx.ov_assign _ rfl) ?_
 refine Sx.wl_nil ?_
 refine Sx.qn_then ?_
 refine Sx.wc_seq ?_
 refine Sx.wc_seq ?_
 refine Sx.wc_region ?_
 refine Sx.wl_v rfl rfl (Sx.ov_move _ rfl) ?_
 refine Sx.wl_v rfl rfl (Sx.ov_bin _ rfl rfl (Sx.binR_lss)) ?_
 refine Sx.wl_v rfl rfl (Sx.ov_move _ rfl) ?_
 refine Sx.wl_split 13 rfl (fun c2 => ?_) (fun c2 => ?_)
 ·
  refine Sx.wl_skip rfl rfl ?_
  refine Sx.wl_skip rfl rfl ?_
  refine Sx.wl_skip rfl rfl ?_
  refine Sx.wl_skip rfl rfl ?_
  refine Sx.wl_v rfl rfl (Sx.ov_pick_true _ rfl rfl) ?_
  refine Sx.wl_nil ?_
  refine Sx.qn_then ?_
  refine Sx.wc_cond_true rfl ?_
  refine Sx.wc_seq ?_
  refine Sx.wc_region ?_
  refine Sx.wl_v rfl rfl (Sx.ov_move _ rfl) ?_
  refine Sx.wl_v rfl rfl (Sx.ov_build [] [.int .i64 (0), .int .i64 (0), .int .i64 (0)] rfl rfl (by kernel_rfl)) ?_
  refine Sx.wl_v rfl rfl (Sx.ov_assign _ rfl) ?_
  refine Sx.wl_storebN 0 [.int .i64 (0), .int .i64 (0), .int .i64 (0)] [.int .i64 (0), .int .i64 (0), .int .i64 (0)] h rfl rfl rfl rfl (by simp [Value.oneCell']) sh41 rfl rfl (fun _ h => ?_)
  refine Sx.wl_v rfl rfl (Sx.ov_assign _ rfl) ?_
  refine Sx.wl_nil ?_
  refine Sx.qn_then ?_
  refine Sx.wc_ret ?_
  refine Sx.qn_then_ret ?_
  have hend_ := h
  replace h := Sx.st_selT [false] h
  refine Sx.qn_ret [_, _, _] ⟨rfl, ⟨_, rfl, Sx.loadVarN (vs := [.int .i64 (0), .int .i64 (0), .int .i64 (0)]) sh41 (Sx.blk_cells (cells := [.int .i64 (0), .int .i64 (0), .int .i64 (0)]) hend_ (i := 0) rfl 0 _ rfl)⟩, rfl, trivial⟩ ?_
  have hb_ := hbad.1 (by omega)
  exact ⟨iv_eq hb_.1.symm hb_.2.1.symm hb_.2.2.1.symm hb_.2.2.2.1.symm hb_.2.2.2.2.symm, h⟩
 ·
  refine Sx.wl_v rfl rfl (Sx.ov_move _ rfl) ?_
  refine Sx.wl_v rfl rfl (Sx.ov_move _ rfl) ?_
  refine Sx.wl_v rfl rfl (Sx.ov_lens _ rfl Try.underlying9) ?_
  refine Sx.wl_v rfl rfl (Sx.ov_bin _ rfl rfl (Sx.binR_gtr)) ?_
  refine Sx.wl_v rfl rfl (Sx.ov_pick_false _ rfl rfl) ?_
  refine Sx.wl_nil ?_
  refine Sx.qn_then ?_
  refine Sx.wc_cond (by rfl) (fun c3 => ?_) (fun c3 => ?_)
  ·
   refine Sx.wc_seq ?_
   refine Sx.wc_region ?_
   refine Sx.wl_v rfl rfl (Sx.ov_move _ rfl) ?_
   refine Sx.wl_v rfl rfl (Sx.ov_build [] [.int .i64 (0), .int .i64 (0), .int .i64 (0)] rfl rfl (by kernel_rfl)) ?_
   refine Sx.wl_v rfl rfl (Sx.ov_assign _ rfl) ?_
   refine Sx.wl_storebN 0 [.int .i64 (0), .int .i64 (0), .int .i64 (0)] [.int .i64 (0), .int .i64 (0), .int .i64 (0)] h rfl rfl rfl rfl (by simp [Value.oneCell']) sh41 rfl rfl (fun _ h => ?_)
   refine Sx.wl_v rfl rfl (Sx.ov_assign _ rfl) ?_
   refine Sx.wl_nil ?_
   refine Sx.qn_then ?_
   refine Sx.wc_ret ?_
   refine Sx.qn_then_ret ?_
   have hend_ := h
   replace h := Sx.st_selT [false] h
   refine Sx.qn_ret [_, _, _] ⟨rfl, ⟨_, rfl, Sx.loadVarN (vs := [.int .i64 (0), .int .i64 (0), .int .i64 (0)]) sh41 (Sx.blk_cells (cells := [.int .i64 (0), .int .i64 (0), .int .i64 (0)]) hend_ (i := 0) rfl 0 _ rfl)⟩, rfl, trivial⟩ ?_
   have hb_ := hbad.1 (by omega)
   exact ⟨iv_eq hb_.1.symm hb_.2.1.symm hb_.2.2.1.symm hb_.2.2.2.1.symm hb_.2.2.2.2.symm, h⟩
  ·
   refine Sx.wc_skip ?_
   refine Sx.qn_then ?_
   refine Sx.wc_seq ?_
   refine Sx.wc_seq ?_
   refine Sx.wc_region ?_
   refine Sx.wl_v rfl rfl (Sx.ov_move _ rfl) ?_
   refine Sx.wl_v rfl rfl (Sx.ov_bin _ rfl rfl (Sx.binR_eqs)) ?_
   refine Sx.wl_nil ?_
   refine Sx.qn_then ?_
   refine Sx.wc_cond (by rfl) (fun c4 => ?_) (fun c4 => ?_)
   ·
    refine Sx.wc_seq ?_
    refine Sx.wc_region ?_
    refine Sx.wl_v rfl rfl (Sx.ov_move _ rfl) ?_
    refine Sx.wl_v rfl rfl (Sx.ov_build [] [.int .i64 (0), .int .i64 (0), .int .i64 (0)] rfl rfl (by kernel_rfl)) ?_
    refine Sx.wl_v rfl rfl (Sx.ov_assign _ rfl) ?_
    refine Sx.wl_storebN 0 [.int .i64 (0), .int .i64 (0), .int .i64 (0)] [.int .i64 (0), .int .i64 (0), .int .i64 (0)] h rfl rfl rfl rfl (by simp [Value.oneCell']) sh41 rfl rfl (fun _ h => ?_)
    refine Sx.wl_v rfl rfl (Sx.ov_assign _ rfl) ?_
    refine Sx.wl_nil ?_
    refine Sx.qn_then ?_
    refine Sx.wc_ret ?_
    refine Sx.qn_then_ret ?_
    have hend_ := h
    replace h := Sx.st_selT [false] h
    refine Sx.qn_ret [_, _, _] ⟨rfl, ⟨_, rfl, Sx.loadVarN (vs := [.int .i64 (0), .int .i64 (0), .int .i64 (0)]) sh41 (Sx.blk_cells (cells := [.int .i64 (0), .int .i64 (0), .int .i64 (0)]) hend_ (i := 0) rfl 0 _ rfl)⟩, rfl, trivial⟩ ?_
    have hb_ := hbad.2.1 (by omega) (by assumption)
    exact ⟨iv_eq hb_.1.symm hb_.2.1.symm hb_.2.2.1.symm hb_.2.2.2.1.symm hb_.2.2.2.2.symm, h⟩
   ·
    refine Sx.wc_skip ?_
    refine Sx.qn_then ?_
    refine Sx.wc_seq ?_
    refine Sx.wc_seq ?_
    refine Sx.wc_region ?_
    refine Sx.wl_v rfl rfl (Sx.ov_move _ rfl) ?_
    refine Sx.wl_v rfl rfl (Sx.ov_lens _ rfl Try.underlying9) ?_
    refine Sx.wl_v rfl rfl (Sx.ov_move _ rfl) ?_
    refine Sx.wl_v rfl rfl (Sx.ov_lens _ rfl Try.underlying9) ?_
    refine Sx.wl_v rfl rfl (Sx.ov_bin _ rfl rfl (Sx.binR_sub (r := 65536 - (((s).size : Int))) (Sx.w64 (by first | omega | (simp only [size_app]; omega))))) ?_
    refine Sx.wl_v rfl rfl (Sx.ov_bin _ rfl rfl (Sx.binR_gtr)) ?_
    refine Sx.wl_nil ?_
    refine Sx.qn_then ?_
    refine Sx.wc_cond (by rfl) (fun c5 => ?_) (fun c5 => ?_)
    ·
     refine Sx.wc_seq ?_
     refine Sx.wc_region ?_
     refine Sx.wl_v rfl rfl (Sx.ov_move _ rfl) ?_
     refine Sx.wl_v rfl rfl (Sx.ov_build [] [.int .i64 (0), .int .i64 (0), .int .i64 (0)] rfl rfl (by kernel_rfl)) ?_
     refine Sx.wl_v rfl rfl (Sx.ov_assign _ rfl) ?_
     refine Sx.wl_storebN 0 [.int .i64 (0), .int .i64 (0), .int .i64 (0)] [.int .i64 (0), .int .i64 (0), .int .i64 (0)] h rfl rfl rfl rfl (by simp [Value.oneCell']) sh41 rfl rfl (fun _ h => ?_)
     refine Sx.wl_v rfl rfl (Sx.ov_assign _ rfl) ?_
     refine Sx.wl_nil ?_
     refine Sx.qn_then ?_
     refine Sx.wc_ret ?_
     refine Sx.qn_then_ret ?_
     have hend_ := h
     replace h := Sx.st_selT [false] h
     refine Sx.qn_ret [_, _, _] ⟨rfl, ⟨_, rfl, Sx.loadVarN (vs := [.int .i64 (0), .int .i64 (0), .int .i64 (0)]) sh41 (Sx.blk_cells (cells := [.int .i64 (0), .int .i64 (0), .int .i64 (0)]) hend_ (i := 0) rfl 0 _ rfl)⟩, rfl, trivial⟩ ?_
     have hb_ := hbad.2.2 (by omega) (by assumption) (by omega)
     exact ⟨iv_eq hb_.1.symm hb_.2.1.symm hb_.2.2.1.symm hb_.2.2.2.1.symm hb_.2.2.2.2.symm, h⟩
    ·
     have hiv := ins_iv (s := s) (t := t) (a := a) (by omega) (by omega) (by assumption) (by assumption)
     refine Sx.wc_skip ?_
     refine Sx.qn_then ?_
     refine Sx.wc_seq ?_
     refine Sx.wc_draw (fun w => Sx.St w0 F0 ([Sx.blk b1 [.int .i64 (0), .int .i64 (0), .int .i64 (0)] 41] ++ R) w) (by kernel_rfl) ?_
     replace h := Sx.st_drew h
     refine Sx.wa_take 0 rfl (by kernel_rfl) (by kernel_rfl) (by kernel_rfl) (fun _ _ _ h => h) rfl rfl (Sx.st_selT [true] h) (fun w_ hS => Sx.ov_move _ rfl) ?_
     refine Sx.wa_take 1 rfl (by kernel_rfl) (by kernel_rfl) (by kernel_rfl) (fun _ _ _ h => h) rfl rfl (Sx.st_selT [true] h) (fun w_ hS => Sx.ov_move _ rfl) ?_
     refine Sx.wa_take 2 rfl (by kernel_rfl) (by kernel_rfl) (by kernel_rfl) (fun _ _ _ h => h) rfl rfl (Sx.st_selT [true] h) (fun w_ hS => by exact Sx.ov_slices _ 0 ((a : Int).toNat) (by rfl) (by exact rfl) (by exact ⟨_, _, rfl, (by omega)⟩) Try.underlying9 (by omega) (by omega)) ?_
     refine Sx.wa_take 3 rfl (by kernel_rfl) (by kernel_rfl) (by kernel_rfl) (fun _ _ _ h => h) rfl rfl (Sx.st_selT [true] h) (fun w_ hS => Sx.ov_move _ rfl) ?_
     refine Sx.wa_take 4 rfl (by kernel_rfl) (by kernel_rfl) (by kernel_rfl) (fun _ _ _ h => h) rfl rfl (Sx.st_selT [true] h) (fun w_ hS => Sx.ov_bin _ rfl rfl (Sx.binR_adds (by first | omega | (simp only [size_app]; omega)))) ?_
     refine Sx.wa_take 5 rfl (by kernel_rfl) (by kernel_rfl) (by kernel_rfl) (fun _ _ _ h => h) rfl rfl (Sx.st_selT [true] h) (fun w_ hS => Sx.ov_move _ rfl) ?_
     refine Sx.wa_take 6 rfl (by kernel_rfl) (by kernel_rfl) (by kernel_rfl) (fun _ _ _ h => h) rfl rfl (Sx.st_selT [true] h) (fun w_ hS => Sx.ov_move _ rfl) ?_
     refine Sx.wa_take 7 rfl (by kernel_rfl) (by kernel_rfl) (by kernel_rfl) (fun _ _ _ h => h) rfl rfl (Sx.st_selT [true] h) (fun w_ hS => by exact Sx.ov_slices _ ((a : Int).toNat) ((s).size) (by rfl) (by exact ⟨_, _, rfl, (by omega)⟩) (by exact rfl) Try.underlying9 (by omega) (by omega)) ?_
     refine Sx.wa_take 8 rfl (by kernel_rfl) (by kernel_rfl) (by kernel_rfl) (fun _ _ _ h => h) rfl rfl (Sx.st_selT [true] h) (fun w_ hS => Sx.ov_bin _ rfl rfl (Sx.binR_adds (by first | omega | (simp only [size_app]; omega)))) ?_
     refine Sx.wa_take 9 rfl (by kernel_rfl) (by kernel_rfl) (by kernel_rfl) (fun _ _ _ h => h) rfl rfl (Sx.st_selT [true] h) (fun w_ hS => Sx.ov_assign _ rfl) ?_
     refine Sx.wa_done (by kernel_rfl) ?_
     refine Sx.qn_then ?_
     refine Sx.wc_seq ?_
     refine Sx.wc_region ?_
     refine Sx.wl_v rfl rfl (Sx.ov_move _ rfl) ?_
     refine Sx.wl_call _ rfl rfl rfl ent18 (rCount_calls (R := [Sx.blk b1 [.int .i64 (0), .int .i64 (0), .int .i64 (0)] 41] ++ R) s (by first | omega | (simp only [size_app]; omega)) h) ?_
     rintro e_ w_ ⟨rfl, h⟩
     refine ⟨_, rfl, ?_⟩
     refine Sx.wl_v rfl rfl (Sx.ov_build [(0, .int .i64 (((lensOf s).length : Int)))] [.int .i64 (((lensOf s).length : Int)), .int .i64 (0), .int .i64 (0)] rfl rfl (by kernel_rfl)) ?_
     refine Sx.wl_alloc _ h rfl rfl zo41 (fun b6 _ h => ?_)
     replace h : Sx.St _ _ (Sx.blk b6 [.int .i64 (0), .int .i64 (0), .int .i64 (0)] 41 :: _) _ := h
     refine Sx.wl_storebN 0 [.int .i64 (((lensOf s).length : Int)), .int .i64 (0), .int .i64 (0)] [.int .i64 (((lensOf s).length : Int)), .int .i64 (0), .int .i64 (0)] h rfl rfl rfl rfl (by simp [Value.oneCell']) sh41 rfl rfl (fun _ h => ?_)
     refine Sx.wl_nil ?_
     refine Sx.qn_then ?_
     refine Sx.wc_seq ?_
     refine Sx.wc_seq ?_
     refine Sx.wc_region ?_
     refine Sx.wl_v rfl rfl (Sx.ov_move _ rfl) ?_
     refine Sx.wl_v rfl rfl (Sx.ov_move _ rfl) ?_
     refine Sx.wl_v rfl rfl (Sx.ov_lens _ rfl Try.underlying9) ?_
     refine Sx.wl_v rfl rfl (Sx.ov_bin _ rfl rfl (Sx.binR_lss)) ?_
     refine Sx.wl_v rfl rfl (Sx.ov_move _ rfl) ?_
     refine Sx.wl_split 49 rfl (fun c7 => ?_) (fun c7 => ?_)
     ·
      refine Sx.wl_skip rfl rfl ?_
      refine Sx.wl_skip rfl rfl ?_
      refine Sx.wl_v rfl rfl (Sx.ov_pick_true _ rfl rfl) ?_
      refine Sx.wl_nil ?_
      refine Sx.qn_then ?_
      refine Sx.wc_cond_true rfl ?_
      refine Sx.wc_seq ?_
      refine Sx.wc_region ?_
      refine Sx.wl_v rfl rfl (Sx.ov_fieldAddr _ ⟨b6, 1, none⟩ _ rfl fo41_1 rfl) ?_
      refine Sx.wl_storeb 0 _ [.int .i64 (((lensOf s).length : Int)), .int .i64 (1), .int .i64 (0)] h rfl rfl rfl rfl rfl rfl sh3 rfl rfl (fun _ h => ?_)
      refine Sx.wl_nil ?_
      refine Sx.qn_then ?_
      refine Sx.wc_seq ?_
      refine Sx.wc_region ?_
      refine Sx.wl_v rfl rfl (Sx.ov_move _ rfl) ?_
      refine Sx.wl_call _ rfl rfl rfl ent18 (rCount_calls (R := [Sx.blk b6 [.int .i64 (((lensOf s).length : Int)), .int .i64 (1), .int .i64 (0)] 41, Sx.blk b1 [.int .i64 (0), .int .i64 (0), .int .i64 (0)] 41] ++ R) s (by first | omega | (simp only [size_app]; omega)) h) ?_
      rintro e_ w_ ⟨rfl, h⟩
      refine ⟨_, rfl, ?_⟩
      refine Sx.wl_v rfl rfl (Sx.ov_bin _ rfl rfl (Sx.binR_sub (r := (((lensOf s).length : Int)) - 1) (Sx.w64 (by first | omega | (simp only [size_app]; omega))))) ?_
      refine Sx.wl_v rfl rfl (Sx.ov_fieldAddr _ ⟨b6, 0, none⟩ _ rfl fo41_0 rfl) ?_
      refine Sx.wl_storeb 0 _ [.int .i64 ((((lensOf s).length : Int)) - 1), .int .i64 (1), .int .i64 (0)] h rfl rfl rfl rfl rfl rfl sh3 rfl rfl (fun _ h => ?_)
      refine Sx.wl_nil ?_
      refine Sx.qn_then ?_
      refine Sx.wc_seq ?_
      refine Sx.wc_region ?_
      refine Sx.wl_v rfl rfl (Sx.ov_move _ rfl) ?_
      refine Sx.wl_v rfl rfl (Sx.ov_move _ rfl) ?_
      refine Sx.wl_v rfl rfl (Sx.ov_lens _ rfl Try.underlying9) ?_
      refine Sx.wl_v rfl rfl (Sx.ov_bin _ rfl rfl (Sx.binR_lss)) ?_
      refine Sx.wl_nil ?_
      refine Sx.qn_then ?_
      refine Sx.wc_cond (by rfl) (fun c8 => ?_) (fun c8 => ?_)
      ·
       refine Sx.wc_region ?_
       refine Sx.wl_v rfl rfl (Sx.ov_move _ rfl) ?_
       refine Sx.wl_v rfl rfl (Sx.ov_move _ rfl) ?_
       refine Sx.wl_call _ rfl rfl rfl ent19 (rFind_calls (R := [Sx.blk b6 [.int .i64 ((((lensOf s).length : Int)) - 1), .int .i64 (1), .int .i64 (0)] 41, Sx.blk b1 [.int .i64 (0), .int .i64 (0), .int .i64 (0)] 41] ++ R) s a (by omega) (by omega) (by omega) h) ?_
       rintro e_ w_ ⟨rfl, h⟩
       refine ⟨_, rfl, ?_⟩
       refine Sx.wl_v rfl rfl (Sx.ov_fieldAddr _ ⟨b6, 0, none⟩ _ rfl fo41_0 rfl) ?_
       refine Sx.wl_storeb 0 _ [.int .i64 (((nlc s (a : Int).toNat) : Int)), .int .i64 (1), .int .i64 (0)] h rfl rfl rfl rfl rfl rfl sh3 rfl rfl (fun _ h => ?_)
       refine Sx.wl_nil ?_
       refine Sx.qn_then ?_
       refine Sx.wc_seq ?_
       refine Sx.wc_draw (fun w => Sx.St w0 F0 ([Sx.blk b1 [.int .i64 (0), .int .i64 (0), .int .i64 (0)] 41] ++ R) w) (by kernel_rfl) ?_
       replace h := Sx.st_drew h
       refine Sx.wa_take 0 rfl (by kernel_rfl) (by kernel_rfl) (by kernel_rfl) (fun _ _ _ h => h) rfl rfl (Sx.st_selT [false, true] h) (fun w_ hS => Sx.ov_move _ rfl) ?_
       refine Sx.wa_take 2 rfl (by kernel_rfl) (by kernel_rfl) (by kernel_rfl) (fun _ _ _ h => h) rfl rfl (Sx.st_selT [false, true] h) (fun w_ hS => Sx.ov_move _ rfl) ?_
       refine Sx.wa_take 5 rfl (by kernel_rfl) (by kernel_rfl) (by kernel_rfl) (fun _ _ _ h => h) rfl rfl (Sx.st_selT [false, true] h) (fun w_ hS => Sx.ov_fieldAddr _ ⟨b6, 1, none⟩ _ rfl fo41_1 rfl) ?_
       refine Sx.wa_two 1 6 rfl rfl (by kernel_rfl) ?_ ?_
       ·
        refine Sx.wl_call _ rfl rfl rfl ent18 (rCount_calls (R := [Sx.blk b6 [.int .i64 (((nlc s (a : Int).toNat) : Int)), .int .i64 (1), .int .i64 (0)] 41, Sx.blk b1 [.int .i64 (0), .int .i64 (0), .int .i64 (0)] 41] ++ R) ((((s).extract 0 ((a : Int).toNat)) ++ (t)) ++ ((s).extract ((a : Int).toNat) ((s).size))) (by first | omega | (simp only [size_app]; omega)) h) ?_
        rintro e_ w_ ⟨rfl, h⟩
        refine ⟨_, rfl, ?_⟩
        refine Sx.wl_nil ?_
        refine Sx.qn_wa (Sx.st_selT [false, true] h) ?_
        refine Sx.wa_two 3 6 rfl rfl (by kernel_rfl) ?_ ?_
        ·
         refine Sx.wl_call _ rfl rfl rfl ent18 (rCount_calls (R := [Sx.blk b6 [.int .i64 (((nlc s (a : Int).toNat) : Int)), .int .i64 (1), .int .i64 (0)] 41, Sx.blk b1 [.int .i64 (0), .int .i64 (0), .int .i64 (0)] 41] ++ R) s (by first | omega | (simp only [size_app]; omega)) h) ?_
         rintro e_ w_ ⟨rfl, h⟩
         refine ⟨_, rfl, ?_⟩
         refine Sx.wl_nil ?_
         refine Sx.qn_wa (Sx.st_selT [false, true] h) ?_
         refine Sx.wa_take 4 rfl (by kernel_rfl) (by kernel_rfl) (by kernel_rfl) (fun _ _ _ h => h) rfl rfl (Sx.st_selT [false, true] h) (fun w_ hS => Sx.ov_bin _ rfl rfl (Sx.binR_sub (r := (((lensOf ((((s).extract 0 ((a : Int).toNat)) ++ (t)) ++ ((s).extract ((a : Int).toNat) ((s).size)))).length : Int)) - (((lensOf s).length : Int))) (Sx.w64 (by first | omega | (simp only [size_app]; omega))))) ?_
         refine Sx.wa_one 6 rfl (by kernel_rfl) ?_
         refine Sx.wl_v rfl rfl (Sx.ov_loadb 0 _ h rfl rfl sh3 rfl) ?_
         refine Sx.wl_nil ?_
         refine Sx.qn_wa (Sx.st_selT [false, true] h) ?_
         refine Sx.wa_take 7 rfl (by kernel_rfl) (by kernel_rfl) (by kernel_rfl) (fun _ _ _ h => h) rfl rfl (Sx.st_selT [false, true] h) (fun w_ hS => Sx.ov_bin _ rfl rfl (Sx.binR_add (r := ((((lensOf ((((s).extract 0 ((a : Int).toNat)) ++ (t)) ++ ((s).extract ((a : Int).toNat) ((s).size)))).length : Int)) - (((lensOf s).length : Int))) + 1) (Sx.w64 (by first | omega | (simp only [size_app]; omega))))) ?_
         refine Sx.wa_take 8 rfl (by kernel_rfl) (by kernel_rfl) (by kernel_rfl) (fun _ _ _ h => h) rfl rfl (Sx.st_selT [false, true] h) (fun w_ hS => Sx.ov_fieldAddr _ ⟨b6, 2, none⟩ _ rfl fo41_2 rfl) ?_
         refine Sx.wa_one 9 rfl (by kernel_rfl) ?_
         refine Sx.wl_storeb 0 _ [.int .i64 (((nlc s (a : Int).toNat) : Int)), .int .i64 (1), .int .i64 (((((lensOf ((((s).extract 0 ((a : Int).toNat)) ++ (t)) ++ ((s).extract ((a : Int).toNat) ((s).size)))).length : Int)) - (((lensOf s).length : Int))) + 1)] h rfl rfl rfl rfl rfl rfl sh3 rfl rfl (fun _ h => ?_)
         refine Sx.wl_nil ?_
         refine Sx.qn_wa (Sx.st_selT [false, true] h) ?_
         refine Sx.wa_done (by kernel_rfl) ?_
         refine Sx.qn_then ?_
         refine Sx.wc_seq ?_
         refine Sx.wc_draw (fun w => Sx.St w0 F0 ([Sx.blk b6 [.int .i64 (((nlc s (a : Int).toNat) : Int)), .int .i64 (1), .int .i64 (((((lensOf ((((s).extract 0 ((a : Int).toNat)) ++ (t)) ++ ((s).extract ((a : Int).toNat) ((s).size)))).length : Int)) - (((lensOf s).length : Int))) + 1)] 41] ++ R) w) (by kernel_rfl) ?_
         replace h := Sx.st_drew h
         refine Sx.wa_take 0 rfl (by kernel_rfl) (by kernel_rfl) (by kernel_rfl) (fun _ _ _ h => h) rfl rfl (Sx.st_selT [true, false] h) (fun w_ hS => Sx.ov_move _ rfl) ?_
         refine Sx.wa_take 1 rfl (by kernel_rfl) (by kernel_rfl) (by kernel_rfl) (fun _ _ _ h => h) rfl rfl (Sx.st_selT [true, false] h) (fun w_ hS => Sx.ov_loadbN 0 [.int .i64 (((nlc s (a : Int).toNat) : Int)), .int .i64 (1), .int .i64 (((((lensOf ((((s).extract 0 ((a : Int).toNat)) ++ (t)) ++ ((s).extract ((a : Int).toNat) ((s).size)))).length : Int)) - (((lensOf s).length : Int))) + 1)] hS rfl rfl sh41 rfl) ?_
         refine Sx.wa_take 2 rfl (by kernel_rfl) (by kernel_rfl) (by kernel_rfl) (fun _ _ _ h => h) rfl rfl (Sx.st_selT [true, false] h) (fun w_ hS => Sx.ov_assign _ rfl) ?_
         refine Sx.wa_one 3 rfl (by kernel_rfl) ?_
         refine Sx.wl_storebN 1 [.int .i64 (((nlc s (a : Int).toNat) : Int)), .int .i64 (1), .int .i64 (((((lensOf ((((s).extract 0 ((a : Int).toNat)) ++ (t)) ++ ((s).extract ((a : Int).toNat) ((s).size)))).length : Int)) - (((lensOf s).length : Int))) + 1)] [.int .i64 (((nlc s (a : Int).toNat) : Int)), .int .i64 (1), .int .i64 (((((lensOf ((((s).extract 0 ((a : Int).toNat)) ++ (t)) ++ ((s).extract ((a : Int).toNat) ((s).size)))).length : Int)) - (((lensOf s).length : Int))) + 1)] h rfl rfl rfl rfl (by simp [Value.oneCell']) sh41 rfl rfl (fun _ h => ?_)
         refine Sx.wl_nil ?_
         refine Sx.qn_wa (Sx.st_selT [true, false] h) ?_
         refine Sx.wa_take 4 rfl (by kernel_rfl) (by kernel_rfl) (by kernel_rfl) (fun _ _ _ h => h) rfl rfl (Sx.st_selT [true, false] h) (fun w_ hS => Sx.ov_assign _ rfl) ?_
         refine Sx.wa_done (by kernel_rfl) ?_
         refine Sx.qn_then ?_
         refine Sx.wc_ret ?_
         have hend_ := h
         replace h := Sx.st_selT [false, false] h
         refine Sx.qn_ret [_, _, _] ⟨rfl, ⟨_, rfl, Sx.loadVarN (vs := [.int .i64 (((nlc s (a : Int).toNat) : Int)), .int .i64 (1), .int .i64 (((((lensOf ((((s).extract 0 ((a : Int).toNat)) ++ (t)) ++ ((s).extract ((a : Int).toNat) ((s).size)))).length : Int)) - (((lensOf s).length : Int))) + 1)]) sh41 (Sx.blk_cells (cells := [.int .i64 (((nlc s (a : Int).toNat) : Int)), .int .i64 (1), .int .i64 (((((lensOf ((((s).extract 0 ((a : Int).toNat)) ++ (t)) ++ ((s).extract ((a : Int).toNat) ((s).size)))).length : Int)) - (((lensOf s).length : Int))) + 1)]) hend_ (i := 1) rfl 0 _ rfl)⟩, rfl, trivial⟩ ?_
         refine ⟨iv_eq hiv.1.symm ?_ ?_ ?_ hiv.2.1.symm, h⟩ <;> (rcases hiv.2.2.2 with h4_ | h4_ | h4_ <;> first | omega | (exfalso; omega) | (exact absurd h4_.2.1 (by assumption)))
        ·
         refine Sx.wl_v rfl rfl (Sx.ov_loadb 0 _ h rfl rfl sh3 rfl) ?_
         refine Sx.wl_nil ?_
         refine Sx.qn_wa (Sx.st_selT [false, true] h) ?_
         refine Sx.wa_one 3 rfl (by kernel_rfl) ?_
         refine Sx.wl_call _ rfl rfl rfl ent18 (rCount_calls (R := [Sx.blk b6 [.int .i64 (((nlc s (a : Int).toNat) : Int)), .int .i64 (1), .int .i64 (0)] 41, Sx.blk b1 [.int .i64 (0), .int .i64 (0), .int .i64 (0)] 41] ++ R) s (by first | omega | (simp only [size_app]; omega)) h) ?_
         rintro e_ w_ ⟨rfl, h⟩
         refine ⟨_, rfl, ?_⟩
         refine Sx.wl_nil ?_
         refine Sx.qn_wa (Sx.st_selT [false, true] h) ?_
         refine Sx.wa_take 4 rfl (by kernel_rfl) (by kernel_rfl) (by kernel_rfl) (fun _ _ _ h => h) rfl rfl (Sx.st_selT [false, true] h) (fun w_ hS => Sx.ov_bin _ rfl rfl (Sx.binR_sub (r := (((lensOf ((((s).extract 0 ((a : Int).toNat)) ++ (t)) ++ ((s).extract ((a : Int).toNat) ((s).size)))).length : Int)) - (((lensOf s).length : Int))) (Sx.w64 (by first | omega | (simp only [size_app]; omega))))) ?_
         refine Sx.wa_take 7 rfl (by kernel_rfl) (by kernel_rfl) (by kernel_rfl) (fun _ _ _ h => h) rfl rfl (Sx.st_selT [false, true] h) (fun w_ hS => Sx.ov_bin _ rfl rfl (Sx.binR_add (r := ((((lensOf ((((s).extract 0 ((a : Int).toNat)) ++ (t)) ++ ((s).extract ((a : Int).toNat) ((s).size)))).length : Int)) - (((lensOf s).length : Int))) + 1) (Sx.w64 (by first | omega | (simp only [size_app]; omega))))) ?_
         refine Sx.wa_take 8 rfl (by kernel_rfl) (by kernel_rfl) (by kernel_rfl) (fun _ _ _ h => h) rfl rfl (Sx.st_selT [false, true] h) (fun w_ hS => Sx.ov_fieldAddr _ ⟨b6, 2, none⟩ _ rfl fo41_2 rfl) ?_
         refine Sx.wa_one 9 rfl (by kernel_rfl) ?_
         refine Sx.wl_storeb 0 _ [.int .i64 (((nlc s (a : Int).toNat) : Int)), .int .i64 (1), .int .i64 (((((lensOf ((((s).extract 0 ((a : Int).toNat)) ++ (t)) ++ ((s).extract ((a : Int).toNat) ((s).size)))).length : Int)) - (((lensOf s).length : Int))) + 1)] h rfl rfl rfl rfl rfl rfl sh3 rfl rfl (fun _ h => ?_)
         refine Sx.wl_nil ?_
         refine Sx.qn_wa (Sx.st_selT [false, true] h) ?_
         refine Sx.wa_done (by kernel_rfl) ?_
         refine Sx.qn_then ?_
         refine Sx.wc_seq ?_
         refine Sx.wc_draw (fun w => Sx.St w0 F0 ([Sx.blk b6 [.int .i64 (((nlc s (a : Int).toNat) : Int)), .int .i64 (1), .int .i64 (((((lensOf ((((s).extract 0 ((a : Int).toNat)) ++ (t)) ++ ((s).extract ((a : Int).toNat) ((s).size)))).length : Int)) - (((lensOf s).length : Int))) + 1)] 41] ++ R) w) (by kernel_rfl) ?_
         replace h := Sx.st_drew h
         refine Sx.wa_take 0 rfl (by kernel_rfl) (by kernel_rfl) (by kernel_rfl) (fun _ _ _ h => h) rfl rfl (Sx.st_selT [true, false] h) (fun w_ hS => Sx.ov_move _ rfl) ?_
         refine Sx.wa_take 1 rfl (by kernel_rfl) (by kernel_rfl) (by kernel_rfl) (fun _ _ _ h => h) rfl rfl (Sx.st_selT [true, false] h) (fun w_ hS => Sx.ov_loadbN 0 [.int .i64 (((nlc s (a : Int).toNat) : Int)), .int .i64 (1), .int .i64 (((((lensOf ((((s).extract 0 ((a : Int).toNat)) ++ (t)) ++ ((s).extract ((a : Int).toNat) ((s).size)))).length : Int)) - (((lensOf s).length : Int))) + 1)] hS rfl rfl sh41 rfl) ?_
         refine Sx.wa_take 2 rfl (by kernel_rfl) (by kernel_rfl) (by kernel_rfl) (fun _ _ _ h => h) rfl rfl (Sx.st_selT [true, false] h) (fun w_ hS => Sx.ov_assign _ rfl) ?_
         refine Sx.wa_one 3 rfl (by kernel_rfl) ?_
         refine Sx.wl_storebN 1 [.int .i64 (((nlc s (a : Int).toNat) : Int)), .int .i64 (1), .int .i64 (((((lensOf ((((s).extract 0 ((a : Int).toNat)) ++ (t)) ++ ((s).extract ((a : Int).toNat) ((s).size)))).length : Int)) - (((lensOf s).length : Int))) + 1)] [.int .i64 (((nlc s (a : Int).toNat) : Int)), .int .i64 (1), .int .i64 (((((lensOf ((((s).extract 0 ((a : Int).toNat)) ++ (t)) ++ ((s).extract ((a : Int).toNat) ((s).size)))).length : Int)) - (((lensOf s).length : Int))) + 1)] h rfl rfl rfl rfl (by simp [Value.oneCell']) sh41 rfl rfl (fun _ h => ?_)
         refine Sx.wl_nil ?_
         refine Sx.qn_wa (Sx.st_selT [true, false] h) ?_
         refine Sx.wa_take 4 rfl (by kernel_rfl) (by kernel_rfl) (by kernel_rfl) (fun _ _ _ h => h) rfl rfl (Sx.st_selT [true, false] h) (fun w_ hS => Sx.ov_assign _ rfl) ?_
         refine Sx.wa_done (by kernel_rfl) ?_
         refine Sx.qn_then ?_
         refine Sx.wc_ret ?_
         have hend_ := h
         replace h := Sx.st_selT [false, false] h
         refine Sx.qn_ret [_, _, _] ⟨rfl, ⟨_, rfl, Sx.loadVarN (vs := [.int .i64 (((nlc s (a : Int).toNat) : Int)), .int .i64 (1), .int .i64 (((((lensOf ((((s).extract 0 ((a : Int).toNat)) ++ (t)) ++ ((s).extract ((a : Int).toNat) ((s).size)))).length : Int)) - (((lensOf s).length : Int))) + 1)]) sh41 (Sx.blk_cells (cells := [.int .i64 (((nlc s (a : Int).toNat) : Int)), .int .i64 (1), .int .i64 (((((lensOf ((((s).extract 0 ((a : Int).toNat)) ++ (t)) ++ ((s).extract ((a : Int).toNat) ((s).size)))).length : Int)) - (((lensOf s).length : Int))) + 1)]) hend_ (i := 1) rfl 0 _ rfl)⟩, rfl, trivial⟩ ?_
         refine ⟨iv_eq hiv.1.symm ?_ ?_ ?_ hiv.2.1.symm, h⟩ <;> (rcases hiv.2.2.2 with h4_ | h4_ | h4_ <;> first | omega | (exfalso; omega) | (exact absurd h4_.2.1 (by assumption)))
       ·
        refine Sx.wl_v rfl rfl (Sx.ov_loadb 0 _ h rfl rfl sh3 rfl) ?_
        refine Sx.wl_nil ?_
        refine Sx.qn_wa (Sx.st_selT [false, true] h) ?_
        refine Sx.wa_one 1 rfl (by kernel_rfl) ?_
        refine Sx.wl_call _ rfl rfl rfl ent18 (rCount_calls (R := [Sx.blk b6 [.int .i64 (((nlc s (a : Int).toNat) : Int)), .int .i64 (1), .int .i64 (0)] 41, Sx.blk b1 [.int .i64 (0), .int .i64 (0), .int .i64 (0)] 41] ++ R) ((((s).extract 0 ((a : Int).toNat)) ++ (t)) ++ ((s).extract ((a : Int).toNat) ((s).size))) (by first | omega | (simp only [size_app]; omega)) h) ?_
        rintro e_ w_ ⟨rfl, h⟩
        refine ⟨_, rfl, ?_⟩
        refine Sx.wl_nil ?_
        refine Sx.qn_wa (Sx.st_selT [false, true] h) ?_
        refine Sx.wa_one 3 rfl (by kernel_rfl) ?_
        refine Sx.wl_call _ rfl rfl rfl ent18 (rCount_calls (R := [Sx.blk b6 [.int .i64 (((nlc s (a : Int).toNat) : Int)), .int .i64 (1), .int .i64 (0)] 41, Sx.blk b1 [.int .i64 (0), .int .i64 (0), .int .i64 (0)] 41] ++ R) s (by first | omega | (simp only [size_app]; omega)) h) ?_
        rintro e_ w_ ⟨rfl, h⟩
        refine ⟨_, rfl, ?_⟩
        refine Sx.wl_nil ?_
        refine Sx.qn_wa (Sx.st_selT [false, true] h) ?_
        refine Sx.wa_take 4 rfl (by kernel_rfl) (by kernel_rfl) (by kernel_rfl) (fun _ _ _ h => h) rfl rfl (Sx.st_selT [false, true] h) (fun w_ hS => Sx.ov_bin _ rfl rfl (Sx.binR_sub (r := (((lensOf ((((s).extract 0 ((a : Int).toNat)) ++ (t)) ++ ((s).extract ((a : Int).toNat) ((s).size)))).length : Int)) - (((lensOf s).length : Int))) (Sx.w64 (by first | omega | (simp only [size_app]; omega))))) ?_
        refine Sx.wa_take 7 rfl (by kernel_rfl) (by kernel_rfl) (by kernel_rfl) (fun _ _ _ h => h) rfl rfl (Sx.st_selT [false, true] h) (fun w_ hS => Sx.ov_bin _ rfl rfl (Sx.binR_add (r := ((((lensOf ((((s).extract 0 ((a : Int).toNat)) ++ (t)) ++ ((s).extract ((a : Int).toNat) ((s).size)))).length : Int)) - (((lensOf s).length : Int))) + 1) (Sx.w64 (by first | omega | (simp only [size_app]; omega))))) ?_
        refine Sx.wa_take 8 rfl (by kernel_rfl) (by kernel_rfl) (by kernel_rfl) (fun _ _ _ h => h) rfl rfl (Sx.st_selT [false, true] h) (fun w_ hS => Sx.ov_fieldAddr _ ⟨b6, 2, none⟩ _ rfl fo41_2 rfl) ?_
        refine Sx.wa_one 9 rfl (by kernel_rfl) ?_
        refine Sx.wl_storeb 0 _ [.int .i64 (((nlc s (a : Int).toNat) : Int)), .int .i64 (1), .int .i64 (((((lensOf ((((s).extract 0 ((a : Int).toNat)) ++ (t)) ++ ((s).extract ((a : Int).toNat) ((s).size)))).length : Int)) - (((lensOf s).length : Int))) + 1)] h rfl rfl rfl rfl rfl rfl sh3 rfl rfl (fun _ h => ?_)
        refine Sx.wl_nil ?_
        refine Sx.qn_wa (Sx.st_selT [false, true] h) ?_
        refine Sx.wa_done (by kernel_rfl) ?_
        refine Sx.qn_then ?_
        refine Sx.wc_seq ?_
        refine Sx.wc_draw (fun w => Sx.St w0 F0 ([Sx.blk b6 [.int .i64 (((nlc s (a : Int).toNat) : Int)), .int .i64 (1), .int .i64 (((((lensOf ((((s).extract 0 ((a : Int).toNat)) ++ (t)) ++ ((s).extract ((a : Int).toNat) ((s).size)))).length : Int)) - (((lensOf s).length : Int))) + 1)] 41] ++ R) w) (by kernel_rfl) ?_
        replace h := Sx.st_drew h
        refine Sx.wa_take 0 rfl (by kernel_rfl) (by kernel_rfl) (by kernel_rfl) (fun _ _ _ h => h) rfl rfl (Sx.st_selT [true, false] h) (fun w_ hS => Sx.ov_move _ rfl) ?_
        refine Sx.wa_take 1 rfl (by kernel_rfl) (by kernel_rfl) (by kernel_rfl) (fun _ _ _ h => h) rfl rfl (Sx.st_selT [true, false] h) (fun w_ hS => Sx.ov_loadbN 0 [.int .i64 (((nlc s (a : Int).toNat) : Int)), .int .i64 (1), .int .i64 (((((lensOf ((((s).extract 0 ((a : Int).toNat)) ++ (t)) ++ ((s).extract ((a : Int).toNat) ((s).size)))).length : Int)) - (((lensOf s).length : Int))) + 1)] hS rfl rfl sh41 rfl) ?_
        refine Sx.wa_take 2 rfl (by kernel_rfl) (by kernel_rfl) (by kernel_rfl) (fun _ _ _ h => h) rfl rfl (Sx.st_selT [true, false] h) (fun w_ hS => Sx.ov_assign _ rfl) ?_
        refine Sx.wa_one 3 rfl (by kernel_rfl) ?_
        refine Sx.wl_storebN 1 [.int .i64 (((nlc s (a : Int).toNat) : Int)), .int .i64 (1), .int .i64 (((((lensOf ((((s).extract 0 ((a : Int).toNat)) ++ (t)) ++ ((s).extract ((a : Int).toNat) ((s).size)))).length : Int)) - (((lensOf s).length : Int))) + 1)] [.int .i64 (((nlc s (a : Int).toNat) : Int)), .int .i64 (1), .int .i64 (((((lensOf ((((s).extract 0 ((a : Int).toNat)) ++ (t)) ++ ((s).extract ((a : Int).toNat) ((s).size)))).length : Int)) - (((lensOf s).length : Int))) + 1)] h rfl rfl rfl rfl (by simp [Value.oneCell']) sh41 rfl rfl (fun _ h => ?_)
        refine Sx.wl_nil ?_
        refine Sx.qn_wa (Sx.st_selT [true, false] h) ?_
        refine Sx.wa_take 4 rfl (by kernel_rfl) (by kernel_rfl) (by kernel_rfl) (fun _ _ _ h => h) rfl rfl (Sx.st_selT [true, false] h) (fun w_ hS => Sx.ov_assign _ rfl) ?_
        refine Sx.wa_done (by kernel_rfl) ?_
        refine Sx.qn_then ?_
        refine Sx.wc_ret ?_
        have hend_ := h
        replace h := Sx.st_selT [false, false] h
        refine Sx.qn_ret [_, _, _] ⟨rfl, ⟨_, rfl, Sx.loadVarN (vs := [.int .i64 (((nlc s (a : Int).toNat) : Int)), .int .i64 (1), .int .i64 (((((lensOf ((((s).extract 0 ((a : Int).toNat)) ++ (t)) ++ ((s).extract ((a : Int).toNat) ((s).size)))).length : Int)) - (((lensOf s).length : Int))) + 1)]) sh41 (Sx.blk_cells (cells := [.int .i64 (((nlc s (a : Int).toNat) : Int)), .int .i64 (1), .int .i64 (((((lensOf ((((s).extract 0 ((a : Int).toNat)) ++ (t)) ++ ((s).extract ((a : Int).toNat) ((s).size)))).length : Int)) - (((lensOf s).length : Int))) + 1)]) hend_ (i := 1) rfl 0 _ rfl)⟩, rfl, trivial⟩ ?_
        refine ⟨iv_eq hiv.1.symm ?_ ?_ ?_ hiv.2.1.symm, h⟩ <;> (rcases hiv.2.2.2 with h4_ | h4_ | h4_ <;> first | omega | (exfalso; omega) | (exact absurd h4_.2.1 (by assumption)))
      ·
       exact absurd c7 c8
     ·
      refine Sx.wl_v rfl rfl (Sx.ov_move _ rfl) ?_
      refine Sx.wl_call _ rfl rfl rfl ent14 (rOpen_calls (R := [Sx.blk b6 [.int .i64 (((lensOf s).length : Int)), .int .i64 (0), .int .i64 (0)] 41, Sx.blk b1 [.int .i64 (0), .int .i64 (0), .int .i64 (0)] 41] ++ R) s (by omega) h) ?_
      rintro e_ w_ ⟨rfl, h⟩
      refine ⟨_, rfl, ?_⟩
      refine Sx.wl_v rfl rfl (Sx.ov_pick_false _ rfl rfl) ?_
      refine Sx.wl_nil ?_
      refine Sx.qn_then ?_
      refine Sx.wc_cond (by rfl) (fun c9 => ?_) (fun c9 => ?_)
      ·
       refine Sx.wc_seq ?_
       refine Sx.wc_region ?_
       refine Sx.wl_v rfl rfl (Sx.ov_fieldAddr _ ⟨b6, 1, none⟩ _ rfl fo41_1 rfl) ?_
       refine Sx.wl_storeb 0 _ [.int .i64 (((lensOf s).length : Int)), .int .i64 (1), .int .i64 (0)] h rfl rfl rfl rfl rfl rfl sh3 rfl rfl (fun _ h => ?_)
       refine Sx.wl_nil ?_
       refine Sx.qn_then ?_
       refine Sx.wc_seq ?_
       refine Sx.wc_region ?_
       refine Sx.wl_v rfl rfl (Sx.ov_move _ rfl) ?_
       refine Sx.wl_call _ rfl rfl rfl ent18 (rCount_calls (R := [Sx.blk b6 [.int .i64 (((lensOf s).length : Int)), .int .i64 (1), .int .i64 (0)] 41, Sx.blk b1 [.int .i64 (0), .int .i64 (0), .int .i64 (0)] 41] ++ R) s (by first | omega | (simp only [size_app]; omega)) h) ?_
       rintro e_ w_ ⟨rfl, h⟩
       refine ⟨_, rfl, ?_⟩
       refine Sx.wl_v rfl rfl (Sx.ov_bin _ rfl rfl (Sx.binR_sub (r := (((lensOf s).length : Int)) - 1) (Sx.w64 (by first | omega | (simp only [size_app]; omega))))) ?_
       refine Sx.wl_v rfl rfl (Sx.ov_fieldAddr _ ⟨b6, 0, none⟩ _ rfl fo41_0 rfl) ?_
       refine Sx.wl_storeb 0 _ [.int .i64 ((((lensOf s).length : Int)) - 1), .int .i64 (1), .int .i64 (0)] h rfl rfl rfl rfl rfl rfl sh3 rfl rfl (fun _ h => ?_)
       refine Sx.wl_nil ?_
       refine Sx.qn_then ?_
       refine Sx.wc_seq ?_
       refine Sx.wc_region ?_
       refine Sx.wl_v rfl rfl (Sx.ov_move _ rfl) ?_
       refine Sx.wl_v rfl rfl (Sx.ov_move _ rfl) ?_
       refine Sx.wl_v rfl rfl (Sx.ov_lens _ rfl Try.underlying9) ?_
       refine Sx.wl_v rfl rfl (Sx.ov_bin _ rfl rfl (Sx.binR_lss)) ?_
       refine Sx.wl_nil ?_
       refine Sx.qn_then ?_
       refine Sx.wc_cond (by rfl) (fun c10 => ?_) (fun c10 => ?_)
       ·
        exact absurd c10 c7
       ·
        refine Sx.wc_skip ?_
        refine Sx.qn_then ?_
        refine Sx.wc_seq ?_
        refine Sx.wc_draw (fun w => Sx.St w0 F0 ([Sx.blk b1 [.int .i64 (0), .int .i64 (0), .int .i64 (0)] 41] ++ R) w) (by kernel_rfl) ?_
        replace h := Sx.st_drew h
        refine Sx.wa_take 0 rfl (by kernel_rfl) (by kernel_rfl) (by kernel_rfl) (fun _ _ _ h => h) rfl rfl (Sx.st_selT [false, true] h) (fun w_ hS => Sx.ov_move _ rfl) ?_
        refine Sx.wa_take 2 rfl (by kernel_rfl) (by kernel_rfl) (by kernel_rfl) (fun _ _ _ h => h) rfl rfl (Sx.st_selT [false, true] h) (fun w_ hS => Sx.ov_move _ rfl) ?_
        refine Sx.wa_take 5 rfl (by kernel_rfl) (by kernel_rfl) (by kernel_rfl) (fun _ _ _ h => h) rfl rfl (Sx.st_selT [false, true] h) (fun w_ hS => Sx.ov_fieldAddr _ ⟨b6, 1, none⟩ _ rfl fo41_1 rfl) ?_
        refine Sx.wa_two 1 6 rfl rfl (by kernel_rfl) ?_ ?_
        ·
         refine Sx.wl_call _ rfl rfl rfl ent18 (rCount_calls (R := [Sx.blk b6 [.int .i64 ((((lensOf s).length : Int)) - 1), .int .i64 (1), .int .i64 (0)] 41, Sx.blk b1 [.int .i64 (0), .int .i64 (0), .int .i64 (0)] 41] ++ R) ((((s).extract 0 ((a : Int).toNat)) ++ (t)) ++ ((s).extract ((a : Int).toNat) ((s).size))) (by first | omega | (simp only [size_app]; omega)) h) ?_
         rintro e_ w_ ⟨rfl, h⟩
         refine ⟨_, rfl, ?_⟩
         refine Sx.wl_nil ?_
         refine Sx.qn_wa (Sx.st_selT [false, true] h) ?_
         refine Sx.wa_two 3 6 rfl rfl (by kernel_rfl) ?_ ?_
         ·
          refine Sx.wl_call _ rfl rfl rfl ent18 (rCount_calls (R := [Sx.blk b6 [.int .i64 ((((lensOf s).length : Int)) - 1), .int .i64 (1), .int .i64 (0)] 41, Sx.blk b1 [.int .i64 (0), .int .i64 (0), .int .i64 (0)] 41] ++ R) s (by first | omega | (simp only [size_app]; omega)) h) ?_
          rintro e_ w_ ⟨rfl, h⟩
          refine ⟨_, rfl, ?_⟩
          refine Sx.wl_nil ?_
          refine Sx.qn_wa (Sx.st_selT [false, true] h) ?_
          refine Sx.wa_take 4 rfl (by kernel_rfl) (by kernel_rfl) (by kernel_rfl) (fun _ _ _ h => h) rfl rfl (Sx.st_selT [false, true] h) (fun w_ hS => Sx.ov_bin _ rfl rfl (Sx.binR_sub (r := (((lensOf ((((s).extract 0 ((a : Int).toNat)) ++ (t)) ++ ((s).extract ((a : Int).toNat) ((s).size)))).length : Int)) - (((lensOf s).length : Int))) (Sx.w64 (by first | omega | (simp only [size_app]; omega))))) ?_
          refine Sx.wa_one 6 rfl (by kernel_rfl) ?_
          refine Sx.wl_v rfl rfl (Sx.ov_loadb 0 _ h rfl rfl sh3 rfl) ?_
          refine Sx.wl_nil ?_
          refine Sx.qn_wa (Sx.st_selT [false, true] h) ?_
          refine Sx.wa_take 7 rfl (by kernel_rfl) (by kernel_rfl) (by kernel_rfl) (fun _ _ _ h => h) rfl rfl (Sx.st_selT [false, true] h) (fun w_ hS => Sx.ov_bin _ rfl rfl (Sx.binR_add (r := ((((lensOf ((((s).extract 0 ((a : Int).toNat)) ++ (t)) ++ ((s).extract ((a : Int).toNat) ((s).size)))).length : Int)) - (((lensOf s).length : Int))) + 1) (Sx.w64 (by first | omega | (simp only [size_app]; omega))))) ?_
          refine Sx.wa_take 8 rfl (by kernel_rfl) (by kernel_rfl) (by kernel_rfl) (fun _ _ _ h => h) rfl rfl (Sx.st_selT [false, true] h) (fun w_ hS => Sx.ov_fieldAddr _ ⟨b6, 2, none⟩ _ rfl fo41_2 rfl) ?_
          refine Sx.wa_one 9 rfl (by kernel_rfl) ?_
          refine Sx.wl_storeb 0 _ [.int .i64 ((((lensOf s).length : Int)) - 1), .int .i64 (1), .int .i64 (((((lensOf ((((s).extract 0 ((a : Int).toNat)) ++ (t)) ++ ((s).extract ((a : Int).toNat) ((s).size)))).length : Int)) - (((lensOf s).length : Int))) + 1)] h rfl rfl rfl rfl rfl rfl sh3 rfl rfl (fun _ h => ?_)
          refine Sx.wl_nil ?_
          refine Sx.qn_wa (Sx.st_selT [false, true] h) ?_
          refine Sx.wa_done (by kernel_rfl) ?_
          refine Sx.qn_then ?_
          refine Sx.wc_seq ?_
          refine Sx.wc_draw (fun w => Sx.St w0 F0 ([Sx.blk b6 [.int .i64 ((((lensOf s).length : Int)) - 1), .int .i64 (1), .int .i64 (((((lensOf ((((s).extract 0 ((a : Int).toNat)) ++ (t)) ++ ((s).extract ((a : Int).toNat) ((s).size)))).length : Int)) - (((lensOf s).length : Int))) + 1)] 41] ++ R) w) (by kernel_rfl) ?_
          replace h := Sx.st_drew h
          refine Sx.wa_take 0 rfl (by kernel_rfl) (by kernel_rfl) (by kernel_rfl) (fun _ _ _ h => h) rfl rfl (Sx.st_selT [true, false] h) (fun w_ hS => Sx.ov_move _ rfl) ?_
          refine Sx.wa_take 1 rfl (by kernel_rfl) (by kernel_rfl) (by kernel_rfl) (fun _ _ _ h => h) rfl rfl (Sx.st_selT [true, false] h) (fun w_ hS => Sx.ov_loadbN 0 [.int .i64 ((((lensOf s).length : Int)) - 1), .int .i64 (1), .int .i64 (((((lensOf ((((s).extract 0 ((a : Int).toNat)) ++ (t)) ++ ((s).extract ((a : Int).toNat) ((s).size)))).length : Int)) - (((lensOf s).length : Int))) + 1)] hS rfl rfl sh41 rfl) ?_
          refine Sx.wa_take 2 rfl (by kernel_rfl) (by kernel_rfl) (by kernel_rfl) (fun _ _ _ h => h) rfl rfl (Sx.st_selT [true, false] h) (fun w_ hS => Sx.ov_assign _ rfl) ?_
          refine Sx.wa_one 3 rfl (by kernel_rfl) ?_
          refine Sx.wl_storebN 1 [.int .i64 ((((lensOf s).length : Int)) - 1), .int .i64 (1), .int .i64 (((((lensOf ((((s).extract 0 ((a : Int).toNat)) ++ (t)) ++ ((s).extract ((a : Int).toNat) ((s).size)))).length : Int)) - (((lensOf s).length : Int))) + 1)] [.int .i64 ((((lensOf s).length : Int)) - 1), .int .i64 (1), .int .i64 (((((lensOf ((((s).extract 0 ((a : Int).toNat)) ++ (t)) ++ ((s).extract ((a : Int).toNat) ((s).size)))).length : Int)) - (((lensOf s).length : Int))) + 1)] h rfl rfl rfl rfl (by simp [Value.oneCell']) sh41 rfl rfl (fun _ h => ?_)
          refine Sx.wl_nil ?_
          refine Sx.qn_wa (Sx.st_selT [true, false] h) ?_
          refine Sx.wa_take 4 rfl (by kernel_rfl) (by kernel_rfl) (by kernel_rfl) (fun _ _ _ h => h) rfl rfl (Sx.st_selT [true, false] h) (fun w_ hS => Sx.ov_assign _ rfl) ?_
          refine Sx.wa_done (by kernel_rfl) ?_
          refine Sx.qn_then ?_
          refine Sx.wc_ret ?_
          have hend_ := h
          replace h := Sx.st_selT [false, false] h
          refine Sx.qn_ret [_, _, _] ⟨rfl, ⟨_, rfl, Sx.loadVarN (vs := [.int .i64 ((((lensOf s).length : Int)) - 1), .int .i64 (1), .int .i64 (((((lensOf ((((s).extract 0 ((a : Int).toNat)) ++ (t)) ++ ((s).extract ((a : Int).toNat) ((s).size)))).length : Int)) - (((lensOf s).length : Int))) + 1)]) sh41 (Sx.blk_cells (cells := [.int .i64 ((((lensOf s).length : Int)) - 1), .int .i64 (1), .int .i64 (((((lensOf ((((s).extract 0 ((a : Int).toNat)) ++ (t)) ++ ((s).extract ((a : Int).toNat) ((s).size)))).length : Int)) - (((lensOf s).length : Int))) + 1)]) hend_ (i := 1) rfl 0 _ rfl)⟩, rfl, trivial⟩ ?_
          refine ⟨iv_eq hiv.1.symm ?_ ?_ ?_ hiv.2.1.symm, h⟩ <;> (rcases hiv.2.2.2 with h4_ | h4_ | h4_ <;> first | omega | (exfalso; omega) | (exact absurd h4_.2.1 (by assumption)))
         ·
          refine Sx.wl_v rfl rfl (Sx.ov_loadb 0 _ h rfl rfl sh3 rfl) ?_
          refine Sx.wl_nil ?_
          refine Sx.qn_wa (Sx.st_selT [false, true] h) ?_
          refine Sx.wa_one 3 rfl (by kernel_rfl) ?_
          refine Sx.wl_call _ rfl rfl rfl ent18 (rCount_calls (R := [Sx.blk b6 [.int .i64 ((((lensOf s).length : Int)) - 1), .int .i64 (1), .int .i64 (0)] 41, Sx.blk b1 [.int .i64 (0), .int .i64 (0), .int .i64 (0)] 41] ++ R) s (by first | omega | (simp only [size_app]; omega)) h) ?_
          rintro e_ w_ ⟨rfl, h⟩
          refine ⟨_, rfl, ?_⟩
          refine Sx.wl_nil ?_
          refine Sx.qn_wa (Sx.st_selT [false, true] h) ?_
          refine Sx.wa_take 4 rfl (by kernel_rfl) (by kernel_rfl) (by kernel_rfl) (fun _ _ _ h => h) rfl rfl (Sx.st_selT [false, true] h) (fun w_ hS => Sx.ov_bin _ rfl rfl (Sx.binR_sub (r := (((lensOf ((((s).extract 0 ((a : Int).toNat)) ++ (t)) ++ ((s).extract ((a : Int).toNat) ((s).size)))).length : Int)) - (((lensOf s).length : Int))) (Sx.w64 (by first | omega | (simp only [size_app]; omega))))) ?_
          refine Sx.wa_take 7 rfl (by kernel_rfl) (by kernel_rfl) (by kernel_rfl) (fun _ _ _ h => h) rfl rfl (Sx.st_selT [false, true] h) (fun w_ hS => Sx.ov_bin _ rfl rfl (Sx.binR_add (r := ((((lensOf ((((s).extract 0 ((a : Int).toNat)) ++ (t)) ++ ((s).extract ((a : Int).toNat) ((s).size)))).length : Int)) - (((lensOf s).length : Int))) + 1) (Sx.w64 (by first | omega | (simp only [size_app]; omega))))) ?_
          refine Sx.wa_take 8 rfl (by kernel_rfl) (by kernel_rfl) (by kernel_rfl) (fun _ _ _ h => h) rfl rfl (Sx.st_selT [false, true] h) (fun w_ hS => Sx.ov_fieldAddr _ ⟨b6, 2, none⟩ _ rfl fo41_2 rfl) ?_
          refine Sx.wa_one 9 rfl (by kernel_rfl) ?_
          refine Sx.wl_storeb 0 _ [.int .i64 ((((lensOf s).length : Int)) - 1), .int .i64 (1), .int .i64 (((((lensOf ((((s).extract 0 ((a : Int).toNat)) ++ (t)) ++ ((s).extract ((a : Int).toNat) ((s).size)))).length : Int)) - (((lensOf s).length : Int))) + 1)] h rfl rfl rfl rfl rfl rfl sh3 rfl rfl (fun _ h => ?_)
          refine Sx.wl_nil ?_
          refine Sx.qn_wa (Sx.st_selT [false, true] h) ?_
          refine Sx.wa_done (by kernel_rfl) ?_
          refine Sx.qn_then ?_
          refine Sx.wc_seq ?_
          refine Sx.wc_draw (fun w => Sx.St w0 F0 ([Sx.blk b6 [.int .i64 ((((lensOf s).length : Int)) - 1), .int .i64 (1), .int .i64 (((((lensOf ((((s).extract 0 ((a : Int).toNat)) ++ (t)) ++ ((s).extract ((a : Int).toNat) ((s).size)))).length : Int)) - (((lensOf s).length : Int))) + 1)] 41] ++ R) w) (by kernel_rfl) ?_
          replace h := Sx.st_drew h
          refine Sx.wa_take 0 rfl (by kernel_rfl) (by kernel_rfl) (by kernel_rfl) (fun _ _ _ h => h) rfl rfl (Sx.st_selT [true, false] h) (fun w_ hS => Sx.ov_move _ rfl) ?_
          refine Sx.wa_take 1 rfl (by kernel_rfl) (by kernel_rfl) (by kernel_rfl) (fun _ _ _ h => h) rfl rfl (Sx.st_selT [true, false] h) (fun w_ hS => Sx.ov_loadbN 0 [.int .i64 ((((lensOf s).length : Int)) - 1), .int .i64 (1), .int .i64 (((((lensOf ((((s).extract 0 ((a : Int).toNat)) ++ (t)) ++ ((s).extract ((a : Int).toNat) ((s).size)))).length : Int)) - (((lensOf s).length : Int))) + 1)] hS rfl rfl sh41 rfl) ?_
          refine Sx.wa_take 2 rfl (by kernel_rfl) (by kernel_rfl) (by kernel_rfl) (fun _ _ _ h => h) rfl rfl (Sx.st_selT [true, false] h) (fun w_ hS => Sx.ov_assign _ rfl) ?_
          refine Sx.wa_one 3 rfl (by kernel_rfl) ?_
          refine Sx.wl_storebN 1 [.int .i64 ((((lensOf s).length : Int)) - 1), .int .i64 (1), .int .i64 (((((lensOf ((((s).extract 0 ((a : Int).toNat)) ++ (t)) ++ ((s).extract ((a : Int).toNat) ((s).size)))).length : Int)) - (((lensOf s).length : Int))) + 1)] [.int .i64 ((((lensOf s).length : Int)) - 1), .int .i64 (1), .int .i64 (((((lensOf ((((s).extract 0 ((a : Int).toNat)) ++ (t)) ++ ((s).extract ((a : Int).toNat) ((s).size)))).length : Int)) - (((lensOf s).length : Int))) + 1)] h rfl rfl rfl rfl (by simp [Value.oneCell']) sh41 rfl rfl (fun _ h => ?_)
          refine Sx.wl_nil ?_
          refine Sx.qn_wa (Sx.st_selT [true, false] h) ?_
          refine Sx.wa_take 4 rfl (by kernel_rfl) (by kernel_rfl) (by kernel_rfl) (fun _ _ _ h => h) rfl rfl (Sx.st_selT [true, false] h) (fun w_ hS => Sx.ov_assign _ rfl) ?_
          refine Sx.wa_done (by kernel_rfl) ?_
          refine Sx.qn_then ?_
          refine Sx.wc_ret ?_
          have hend_ := h
          replace h := Sx.st_selT [false, false] h
          refine Sx.qn_ret [_, _, _] ⟨rfl, ⟨_, rfl, Sx.loadVarN (vs := [.int .i64 ((((lensOf s).length : Int)) - 1), .int .i64 (1), .int .i64 (((((lensOf ((((s).extract 0 ((a : Int).toNat)) ++ (t)) ++ ((s).extract ((a : Int).toNat) ((s).size)))).length : Int)) - (((lensOf s).length : Int))) + 1)]) sh41 (Sx.blk_cells (cells := [.int .i64 ((((lensOf s).length : Int)) - 1), .int .i64 (1), .int .i64 (((((lensOf ((((s).extract 0 ((a : Int).toNat)) ++ (t)) ++ ((s).extract ((a : Int).toNat) ((s).size)))).length : Int)) - (((lensOf s).length : Int))) + 1)]) hend_ (i := 1) rfl 0 _ rfl)⟩, rfl, trivial⟩ ?_
          refine ⟨iv_eq hiv.1.symm ?_ ?_ ?_ hiv.2.1.symm, h⟩ <;> (rcases hiv.2.2.2 with h4_ | h4_ | h4_ <;> first | omega | (exfalso; omega) | (exact absurd h4_.2.1 (by assumption)))
        ·
         refine Sx.wl_v rfl rfl (Sx.ov_loadb 0 _ h rfl rfl sh3 rfl) ?_
         refine Sx.wl_nil ?_
         refine Sx.qn_wa (Sx.st_selT [false, true] h) ?_
         refine Sx.wa_one 1 rfl (by kernel_rfl) ?_
         refine Sx.wl_call _ rfl rfl rfl ent18 (rCount_calls (R := [Sx.blk b6 [.int .i64 ((((lensOf s).length : Int)) - 1), .int .i64 (1), .int .i64 (0)] 41, Sx.blk b1 [.int .i64 (0), .int .i64 (0), .int .i64 (0)] 41] ++ R) ((((s).extract 0 ((a : Int).toNat)) ++ (t)) ++ ((s).extract ((a : Int).toNat) ((s).size))) (by first | omega | (simp only [size_app]; omega)) h) ?_
         rintro e_ w_ ⟨rfl, h⟩
         refine ⟨_, rfl, ?_⟩
         refine Sx.wl_nil ?_
         refine Sx.qn_wa (Sx.st_selT [false, true] h) ?_
         refine Sx.wa_one 3 rfl (by kernel_rfl) ?_
         refine Sx.wl_call _ rfl rfl rfl ent18 (rCount_calls (R := [Sx.blk b6 [.int .i64 ((((lensOf s).length : Int)) - 1), .int .i64 (1), .int .i64 (0)] 41, Sx.blk b1 [.int .i64 (0), .int .i64 (0), .int .i64 (0)] 41] ++ R) s (by first | omega | (simp only [size_app]; omega)) h) ?_
         rintro e_ w_ ⟨rfl, h⟩
         refine ⟨_, rfl, ?_⟩
         refine Sx.wl_nil ?_
         refine Sx.qn_wa (Sx.st_selT [false, true] h) ?_
         refine Sx.wa_take 4 rfl (by kernel_rfl) (by kernel_rfl) (by kernel_rfl) (fun _ _ _ h => h) rfl rfl (Sx.st_selT [false, true] h) (fun w_ hS => Sx.ov_bin _ rfl rfl (Sx.binR_sub (r := (((lensOf ((((s).extract 0 ((a : Int).toNat)) ++ (t)) ++ ((s).extract ((a : Int).toNat) ((s).size)))).length : Int)) - (((lensOf s).length : Int))) (Sx.w64 (by first | omega | (simp only [size_app]; omega))))) ?_
         refine Sx.wa_take 7 rfl (by kernel_rfl) (by kernel_rfl) (by kernel_rfl) (fun _ _ _ h => h) rfl rfl (Sx.st_selT [false, true] h) (fun w_ hS => Sx.ov_bin _ rfl rfl (Sx.binR_add (r := ((((lensOf ((((s).extract 0 ((a : Int).toNat)) ++ (t)) ++ ((s).extract ((a : Int).toNat) ((s).size)))).length : Int)) - (((lensOf s).length : Int))) + 1) (Sx.w64 (by first | omega | (simp only [size_app]; omega))))) ?_
         refine Sx.wa_take 8 rfl (by kernel_rfl) (by kernel_rfl) (by kernel_rfl) (fun _ _ _ h => h) rfl rfl (Sx.st_selT [false, true] h) (fun w_ hS => Sx.ov_fieldAddr _ ⟨b6, 2, none⟩ _ rfl fo41_2 rfl) ?_
         refine Sx.wa_one 9 rfl (by kernel_rfl) ?_
         refine Sx.wl_storeb 0 _ [.int .i64 ((((lensOf s).length : Int)) - 1), .int .i64 (1), .int .i64 (((((lensOf ((((s).extract 0 ((a : Int).toNat)) ++ (t)) ++ ((s).extract ((a : Int).toNat) ((s).size)))).length : Int)) - (((lensOf s).length : Int))) + 1)] h rfl rfl rfl rfl rfl rfl sh3 rfl rfl (fun _ h => ?_)
         refine Sx.wl_nil ?_
         refine Sx.qn_wa (Sx.st_selT [false, true] h) ?_
         refine Sx.wa_done (by kernel_rfl) ?_
         refine Sx.qn_then ?_
         refine Sx.wc_seq ?_
         refine Sx.wc_draw (fun w => Sx.St w0 F0 ([Sx.blk b6 [.int .i64 ((((lensOf s).length : Int)) - 1), .int .i64 (1), .int .i64 (((((lensOf ((((s).extract 0 ((a : Int).toNat)) ++ (t)) ++ ((s).extract ((a : Int).toNat) ((s).size)))).length : Int)) - (((lensOf s).length : Int))) + 1)] 41] ++ R) w) (by kernel_rfl) ?_
         replace h := Sx.st_drew h
         refine Sx.wa_take 0 rfl (by kernel_rfl) (by kernel_rfl) (by kernel_rfl) (fun _ _ _ h => h) rfl rfl (Sx.st_selT [true, false] h) (fun w_ hS => Sx.ov_move _ rfl) ?_
         refine Sx.wa_take 1 rfl (by kernel_rfl) (by kernel_rfl) (by kernel_rfl) (fun _ _ _ h => h) rfl rfl (Sx.st_selT [true, false] h) (fun w_ hS => Sx.ov_loadbN 0 [.int .i64 ((((lensOf s).length : Int)) - 1), .int .i64 (1), .int .i64 (((((lensOf ((((s).extract 0 ((a : Int).toNat)) ++ (t)) ++ ((s).extract ((a : Int).toNat) ((s).size)))).length : Int)) - (((lensOf s).length : Int))) + 1)] hS rfl rfl sh41 rfl) ?_
         refine Sx.wa_take 2 rfl (by kernel_rfl) (by kernel_rfl) (by kernel_rfl) (fun _ _ _ h => h) rfl rfl (Sx.st_selT [true, false] h) (fun w_ hS => Sx.ov_assign _ rfl) ?_
         refine Sx.wa_one 3 rfl (by kernel_rfl) ?_
         refine Sx.wl_storebN 1 [.int .i64 ((((lensOf s).length : Int)) - 1), .int .i64 (1), .int .i64 (((((lensOf ((((s).extract 0 ((a : Int).toNat)) ++ (t)) ++ ((s).extract ((a : Int).toNat) ((s).size)))).length : Int)) - (((lensOf s).length : Int))) + 1)] [.int .i64 ((((lensOf s).length : Int)) - 1), .int .i64 (1), .int .i64 (((((lensOf ((((s).extract 0 ((a : Int).toNat)) ++ (t)) ++ ((s).extract ((a : Int).toNat) ((s).size)))).length : Int)) - (((lensOf s).length : Int))) + 1)] h rfl rfl rfl rfl (by simp [Value.oneCell']) sh41 rfl rfl (fun _ h => ?_)
         refine Sx.wl_nil ?_
         refine Sx.qn_wa (Sx.st_selT [true, false] h) ?_
         refine Sx.wa_take 4 rfl (by kernel_rfl) (by kernel_rfl) (by kernel_rfl) (fun _ _ _ h => h) rfl rfl (Sx.st_selT [true, false] h) (fun w_ hS => Sx.ov_assign _ rfl) ?_
         refine Sx.wa_done (by kernel_rfl) ?_
         refine Sx.qn_then ?_
         refine Sx.wc_ret ?_
         have hend_ := h
         replace h := Sx.st_selT [false, false] h
         refine Sx.qn_ret [_, _, _] ⟨rfl, ⟨_, rfl, Sx.loadVarN (vs := [.int .i64 ((((lensOf s).length : Int)) - 1), .int .i64 (1), .int .i64 (((((lensOf ((((s).extract 0 ((a : Int).toNat)) ++ (t)) ++ ((s).extract ((a : Int).toNat) ((s).size)))).length : Int)) - (((lensOf s).length : Int))) + 1)]) sh41 (Sx.blk_cells (cells := [.int .i64 ((((lensOf s).length : Int)) - 1), .int .i64 (1), .int .i64 (((((lensOf ((((s).extract 0 ((a : Int).toNat)) ++ (t)) ++ ((s).extract ((a : Int).toNat) ((s).size)))).length : Int)) - (((lensOf s).length : Int))) + 1)]) hend_ (i := 1) rfl 0 _ rfl)⟩, rfl, trivial⟩ ?_
         refine ⟨iv_eq hiv.1.symm ?_ ?_ ?_ hiv.2.1.symm, h⟩ <;> (rcases hiv.2.2.2 with h4_ | h4_ | h4_ <;> first | omega | (exfalso; omega) | (exact absurd h4_.2.1 (by assumption)))
      ·
       refine Sx.wc_skip ?_
       refine Sx.qn_then ?_
       refine Sx.wc_seq ?_
       refine Sx.wc_draw (fun w => Sx.St w0 F0 ([Sx.blk b1 [.int .i64 (0), .int .i64 (0), .int .i64 (0)] 41] ++ R) w) (by kernel_rfl) ?_
       replace h := Sx.st_drew h
       refine Sx.wa_take 0 rfl (by kernel_rfl) (by kernel_rfl) (by kernel_rfl) (fun _ _ _ h => h) rfl rfl (Sx.st_selT [false, true] h) (fun w_ hS => Sx.ov_move _ rfl) ?_
       refine Sx.wa_take 2 rfl (by kernel_rfl) (by kernel_rfl) (by kernel_rfl) (fun _ _ _ h => h) rfl rfl (Sx.st_selT [false, true] h) (fun w_ hS => Sx.ov_move _ rfl) ?_
       refine Sx.wa_take 5 rfl (by kernel_rfl) (by kernel_rfl) (by kernel_rfl) (fun _ _ _ h => h) rfl rfl (Sx.st_selT [false, true] h) (fun w_ hS => Sx.ov_fieldAddr _ ⟨b6, 1, none⟩ _ rfl fo41_1 rfl) ?_
       refine Sx.wa_two 1 6 rfl rfl (by kernel_rfl) ?_ ?_
       ·
        refine Sx.wl_call _ rfl rfl rfl ent18 (rCount_calls (R := [Sx.blk b6 [.int .i64 (((lensOf s).length : Int)), .int .i64 (0), .int .i64 (0)] 41, Sx.blk b1 [.int .i64 (0), .int .i64 (0), .int .i64 (0)] 41] ++ R) ((((s).extract 0 ((a : Int).toNat)) ++ (t)) ++ ((s).extract ((a : Int).toNat) ((s).size))) (by first | omega | (simp only [size_app]; omega)) h) ?_
        rintro e_ w_ ⟨rfl, h⟩
        refine ⟨_, rfl, ?_⟩
        refine Sx.wl_nil ?_
        refine Sx.qn_wa (Sx.st_selT [false, true] h) ?_
        refine Sx.wa_two 3 6 rfl rfl (by kernel_rfl) ?_ ?_
        ·
         refine Sx.wl_call _ rfl rfl rfl ent18 (rCount_calls (R := [Sx.blk b6 [.int .i64 (((lensOf s).length : Int)), .int .i64 (0), .int .i64 (0)] 41, Sx.blk b1 [.int .i64 (0), .int .i64 (0), .int .i64 (0)] 41] ++ R) s (by first | omega | (simp only [size_app]; omega)) h) ?_
         rintro e_ w_ ⟨rfl, h⟩
         refine ⟨_, rfl, ?_⟩
         refine Sx.wl_nil ?_
         refine Sx.qn_wa (Sx.st_selT [false, true] h) ?_
         refine Sx.wa_take 4 rfl (by kernel_rfl) (by kernel_rfl) (by kernel_rfl) (fun _ _ _ h => h) rfl rfl (Sx.st_selT [false, true] h) (fun w_ hS => Sx.ov_bin _ rfl rfl (Sx.binR_sub (r := (((lensOf ((((s).extract 0 ((a : Int).toNat)) ++ (t)) ++ ((s).extract ((a : Int).toNat) ((s).size)))).length : Int)) - (((lensOf s).length : Int))) (Sx.w64 (by first | omega | (simp only [size_app]; omega))))) ?_
         refine Sx.wa_one 6 rfl (by kernel_rfl) ?_
         refine Sx.wl_v rfl rfl (Sx.ov_loadb 0 _ h rfl rfl sh3 rfl) ?_
         refine Sx.wl_nil ?_
         refine Sx.qn_wa (Sx.st_selT [false, true] h) ?_
         refine Sx.wa_take 7 rfl (by kernel_rfl) (by kernel_rfl) (by kernel_rfl) (fun _ _ _ h => h) rfl rfl (Sx.st_selT [false, true] h) (fun w_ hS => Sx.ov_bin _ rfl rfl (Sx.binR_add (r := ((((lensOf ((((s).extract 0 ((a : Int).toNat)) ++ (t)) ++ ((s).extract ((a : Int).toNat) ((s).size)))).length : Int)) - (((lensOf s).length : Int))) + 0) (Sx.w64 (by first | omega | (simp only [size_app]; omega))))) ?_
         refine Sx.wa_take 8 rfl (by kernel_rfl) (by kernel_rfl) (by kernel_rfl) (fun _ _ _ h => h) rfl rfl (Sx.st_selT [false, true] h) (fun w_ hS => Sx.ov_fieldAddr _ ⟨b6, 2, none⟩ _ rfl fo41_2 rfl) ?_
         refine Sx.wa_one 9 rfl (by kernel_rfl) ?_
         refine Sx.wl_storeb 0 _ [.int .i64 (((lensOf s).length : Int)), .int .i64 (0), .int .i64 (((((lensOf ((((s).extract 0 ((a : Int).toNat)) ++ (t)) ++ ((s).extract ((a : Int).toNat) ((s).size)))).length : Int)) - (((lensOf s).length : Int))) + 0)] h rfl rfl rfl rfl rfl rfl sh3 rfl rfl (fun _ h => ?_)
         refine Sx.wl_nil ?_
         refine Sx.qn_wa (Sx.st_selT [false, true] h) ?_
         refine Sx.wa_done (by kernel_rfl) ?_
         refine Sx.qn_then ?_
         refine Sx.wc_seq ?_
         refine Sx.wc_draw (fun w => Sx.St w0 F0 ([Sx.blk b6 [.int .i64 (((lensOf s).length : Int)), .int .i64 (0), .int .i64 (((((lensOf ((((s).extract 0 ((a : Int).toNat)) ++ (t)) ++ ((s).extract ((a : Int).toNat) ((s).size)))).length : Int)) - (((lensOf s).length : Int))) + 0)] 41] ++ R) w) (by kernel_rfl) ?_
         replace h := Sx.st_drew h
         refine Sx.wa_take 0 rfl (by kernel_rfl) (by kernel_rfl) (by kernel_rfl) (fun _ _ _ h => h) rfl rfl (Sx.st_selT [true, false] h) (fun w_ hS => Sx.ov_move _ rfl) ?_
         refine Sx.wa_take 1 rfl (by kernel_rfl) (by kernel_rfl) (by kernel_rfl) (fun _ _ _ h => h) rfl rfl (Sx.st_selT [true, false] h) (fun w_ hS => Sx.ov_loadbN 0 [.int .i64 (((lensOf s).length : Int)), .int .i64 (0), .int .i64 (((((lensOf ((((s).extract 0 ((a : Int).toNat)) ++ (t)) ++ ((s).extract ((a : Int).toNat) ((s).size)))).length : Int)) - (((lensOf s).length : Int))) + 0)] hS rfl rfl sh41 rfl) ?_
         refine Sx.wa_take 2 rfl (by kernel_rfl) (by kernel_rfl) (by kernel_rfl) (fun _ _ _ h => h) rfl rfl (Sx.st_selT [true, false] h) (fun w_ hS => Sx.ov_assign _ rfl) ?_
         refine Sx.wa_one 3 rfl (by kernel_rfl) ?_
         refine Sx.wl_storebN 1 [.int .i64 (((lensOf s).length : Int)), .int .i64 (0), .int .i64 (((((lensOf ((((s).extract 0 ((a : Int).toNat)) ++ (t)) ++ ((s).extract ((a : Int).toNat) ((s).size)))).length : Int)) - (((lensOf s).length : Int))) + 0)] [.int .i64 (((lensOf s).length : Int)), .int .i64 (0), .int .i64 (((((lensOf ((((s).extract 0 ((a : Int).toNat)) ++ (t)) ++ ((s).extract ((a : Int).toNat) ((s).size)))).length : Int)) - (((lensOf s).length : Int))) + 0)] h rfl rfl rfl rfl (by simp [Value.oneCell']) sh41 rfl rfl (fun _ h => ?_)
         refine Sx.wl_nil ?_
         refine Sx.qn_wa (Sx.st_selT [true, false] h) ?_
         refine Sx.wa_take 4 rfl (by kernel_rfl) (by kernel_rfl) (by kernel_rfl) (fun _ _ _ h => h) rfl rfl (Sx.st_selT [true, false] h) (fun w_ hS => Sx.ov_assign _ rfl) ?_
         refine Sx.wa_done (by kernel_rfl) ?_
         refine Sx.qn_then ?_
         refine Sx.wc_ret ?_
         have hend_ := h
         replace h := Sx.st_selT [false, false] h
         refine Sx.qn_ret [_, _, _] ⟨rfl, ⟨_, rfl, Sx.loadVarN (vs := [.int .i64 (((lensOf s).length : Int)), .int .i64 (0), .int .i64 (((((lensOf ((((s).extract 0 ((a : Int).toNat)) ++ (t)) ++ ((s).extract ((a : Int).toNat) ((s).size)))).length : Int)) - (((lensOf s).length : Int))) + 0)]) sh41 (Sx.blk_cells (cells := [.int .i64 (((lensOf s).length : Int)), .int .i64 (0), .int .i64 (((((lensOf ((((s).extract 0 ((a : Int).toNat)) ++ (t)) ++ ((s).extract ((a : Int).toNat) ((s).size)))).length : Int)) - (((lensOf s).length : Int))) + 0)]) hend_ (i := 1) rfl 0 _ rfl)⟩, rfl, trivial⟩ ?_
         refine ⟨iv_eq hiv.1.symm ?_ ?_ ?_ hiv.2.1.symm, h⟩ <;> (rcases hiv.2.2.2 with h4_ | h4_ | h4_ <;> first | omega | (exfalso; omega) | (exact absurd h4_.2.1 (by assumption)))
        ·
         refine Sx.wl_v rfl rfl (Sx.ov_loadb 0 _ h rfl rfl sh3 rfl) ?_
         refine Sx.wl_nil ?_
         refine Sx.qn_wa (Sx.st_selT [false, true] h) ?_
         refine Sx.wa_one 3 rfl (by kernel_rfl) ?_
         refine Sx.wl_call _ rfl rfl rfl ent18 (rCount_calls (R := [Sx.blk b6 [.int .i64 (((lensOf s).length : Int)), .int .i64 (0), .int .i64 (0)] 41, Sx.blk b1 [.int .i64 (0), .int .i64 (0), .int .i64 (0)] 41] ++ R) s (by first | omega | (simp only [size_app]; omega)) h) ?_
         rintro e_ w_ ⟨rfl, h⟩
         refine ⟨_, rfl, ?_⟩
         refine Sx.wl_nil ?_
         refine Sx.qn_wa (Sx.st_selT [false, true] h) ?_
         refine Sx.wa_take 4 rfl (by kernel_rfl) (by kernel_rfl) (by kernel_rfl) (fun _ _ _ h => h) rfl rfl (Sx.st_selT [false, true] h) (fun w_ hS => Sx.ov_bin _ rfl rfl (Sx.binR_sub (r := (((lensOf ((((s).extract 0 ((a : Int).toNat)) ++ (t)) ++ ((s).extract ((a : Int).toNat) ((s).size)))).length : Int)) - (((lensOf s).length : Int))) (Sx.w64 (by first | omega | (simp only [size_app]; omega))))) ?_
         refine Sx.wa_take 7 rfl (by kernel_rfl) (by kernel_rfl) (by kernel_rfl) (fun _ _ _ h => h) rfl rfl (Sx.st_selT [false, true] h) (fun w_ hS => Sx.ov_bin _ rfl rfl (Sx.binR_add (r := ((((lensOf ((((s).extract 0 ((a : Int).toNat)) ++ (t)) ++ ((s).extract ((a : Int).toNat) ((s).size)))).length : Int)) - (((lensOf s).length : Int))) + 0) (Sx.w64 (by first | omega | (simp only [size_app]; omega))))) ?_
         refine Sx.wa_take 8 rfl (by kernel_rfl) (by kernel_rfl) (by kernel_rfl) (fun _ _ _ h => h) rfl rfl (Sx.st_selT [false, true] h) (fun w_ hS => Sx.ov_fieldAddr _ ⟨b6, 2, none⟩ _ rfl fo41_2 rfl) ?_
         refine Sx.wa_one 9 rfl (by kernel_rfl) ?_
         refine Sx.wl_storeb 0 _ [.int .i64 (((lensOf s).length : Int)), .int .i64 (0), .int .i64 (((((lensOf ((((s).extract 0 ((a : Int).toNat)) ++ (t)) ++ ((s).extract ((a : Int).toNat) ((s).size)))).length : Int)) - (((lensOf s).length : Int))) + 0)] h rfl rfl rfl rfl rfl rfl sh3 rfl rfl (fun _ h => ?_)
         refine Sx.wl_nil ?_
         refine Sx.qn_wa (Sx.st_selT [false, true] h) ?_
         refine Sx.wa_done (by kernel_rfl) ?_
         refine Sx.qn_then ?_
         refine Sx.wc_seq ?_
         refine Sx.wc_draw (fun w => Sx.St w0 F0 ([Sx.blk b6 [.int .i64 (((lensOf s).length : Int)), .int .i64 (0), .int .i64 (((((lensOf ((((s).extract 0 ((a : Int).toNat)) ++ (t)) ++ ((s).extract ((a : Int).toNat) ((s).size)))).length : Int)) - (((lensOf s).length : Int))) + 0)] 41] ++ R) w) (by kernel_rfl) ?_
         replace h := Sx.st_drew h
         refine Sx.wa_take 0 rfl (by kernel_rfl) (by kernel_rfl) (by kernel_rfl) (fun _ _ _ h => h) rfl rfl (Sx.st_selT [true, false] h) (fun w_ hS => Sx.ov_move _ rfl) ?_
         refine Sx.wa_take 1 rfl (by kernel_rfl) (by kernel_rfl) (by kernel_rfl) (fun _ _ _ h => h) rfl rfl (Sx.st_selT [true, false] h) (fun w_ hS => Sx.ov_loadbN 0 [.int .i64 (((lensOf s).length : Int)), .int .i64 (0), .int .i64 (((((lensOf ((((s).extract 0 ((a : Int).toNat)) ++ (t)) ++ ((s).extract ((a : Int).toNat) ((s).size)))).length : Int)) - (((lensOf s).length : Int))) + 0)] hS rfl rfl sh41 rfl) ?_
         refine Sx.wa_take 2 rfl (by kernel_rfl) (by kernel_rfl) (by kernel_rfl) (fun _ _ _ h => h) rfl rfl (Sx.st_selT [true, false] h) (fun w_ hS => Sx.ov_assign _ rfl) ?_
         refine Sx.wa_one 3 rfl (by kernel_rfl) ?_
         refine Sx.wl_storebN 1 [.int .i64 (((lensOf s).length : Int)), .int .i64 (0), .int .i64 (((((lensOf ((((s).extract 0 ((a : Int).toNat)) ++ (t)) ++ ((s).extract ((a : Int).toNat) ((s).size)))).length : Int)) - (((lensOf s).length : Int))) + 0)] [.int .i64 (((lensOf s).length : Int)), .int .i64 (0), .int .i64 (((((lensOf ((((s).extract 0 ((a : Int).toNat)) ++ (t)) ++ ((s).extract ((a : Int).toNat) ((s).size)))).length : Int)) - (((lensOf s).length : Int))) + 0)] h rfl rfl rfl rfl (by simp [Value.oneCell']) sh41 rfl rfl (fun _ h => ?_)
         refine Sx.wl_nil ?_
         refine Sx.qn_wa (Sx.st_selT [true, false] h) ?_
         refine Sx.wa_take 4 rfl (by kernel_rfl) (by kernel_rfl) (by kernel_rfl) (fun _ _ _ h => h) rfl rfl (Sx.st_selT [true, false] h) (fun w_ hS => Sx.ov_assign _ rfl) ?_
         refine Sx.wa_done (by kernel_rfl) ?_
         refine Sx.qn_then ?_
         refine Sx.wc_ret ?_
         have hend_ := h
         replace h := Sx.st_selT [false, false] h
         refine Sx.qn_ret [_, _, _] ⟨rfl, ⟨_, rfl, Sx.loadVarN (vs := [.int .i64 (((lensOf s).length : Int)), .int .i64 (0), .int .i64 (((((lensOf ((((s).extract 0 ((a : Int).toNat)) ++ (t)) ++ ((s).extract ((a : Int).toNat) ((s).size)))).length : Int)) - (((lensOf s).length : Int))) + 0)]) sh41 (Sx.blk_cells (cells := [.int .i64 (((lensOf s).length : Int)), .int .i64 (0), .int .i64 (((((lensOf ((((s).extract 0 ((a : Int).toNat)) ++ (t)) ++ ((s).extract ((a : Int).toNat) ((s).size)))).length : Int)) - (((lensOf s).length : Int))) + 0)]) hend_ (i := 1) rfl 0 _ rfl)⟩, rfl, trivial⟩ ?_
         refine ⟨iv_eq hiv.1.symm ?_ ?_ ?_ hiv.2.1.symm, h⟩ <;> (rcases hiv.2.2.2 with h4_ | h4_ | h4_ <;> first | omega | (exfalso; omega) | (exact absurd h4_.2.1 (by assumption)))
       ·
        refine Sx.wl_v rfl rfl (Sx.ov_loadb 0 _ h rfl rfl sh3 rfl) ?_
        refine Sx.wl_nil ?_
        refine Sx.qn_wa (Sx.st_selT [false, true] h) ?_
        refine Sx.wa_one 1 rfl (by kernel_rfl) ?_
        refine Sx.wl_call _ rfl rfl rfl ent18 (rCount_calls (R := [Sx.blk b6 [.int .i64 (((lensOf s).length : Int)), .int .i64 (0), .int .i64 (0)] 41, Sx.blk b1 [.int .i64 (0), .int .i64 (0), .int .i64 (0)] 41] ++ R) ((((s).extract 0 ((a : Int).toNat)) ++ (t)) ++ ((s).extract ((a : Int).toNat) ((s).size))) (by first | omega | (simp only [size_app]; omega)) h) ?_
        rintro e_ w_ ⟨rfl, h⟩
        refine ⟨_, rfl, ?_⟩
        refine Sx.wl_nil ?_
        refine Sx.qn_wa (Sx.st_selT [false, true] h) ?_
        refine Sx.wa_one 3 rfl (by kernel_rfl) ?_
        refine Sx.wl_call _ rfl rfl rfl ent18 (rCount_calls (R := [Sx.blk b6 [.int .i64 (((lensOf s).length : Int)), .int .i64 (0), .int .i64 (0)] 41, Sx.blk b1 [.int .i64 (0), .int .i64 (0), .int .i64 (0)] 41] ++ R) s (by first | omega | (simp only [size_app]; omega)) h) ?_
        rintro e_ w_ ⟨rfl, h⟩
        refine ⟨_, rfl, ?_⟩
        refine Sx.wl_nil ?_
        refine Sx.qn_wa (Sx.st_selT [false, true] h) ?_
        refine Sx.wa_take 4 rfl (by kernel_rfl) (by kernel_rfl) (by kernel_rfl) (fun _ _ _ h => h) rfl rfl (Sx.st_selT [false, true] h) (fun w_ hS => Sx.ov_bin _ rfl rfl (Sx.binR_sub (r := (((lensOf ((((s).extract 0 ((a : Int).toNat)) ++ (t)) ++ ((s).extract ((a : Int).toNat) ((s).size)))).length : Int)) - (((lensOf s).length : Int))) (Sx.w64 (by first | omega | (simp only [size_app]; omega))))) ?_
        refine Sx.wa_take 7 rfl (by kernel_rfl) (by kernel_rfl) (by kernel_rfl) (fun _ _ _ h => h) rfl rfl (Sx.st_selT [false, true] h) (fun w_ hS => Sx.ov_bin _ rfl rfl (Sx.binR_add (r := ((((lensOf ((((s).extract 0 ((a : Int).toNat)) ++ (t)) ++ ((s).extract ((a : Int).toNat) ((s).size)))).length : Int)) - (((lensOf s).length : Int))) + 0) (Sx.w64 (by first | omega | (simp only [size_app]; omega))))) ?_
        refine Sx.wa_take 8 rfl (by kernel_rfl) (by kernel_rfl) (by kernel_rfl) (fun _ _ _ h => h) rfl rfl (Sx.st_selT [false, true] h) (fun w_ hS => Sx.ov_fieldAddr _ ⟨b6, 2, none⟩ _ rfl fo41_2 rfl) ?_
        refine Sx.wa_one 9 rfl (by kernel_rfl) ?_
        refine Sx.wl_storeb 0 _ [.int .i64 (((lensOf s).length : Int)), .int .i64 (0), .int .i64 (((((lensOf ((((s).extract 0 ((a : Int).toNat)) ++ (t)) ++ ((s).extract ((a : Int).toNat) ((s).size)))).length : Int)) - (((lensOf s).length : Int))) + 0)] h rfl rfl rfl rfl rfl rfl sh3 rfl rfl (fun _ h => ?_)
        refine Sx.wl_nil ?_
        refine Sx.qn_wa (Sx.st_selT [false, true] h) ?_
        refine Sx.wa_done (by kernel_rfl) ?_
        refine Sx.qn_then ?_
        refine Sx.wc_seq ?_
        refine Sx.wc_draw (fun w => Sx.St w0 F0 ([Sx.blk b6 [.int .i64 (((lensOf s).length : Int)), .int .i64 (0), .int .i64 (((((lensOf ((((s).extract 0 ((a : Int).toNat)) ++ (t)) ++ ((s).extract ((a : Int).toNat) ((s).size)))).length : Int)) - (((lensOf s).length : Int))) + 0)] 41] ++ R) w) (by kernel_rfl) ?_
        replace h := Sx.st_drew h
        refine Sx.wa_take 0 rfl (by kernel_rfl) (by kernel_rfl) (by kernel_rfl) (fun _ _ _ h => h) rfl rfl (Sx.st_selT [true, false] h) (fun w_ hS => Sx.ov_move _ rfl) ?_
        refine Sx.wa_take 1 rfl (by kernel_rfl) (by kernel_rfl) (by kernel_rfl) (fun _ _ _ h => h) rfl rfl (Sx.st_selT [true, false] h) (fun w_ hS => Sx.ov_loadbN 0 [.int .i64 (((lensOf s).length : Int)), .int .i64 (0), .int .i64 (((((lensOf ((((s).extract 0 ((a : Int).toNat)) ++ (t)) ++ ((s).extract ((a : Int).toNat) ((s).size)))).length : Int)) - (((lensOf s).length : Int))) + 0)] hS rfl rfl sh41 rfl) ?_
        refine Sx.wa_take 2 rfl (by kernel_rfl) (by kernel_rfl) (by kernel_rfl) (fun _ _ _ h => h) rfl rfl (Sx.st_selT [true, false] h) (fun w_ hS => Sx.ov_assign _ rfl) ?_
        refine Sx.wa_one 3 rfl (by kernel_rfl) ?_
        refine Sx.wl_storebN 1 [.int .i64 (((lensOf s).length : Int)), .int .i64 (0), .int .i64 (((((lensOf ((((s).extract 0 ((a : Int).toNat)) ++ (t)) ++ ((s).extract ((a : Int).toNat) ((s).size)))).length : Int)) - (((lensOf s).length : Int))) + 0)] [.int .i64 (((lensOf s).length : Int)), .int .i64 (0), .int .i64 (((((lensOf ((((s).extract 0 ((a : Int).toNat)) ++ (t)) ++ ((s).extract ((a : Int).toNat) ((s).size)))).length : Int)) - (((lensOf s).length : Int))) + 0)] h rfl rfl rfl rfl (by simp [Value.oneCell']) sh41 rfl rfl (fun _ h => ?_)
        refine Sx.wl_nil ?_
        refine Sx.qn_wa (Sx.st_selT [true, false] h) ?_
        refine Sx.wa_take 4 rfl (by kernel_rfl) (by kernel_rfl) (by kernel_rfl) (fun _ _ _ h => h) rfl rfl (Sx.st_selT [true, false] h) (fun w_ hS => Sx.ov_assign _ rfl) ?_
        refine Sx.wa_done (by kernel_rfl) ?_
        refine Sx.qn_then ?_
        refine Sx.wc_ret ?_
        have hend_ := h
        replace h := Sx.st_selT [false, false] h
        refine Sx.qn_ret [_, _, _] ⟨rfl, ⟨_, rfl, Sx.loadVarN (vs := [.int .i64 (((lensOf s).length : Int)), .int .i64 (0), .int .i64 (((((lensOf ((((s).extract 0 ((a : Int).toNat)) ++ (t)) ++ ((s).extract ((a : Int).toNat) ((s).size)))).length : Int)) - (((lensOf s).length : Int))) + 0)]) sh41 (Sx.blk_cells (cells := [.int .i64 (((lensOf s).length : Int)), .int .i64 (0), .int .i64 (((((lensOf ((((s).extract 0 ((a : Int).toNat)) ++ (t)) ++ ((s).extract ((a : Int).toNat) ((s).size)))).length : Int)) - (((lensOf s).length : Int))) + 0)]) hend_ (i := 1) rfl 0 _ rfl)⟩, rfl, trivial⟩ ?_
        refine ⟨iv_eq hiv.1.symm ?_ ?_ ?_ hiv.2.1.symm, h⟩ <;> (rcases hiv.2.2.2 with h4_ | h4_ | h4_ <;> first | omega | (exfalso; omega) | (exact absurd h4_.2.1 (by assumption)))

theorem last_byte {s : ByteArray} {a b : Int} (h0 : 0 ≤ a) (h1 : a < b) (h2 : b ≤ s.size) : Sx.byteAt s (b - 1).toNat = 10 ↔ lostI (ixOf s) a b = true := by
  obtain ⟨m⟩ := met h0 h1 h2
  have la := m.la
  have lb := m.lb
  rw [lost_iff m, byte_at]
  obtain ⟨c', z, hc⟩ : ∃ c' z, m.c = c' ++ [z] := ⟨m.c.dropLast, m.c.getLast m.hc, (List.dropLast_concat_getLast m.hc).symm⟩
  have hcl : (m.c.length : Int) = c'.length + 1 := by rw [hc]; simp
  have hz : (bs s).getD (b - 1).toNat 0 = z := by
    have e : bs s = (m.u ++ m.q1 ++ c') ++ (z :: (m.q2 ++ m.v)) := by rw [m.e, hc]; simp
    have e2 : (b - 1).toNat = (m.u ++ m.q1 ++ c').length := by simp; omega
    rw [e, e2, List.getD_eq_getElem?_getD, List.getElem?_append_right (Nat.le_refl _), Nat.sub_self]
    rfl
  rw [hz]
  constructor
  · intro hz10
    -- a line end within a paragraph is its end
    have hq2 : m.q2 = [] := by
      have hl := lensOf_ok s
      have hb : (cut s b.toNat).2 = b.toNat := by
        rw [cut_end]
        refine .inr ?_
        rw [byte_at, show b.toNat - 1 = (b - 1).toNat by omega, hz, hz10]
      have hp := lens_prefix s b.toNat (by omega)
      have hs := (cut_le s b.toNat).2.2.1
      rw [← hp, hb] at hs
      have hB := findP_spec (l := lensOf s) (a := b - 1) (by omega) (by omega) hl.2.2
      have le := m.le
      have hk : findP (lensOf s) (b - 1) + 1 ≤ (cut s b.toNat).1.length := by
        rcases Nat.lt_or_ge (cut s b.toNat).1.length (findP (lensOf s) (b - 1) + 1) with h | h
        · have := sum_take_mono hl.2.2 (show (cut s b.toNat).1.length ≤ findP (lensOf s) (b - 1) by omega); omega
        · exact h
      have h3 := sum_take_mono hl.2.2 hk
      rw [← List.length_eq_zero_iff]
      omega
    refine ⟨hq2, .inr ⟨m.q1 ++ c', by rw [hc, hz10, List.append_assoc]⟩⟩
  · rintro ⟨_, h⟩
    rw [shut_last m.hc] at h
    rcases h with h | ⟨w, h⟩
    · exact absurd h m.hc
    · rw [hc] at h
      have := List.append_inj_right' h rfl
      simpa using this
theorem del_bad {s : ByteArray} {a b : Int} : (errI (ixOf s) a b ≠ 0 → delS s a b = s ∧ (delI (ixOf s) a b).2.1.1 = 0 ∧ (delI (ixOf s) a b).2.1.2.1 = 0 ∧ (delI (ixOf s) a b).2.1.2.2 = 0 ∧ (delI (ixOf s) a b).2.2 = errI (ixOf s) a b) ∧
    (¬ errI (ixOf s) a b ≠ 0 → a = b → delS s a b = s ∧ (delI (ixOf s) a b).2.1.1 = 0 ∧ (delI (ixOf s) a b).2.1.2.1 = 0 ∧ (delI (ixOf s) a b).2.1.2.2 = 0 ∧ (delI (ixOf s) a b).2.2 = 0) := by
  refine ⟨fun h => ?_, fun h h2 => ?_⟩
  · have e : delI (ixOf s) a b = (ixOf s, (0, 0, 0), errI (ixOf s) a b) := by unfold delI; rw [if_pos h]
    unfold delS; rw [e]; exact ⟨if_pos (.inl h), rfl, rfl, rfl, rfl⟩
  · have e : delI (ixOf s) a b = (ixOf s, (0, 0, 0), 0) := by unfold delI; rw [if_neg h, if_pos h2]
    unfold delS; rw [e]; exact ⟨if_pos (.inr h2), rfl, rfl, rfl, rfl⟩
/-- What the plain Delete tells where it does something. -/
theorem del_iv {s : ByteArray} {a b : Int} (he : ¬ errI (ixOf s) a b ≠ 0) (hab : ¬ a = b) : 0 ≤ a ∧ a < b ∧ b ≤ s.size ∧ delS s a b = s.extract 0 a.toNat ++ s.extract b.toNat s.size ∧ (delI (ixOf s) a b).2.2 = 0 ∧
    (delI (ixOf s) a b).2.1.1 = (nlc s a.toNat : Int) ∧ nlc s a.toNat ≤ nlc s (b - 1).toNat ∧ nlc s (b - 1).toNat < (lensOf s).length ∧ 0 ≤ ((lensOf s).take (nlc s a.toNat)).sum ∧
    (((Sx.byteAt s (b - 1).toNat = 10 ∧ ((lensOf s).take (nlc s a.toNat)).sum < a ∧ (nlc s (b - 1).toNat : Int) + 2 < (startsOf s).length) ∧ (delI (ixOf s) a b).2.1.2.1 = (nlc s (b - 1).toNat : Int) - nlc s a.toNat + 1 + 1 ∧
        ((0 < ((lensOf s).take (nlc s (b - 1).toNat + 2)).sum - ((lensOf s).take (nlc s a.toNat)).sum - (b - a) ∧ (delI (ixOf s) a b).2.1.2.2 = 1) ∨ (((lensOf s).take (nlc s (b - 1).toNat + 2)).sum - ((lensOf s).take (nlc s a.toNat)).sum - (b - a) ≤ 0 ∧ (delI (ixOf s) a b).2.1.2.2 = 0))) ∨
     (¬ (Sx.byteAt s (b - 1).toNat = 10 ∧ ((lensOf s).take (nlc s a.toNat)).sum < a ∧ (nlc s (b - 1).toNat : Int) + 2 < (startsOf s).length) ∧ (delI (ixOf s) a b).2.1.2.1 = (nlc s (b - 1).toNat : Int) - nlc s a.toNat + 1 ∧
        ((0 < ((lensOf s).take (nlc s (b - 1).toNat + 1)).sum - ((lensOf s).take (nlc s a.toNat)).sum - (b - a) ∧ (delI (ixOf s) a b).2.1.2.2 = 1) ∨ (((lensOf s).take (nlc s (b - 1).toNat + 1)).sum - ((lensOf s).take (nlc s a.toNat)).sum - (b - a) ≤ 0 ∧ (delI (ixOf s) a b).2.1.2.2 = 0)))) := by
  have h3 := err_ok he
  rw [ix_size] at h3
  have hl := lensOf_ok s
  have e : (delI (ixOf s) a b).2 = ((((findP (lensOf s) a : Nat) : Int), oldD (ixOf s) a b, ((newD (ixOf s) a b).length : Int)), 0) := by unfold delI; rw [if_neg he, if_neg hab]; rfl
  have hS : delS s a b = s.extract 0 a.toNat ++ s.extract b.toNat s.size := by unfold delS; rw [if_neg (fun e => e.elim he hab)]
  have e1 := find_eq s a.toNat (by omega)
  rw [show ((a.toNat : Nat) : Int) = a by omega] at e1
  have e2 := find_eq s (b - 1).toNat (by omega)
  rw [show (((b - 1).toNat : Nat) : Int) = b - 1 by omega] at e2
  have hm := findP_mono (l := lensOf s) (a := a) (b := b - 1) hl.2.2 (by omega) (by omega) (by omega)
  have hB := findP_spec (l := lensOf s) (a := b - 1) (by omega) (by omega) hl.2.2
  have hs0 := (sum_take_le hl.2.2 (nlc s a.toNat)).1
  have hlb := last_byte (s := s) (a := a) (b := b) (by omega) (by omega) (by omega)
  have hst := starts_len s
  have hmore : moreI (ixOf s) a b = true ↔ (Sx.byteAt s (b - 1).toNat = 10 ∧ ((lensOf s).take (nlc s a.toNat)).sum < a ∧ (nlc s (b - 1).toNat : Int) + 2 < (startsOf s).length) := by
    unfold moreI
    rw [decide_eq_true_iff, ix_lens, ← hlb, e1, e2]
    constructor
    · rintro ⟨h4, h5, h6⟩; exact ⟨h4, h5, by omega⟩
    · rintro ⟨h4, h5, h6⟩; exact ⟨h4, h5, by omega⟩
  rw [e, e1]
  rw [e1, e2] at hm
  rw [e2] at hB
  refine ⟨by omega, by omega, h3.2.2, hS, rfl, rfl, hm, hB.1, hs0, ?_⟩
  by_cases h : moreI (ixOf s) a b = true
  · refine .inl ⟨hmore.1 h, ?_, ?_⟩
    · show oldD (ixOf s) a b = _
      unfold oldD; rw [ix_lens, if_pos h, e1, e2]
    · have h4 := (hmore.1 h).2.2
      have hr : restD (ixOf s) a b = ((lensOf s).take (nlc s (b - 1).toNat + 2)).sum - ((lensOf s).take (nlc s a.toNat)).sum - (b - a) := by
        unfold restD
        rw [ix_lens, if_pos h, e1, e2, show nlc s (b - 1).toNat + 2 = nlc s (b - 1).toNat + 1 + 1 by omega, sum_take_succ (lensOf s) (nlc s (b - 1).toNat + 1) (by omega)]
        omega
      show (_ ∧ ((newD (ixOf s) a b).length : Int) = 1) ∨ (_ ∧ ((newD (ixOf s) a b).length : Int) = 0)
      unfold newD
      rw [hr]
      split
      · rename_i h5; exact .inl ⟨h5, rfl⟩
      · rename_i h5; exact .inr ⟨by omega, rfl⟩
  · refine .inr ⟨fun e => h (hmore.2 e), ?_, ?_⟩
    · show oldD (ixOf s) a b = _
      unfold oldD; rw [ix_lens, if_neg h, e1, e2, Int.add_zero]
    · have hr : restD (ixOf s) a b = ((lensOf s).take (nlc s (b - 1).toNat + 1)).sum - ((lensOf s).take (nlc s a.toNat)).sum - (b - a) := by
        unfold restD
        rw [ix_lens, if_neg h, e1, e2]
        omega
      show (_ ∧ ((newD (ixOf s) a b).length : Int) = 1) ∨ (_ ∧ ((newD (ixOf s) a b).length : Int) = 0)
      unfold newD
      rw [hr]
      split
      · rename_i h5; exact .inl ⟨h5, rfl⟩
      · rename_i h5; exact .inr ⟨by omega, rfl⟩

set_option maxRecDepth 100000 in
theorem rDelete_calls {w0 w : World} {F0 : Nat → Prop} {R : List Sx.HP} (s : ByteArray) (a b : Int) (hs : s.size ≤ 1099511627776) (h : Sx.St w0 F0 ([] ++ R) w) : Calls Try.prog 33 #[.string (s), .int .i64 (a), .int .i64 (b)] w (fun e w1 => e = .returned (.tuple #[.string (delS s a b), .agg #[.int .i64 (delI (ixOf s) a b).2.1.1, .int .i64 (delI (ixOf s) a b).2.1.2.1, .int .i64 (delI (ixOf s) a b).2.1.2.2], .int .i64 (delI (ixOf s) a b).2.2]) ∧ Sx.St w0 F0 R w1) := by
 have hz_ := ix_size s
 have hlo := lensOf_ok s
 have hx1 := ext_le s 0 a.toNat
 have hx2 := ext_le s b.toNat s.size
 have hbad := del_bad (s := s) (a := a) (b := b)
 have hsl := starts_len s
 refine Sx.calls_fn (vs := [.string (s), .int .i64 (a), .int .i64 (b)]) Try.func33 rfl Try.ntmps33 rfl ?_
 refine Sx.wc_seq ?_
 refine Sx.wc_region ?_
 refine Sx.wl_v rfl rfl (Sx.ov_assign _ rfl) ?_
 refine Sx.wl_alloc _ h rfl rfl zo41 (fun b1 _ h => ?_)
 replace h : Sx.St _ _ (Sx.blk b1 [.int .i64 (0), .int .i64 (0), .int .i64 (0)] 41 :: _) _ := h
 refine Sx.wl_v rfl rfl (Sx.ov_assign _ rfl) ?_
 refine Sx.wl_nil ?_
 refine Sx.qn_then ?_
 refine Sx.wc_seq ?_
 refine Sx.wc_seq ?_
 refine Sx.wc_region ?_
 refine Sx.wl_v rfl rfl (Sx.ov_move _ rfl) ?_
 refine Sx.wl_v rfl rfl (Sx.ov_move _ rfl) ?_
 refine Sx.wl_v rfl rfl (Sx.ov_move _ rfl) ?_
 refine Sx.wl_call _ rfl rfl rfl ent22 (rSpan_calls (R := [Sx.blk b1 [.int .i64 (0), .int .i64 (0), .int .i64 (0)] 41] ++ R) s a b  h) ?_
 rintro e_ w_ ⟨rfl, h⟩
 refine ⟨_, rfl, ?_⟩
 refine Sx.wl_v rfl rfl (Sx.ov_assign _ rfl) ?_
 refine Sx.wl_nil ?_
 refine Sx.qn_then ?_
 refine Sx.wc_seq ?_
 refine Sx.wc_region ?_
 refine Sx.wl_v rfl rfl (Sx.ov_move _ rfl) ?_
 refine Sx.wl_v rfl rfl (Sx.ov_bin _ rfl rfl (Sx.binR_neq)) ?_
 refine Sx.wl_v rfl rfl (Sx.ov_move _ rfl) ?_
 refine Sx.wl_split 21 rfl (fun c2 => ?_) (fun c2 => ?_)
 ·
  refine Sx.wl_skip rfl rfl ?_
  refine Sx.wl_skip rfl rfl ?_
  refine Sx.wl_skip rfl rfl ?_
  refine Sx.wl_v rfl rfl (Sx.ov_pick_true _ rfl rfl) ?_
  refine Sx.wl_nil ?_
  refine Sx.qn_then ?_
  refine Sx.wc_cond_true rfl ?_
  refine Sx.wc_seq ?_
  refine Sx.wc_region ?_
  refine Sx.wl_v rfl rfl (Sx.ov_move _ rfl) ?_
  refine Sx.wl_v rfl rfl (Sx.ov_build [] [.int .i64 (0), .int .i64 (0), .int .i64 (0)] rfl rfl (by kernel_rfl)) ?_
  refine Sx.wl_v rfl rfl (Sx.ov_move _ rfl) ?_
  refine Sx.wl_v rfl rfl (Sx.ov_assign _ rfl) ?_
  refine Sx.wl_storebN 0 [.int .i64 (0), .int .i64 (0), .int .i64 (0)] [.int .i64 (0), .int .i64 (0), .int .i64 (0)] h rfl rfl rfl rfl (by simp [Value.oneCell']) sh41 rfl rfl (fun _ h => ?_)
  refine Sx.wl_v rfl rfl (Sx.ov_assign _ rfl) ?_
  refine Sx.wl_nil ?_
  refine Sx.qn_then ?_
  refine Sx.wc_ret ?_
  refine Sx.qn_then_ret ?_
  have hend_ := h
  replace h := Sx.st_selT [false] h
  refine Sx.qn_ret [_, _, _] ⟨rfl, ⟨_, rfl, Sx.loadVarN (vs := [.int .i64 (0), .int .i64 (0), .int .i64 (0)]) sh41 (Sx.blk_cells (cells := [.int .i64 (0), .int .i64 (0), .int .i64 (0)]) hend_ (i := 0) rfl 0 _ rfl)⟩, rfl, trivial⟩ ?_
  have hb_ := hbad.1 (by omega)
  exact ⟨iv_eq hb_.1.symm hb_.2.1.symm hb_.2.2.1.symm hb_.2.2.2.1.symm (by omega), h⟩
 ·
  refine Sx.wl_v rfl rfl (Sx.ov_move _ rfl) ?_
  refine Sx.wl_v rfl rfl (Sx.ov_move _ rfl) ?_
  refine Sx.wl_v rfl rfl (Sx.ov_bin _ rfl rfl (Sx.binR_eql)) ?_
  refine Sx.wl_v rfl rfl (Sx.ov_pick_false _ rfl rfl) ?_
  refine Sx.wl_nil ?_
  refine Sx.qn_then ?_
  refine Sx.wc_cond (by rfl) (fun c3 => ?_) (fun c3 => ?_)
  ·
   refine Sx.wc_seq ?_
   refine Sx.wc_region ?_
   refine Sx.wl_v rfl rfl (Sx.ov_move _ rfl) ?_
   refine Sx.wl_v rfl rfl (Sx.ov_build [] [.int .i64 (0), .int .i64 (0), .int .i64 (0)] rfl rfl (by kernel_rfl)) ?_
   refine Sx.wl_v rfl rfl (Sx.ov_move _ rfl) ?_
   refine Sx.wl_v rfl rfl (Sx.ov_assign _ rfl) ?_
   refine Sx.wl_storebN 0 [.int .i64 (0), .int .i64 (0), .int .i64 (0)] [.int .i64 (0), .int .i64 (0), .int .i64 (0)] h rfl rfl rfl rfl (by simp [Value.oneCell']) sh41 rfl rfl (fun _ h => ?_)
   refine Sx.wl_v rfl rfl (Sx.ov_assign _ rfl) ?_
   refine Sx.wl_nil ?_
   refine Sx.qn_then ?_
   refine Sx.wc_ret ?_
   refine Sx.qn_then_ret ?_
   have hend_ := h
   replace h := Sx.st_selT [false] h
   refine Sx.qn_ret [_, _, _] ⟨rfl, ⟨_, rfl, Sx.loadVarN (vs := [.int .i64 (0), .int .i64 (0), .int .i64 (0)]) sh41 (Sx.blk_cells (cells := [.int .i64 (0), .int .i64 (0), .int .i64 (0)]) hend_ (i := 0) rfl 0 _ rfl)⟩, rfl, trivial⟩ ?_
   have hb_ := hbad.2 (by omega) (by assumption)
   exact ⟨iv_eq hb_.1.symm hb_.2.1.symm hb_.2.2.1.symm hb_.2.2.2.1.symm (by omega), h⟩
  ·
   have hiv := del_iv (s := s) (a := a) (b := b) (by assumption) (by assumption)
   have hs1 := starts_at s (nlc s a.toNat) (by omega)
   have hs2 := starts_at s (nlc s (b - 1).toNat + 1) (by omega)
   have hs3 : nlc s (b - 1).toNat + 2 < (startsOf s).length → (startsOf s).getD (nlc s (b - 1).toNat + 2) 0 = ((lensOf s).take (nlc s (b - 1).toNat + 2)).sum := fun h_ => starts_at s _ (by omega)
   have hg1 : (startsOf s).getD (nlc s a.toNat + (nlc s (b - 1).toNat - nlc s a.toNat + 1)) 0 = (startsOf s).getD (nlc s (b - 1).toNat + 1) 0 := by rw [show nlc s a.toNat + (nlc s (b - 1).toNat - nlc s a.toNat + 1) = nlc s (b - 1).toNat + 1 by omega]
   have hg2 : (startsOf s).getD (nlc s a.toNat + (nlc s (b - 1).toNat - nlc s a.toNat + 1 + 1)) 0 = (startsOf s).getD (nlc s (b - 1).toNat + 2) 0 := by rw [show nlc s a.toNat + (nlc s (b - 1).toNat - nlc s a.toNat + 1 + 1) = nlc s (b - 1).toNat + 2 by omega]
   have hsm1 := (sum_take_le hlo.2.2 (nlc s a.toNat)).2
   have hsm2 := sum_take_le hlo.2.2 (nlc s (b - 1).toNat + 1)
   have hsm3 := sum_take_le hlo.2.2 (nlc s (b - 1).toNat + 2)
   refine Sx.wc_skip ?_
   refine Sx.qn_then ?_
   refine Sx.wc_seq ?_
   refine Sx.wc_region ?_
   refine Sx.wl_v rfl rfl (Sx.ov_move _ rfl) ?_
   refine Sx.wl_v rfl rfl (Sx.ov_move _ rfl) ?_
   refine Sx.wl_call _ rfl rfl rfl ent19 (rFind_calls (R := [Sx.blk b1 [.int .i64 (0), .int .i64 (0), .int .i64 (0)] 41] ++ R) s a (by omega) (by omega) (by omega) h) ?_
   rintro e_ w_ ⟨rfl, h⟩
   refine ⟨_, rfl, ?_⟩
   refine Sx.wl_v rfl rfl (Sx.ov_move _ rfl) ?_
   refine Sx.wl_v rfl rfl (Sx.ov_move _ rfl) ?_
   refine Sx.wl_v rfl rfl (Sx.ov_bin _ rfl rfl (Sx.binR_sub (r := b - 1) (Sx.w64 (by first | omega | (have h7_ := hs3 (by omega); omega) | (simp only [size_app]; omega))))) ?_
   refine Sx.wl_call _ rfl rfl rfl ent19 (rFind_calls (R := [Sx.blk b1 [.int .i64 (0), .int .i64 (0), .int .i64 (0)] 41] ++ R) s (b - 1) (by omega) (by omega) (by omega) h) ?_
   rintro e_ w_ ⟨rfl, h⟩
   refine ⟨_, rfl, ?_⟩
   refine Sx.wl_v rfl rfl (Sx.ov_assign _ rfl) ?_
   refine Sx.wl_v rfl rfl (Sx.ov_assign _ rfl) ?_
   refine Sx.wl_nil ?_
   refine Sx.qn_then ?_
   refine Sx.wc_seq ?_
   refine Sx.wc_region ?_
   refine Sx.wl_v rfl rfl (Sx.ov_move _ rfl) ?_
   refine Sx.wl_call _ rfl rfl rfl ent13 (Starts_calls (R := [Sx.blk b1 [.int .i64 (0), .int .i64 (0), .int .i64 (0)] 41] ++ R) s (by omega) h) ?_
   rintro e_ w_ ⟨A4, cp5, rfl, h⟩
   refine ⟨_, rfl, ?_⟩
   refine Sx.wl_v rfl rfl (Sx.ov_assign _ rfl) ?_
   refine Sx.wl_nil ?_
   refine Sx.qn_then ?_
   refine Sx.wc_seq ?_
   refine Sx.wc_region ?_
   refine Sx.wl_v rfl rfl (Sx.ov_move _ rfl) ?_
   refine Sx.wl_v rfl rfl (Sx.ov_move _ rfl) ?_
   refine Sx.wl_v rfl rfl (Sx.ov_move _ rfl) ?_
   refine Sx.wl_v rfl rfl (Sx.ov_bin _ rfl rfl (Sx.binR_sub (r := (((nlc s ((b - 1) : Int).toNat) : Int)) - (((nlc s (a : Int).toNat) : Int))) (Sx.w64 (by first | omega | (have h7_ := hs3 (by omega); omega) | (simp only [size_app]; omega))))) ?_
   refine Sx.wl_v rfl rfl (Sx.ov_bin _ rfl rfl (Sx.binR_add (r := ((((nlc s ((b - 1) : Int).toNat) : Int)) - (((nlc s (a : Int).toNat) : Int))) + 1) (Sx.w64 (by first | omega | (have h7_ := hs3 (by omega); omega) | (simp only [size_app]; omega))))) ?_
   refine Sx.wl_v rfl rfl (Sx.ov_build [(0, .int .i64 (((nlc s (a : Int).toNat) : Int))), (1, .int .i64 (((((nlc s ((b - 1) : Int).toNat) : Int)) - (((nlc s (a : Int).toNat) : Int))) + 1))] [.int .i64 (((nlc s (a : Int).toNat) : Int)), .int .i64 (((((nlc s ((b - 1) : Int).toNat) : Int)) - (((nlc s (a : Int).toNat) : Int))) + 1), .int .i64 (0)] rfl rfl (by kernel_rfl)) ?_
   refine Sx.wl_alloc _ h rfl rfl zo41 (fun b6 _ h => ?_)
   replace h : Sx.St _ _ (Sx.blk b6 [.int .i64 (0), .int .i64 (0), .int .i64 (0)] 41 :: _) _ := h
   refine Sx.wl_storebN 0 [.int .i64 (((nlc s (a : Int).toNat) : Int)), .int .i64 (((((nlc s ((b - 1) : Int).toNat) : Int)) - (((nlc s (a : Int).toNat) : Int))) + 1), .int .i64 (0)] [.int .i64 (((nlc s (a : Int).toNat) : Int)), .int .i64 (((((nlc s ((b - 1) : Int).toNat) : Int)) - (((nlc s (a : Int).toNat) : Int))) + 1), .int .i64 (0)] h rfl rfl rfl rfl (by simp [Value.oneCell']) sh41 rfl rfl (fun _ h => ?_)
   refine Sx.wl_nil ?_
   refine Sx.qn_then ?_
   refine Sx.wc_seq ?_
   refine Sx.wc_seq ?_
   refine Sx.wc_region ?_
   refine Sx.wl_v rfl rfl (Sx.ov_move _ rfl) ?_
   refine Sx.wl_v rfl rfl (Sx.ov_move _ rfl) ?_
   refine Sx.wl_v rfl rfl (Sx.ov_bin _ rfl rfl (Sx.binR_sub (r := b - 1) (Sx.w64 (by first | omega | (have h7_ := hs3 (by omega); omega) | (simp only [size_app]; omega))))) ?_
   refine Sx.wl_v rfl rfl (Sx.ov_indexs _ (b - 1 : Int).toNat rfl rfl Try.underlying9 (by omega) (by first | assumption | omega)) ?_
   refine Sx.wl_v rfl rfl (Sx.ov_bin _ rfl rfl (Sx.binR_eql)) ?_
   refine Sx.wl_v rfl rfl (Sx.ov_move _ rfl) ?_
   refine Sx.wl_split 49 rfl (fun c7 => ?_) (fun c7 => ?_)
   ·
    refine Sx.wl_v rfl rfl (Sx.ov_move _ rfl) ?_
    refine Sx.wl_v rfl rfl (Sx.ov_move _ rfl) ?_
    refine Sx.wl_v rfl rfl (Sx.ov_move _ rfl) ?_
    obtain ⟨ad8, rfl⟩ := Sx.C_some ((Sx.row_reads h (i := 1) rfl).2) (k := (nlc s (a : Int).toNat)) (by first | assumption | omega)
    refine Sx.wl_v rfl rfl (Sx.ov_indexAddrN _ _ _ _ _ (nlc s (a : Int).toNat) rfl rfl es23 rfl (by first | assumption | omega | (simp only [List.length_take, List.length_drop, List.length_set]; omega))) ?_
    obtain ⟨cl11, _, hk10, hc9⟩ := Sx.C_cells ((Sx.row_reads h (i := 1) rfl).2) (z := (0 : Int)) (k := (nlc s (a : Int).toNat)) (by first | assumption | omega)
    obtain rfl : cl11 = [.int .i64 _] := hk10
    refine Sx.wl_v rfl rfl (Sx.ov_load1 _ _ rfl sh3 ((hc9 0 _ rfl))) ?_
    refine Sx.wl_v rfl rfl (Sx.ov_bin _ rfl rfl (Sx.binR_gtr)) ?_
    refine Sx.wl_v rfl rfl (Sx.ov_pick_true _ rfl rfl) ?_
    refine Sx.wl_v rfl rfl (Sx.ov_move _ rfl) ?_
    refine Sx.wl_split 57 rfl (fun c12 => ?_) (fun c12 => ?_)
    ·
     refine Sx.wl_v rfl rfl (Sx.ov_move _ rfl) ?_
     refine Sx.wl_v rfl rfl (Sx.ov_bin _ rfl rfl (Sx.binR_add (r := (((nlc s ((b - 1) : Int).toNat) : Int)) + 2) (Sx.w64 (by first | omega | (have h7_ := hs3 (by omega); omega) | (simp only [size_app]; omega))))) ?_
     refine Sx.wl_v rfl rfl (Sx.ov_move _ rfl) ?_
     refine Sx.wl_v rfl rfl (Sx.ov_len _ _ _ _ _ rfl es23) ?_
     refine Sx.wl_v rfl rfl (Sx.ov_bin _ rfl rfl (Sx.binR_lss)) ?_
     refine Sx.wl_v rfl rfl (Sx.ov_pick_true _ rfl rfl) ?_
     refine Sx.wl_nil ?_
     refine Sx.qn_then ?_
     refine Sx.wc_cond (by rfl) (fun c13 => ?_) (fun c13 => ?_)
     ·
      refine Sx.wc_region ?_
      refine Sx.wl_v rfl rfl (Sx.ov_fieldAddr _ ⟨b6, 1, none⟩ _ rfl fo41_1 rfl) ?_
      refine Sx.wl_v rfl rfl (Sx.ov_loadb 0 _ h rfl rfl sh3 rfl) ?_
      refine Sx.wl_v rfl rfl (Sx.ov_bin _ rfl rfl (Sx.binR_add (r := (((((nlc s ((b - 1) : Int).toNat) : Int)) - (((nlc s (a : Int).toNat) : Int))) + 1) + 1) (Sx.w64 (by first | omega | (have h7_ := hs3 (by omega); omega) | (simp only [size_app]; omega))))) ?_
      refine Sx.wl_v rfl rfl (Sx.ov_fieldAddr _ ⟨b6, 1, none⟩ _ rfl fo41_1 rfl) ?_
      refine Sx.wl_storeb 0 _ [.int .i64 (((nlc s (a : Int).toNat) : Int)), .int .i64 ((((((nlc s ((b - 1) : Int).toNat) : Int)) - (((nlc s (a : Int).toNat) : Int))) + 1) + 1), .int .i64 (0)] h rfl rfl rfl rfl rfl rfl sh3 rfl rfl (fun _ h => ?_)
      refine Sx.wl_nil ?_
      refine Sx.qn_then ?_
      refine Sx.wc_seq ?_
      refine Sx.wc_draw (fun w => Sx.St w0 F0 ([Sx.blk b6 [.int .i64 (((nlc s (a : Int).toNat) : Int)), .int .i64 ((((((nlc s ((b - 1) : Int).toNat) : Int)) - (((nlc s (a : Int).toNat) : Int))) + 1) + 1), .int .i64 (0)] 41, Sx.row (Kd.int .i64) 3 (some ad8) (cp5) (startsOf s), Sx.blk b1 [.int .i64 (0), .int .i64 (0), .int .i64 (0)] 41] ++ R) w) (by kernel_rfl) ?_
      replace h := Sx.st_drew h
      refine Sx.wa_take 0 rfl (by kernel_rfl) (by kernel_rfl) (by kernel_rfl) (fun _ _ _ h => h) rfl rfl (Sx.st_selT [true, true, true] h) (fun w_ hS => Sx.ov_move _ rfl) ?_
      refine Sx.wa_take 1 rfl (by kernel_rfl) (by kernel_rfl) (by kernel_rfl) (fun _ _ _ h => h) rfl rfl (Sx.st_selT [true, true, true] h) (fun w_ hS => Sx.ov_move _ rfl) ?_
      refine Sx.wa_take 2 rfl (by kernel_rfl) (by kernel_rfl) (by kernel_rfl) (fun _ _ _ h => h) rfl rfl (Sx.st_selT [true, true, true] h) (fun w_ hS => Sx.ov_fieldAddr _ ⟨b6, 1, none⟩ _ rfl fo41_1 rfl) ?_
      refine Sx.wa_take 3 rfl (by kernel_rfl) (by kernel_rfl) (by kernel_rfl) (fun _ _ _ h => h) rfl rfl (Sx.st_selT [true, true, true] h) (fun w_ hS => Sx.ov_loadb 0 _ hS rfl rfl sh3 rfl) ?_
      refine Sx.wa_take 4 rfl (by kernel_rfl) (by kernel_rfl) (by kernel_rfl) (fun _ _ _ h => h) rfl rfl (Sx.st_selT [true, true, true] h) (fun w_ hS => Sx.ov_bin _ rfl rfl (Sx.binR_add (r := (((nlc s (a : Int).toNat) : Int)) + ((((((nlc s ((b - 1) : Int).toNat) : Int)) - (((nlc s (a : Int).toNat) : Int))) + 1) + 1)) (Sx.w64 (by first | omega | (have h7_ := hs3 (by omega); omega) | (simp only [size_app]; omega))))) ?_
      refine Sx.wa_take 5 rfl (by kernel_rfl) (by kernel_rfl) (by kernel_rfl) (fun _ _ _ h => h) rfl rfl (Sx.st_selT [true, true, true] h) (fun w_ hS => Sx.ov_indexAddrN _ _ _ _ _ (((nlc s (a : Int).toNat)) + ((((((((nlc s ((b - 1) : Int).toNat)) - ((nlc s (a : Int).toNat)))) + 1)) + 1))) rfl rfl es23 (by omega) (by first | assumption | omega | (simp only [List.length_take, List.length_drop, List.length_set]; omega))) ?_
      refine Sx.wa_take 6 rfl (by kernel_rfl) (by kernel_rfl) (by kernel_rfl) (fun _ _ _ h => h) rfl rfl (Sx.st_selT [true, true, true] h) (fun w_ hS => by
          obtain ⟨cl16, _, hk15, hc14⟩ := Sx.C_cells ((Sx.row_reads hS (i := 1) rfl).2) (z := (0 : Int)) (k := (((nlc s (a : Int).toNat)) + ((((((((nlc s ((b - 1) : Int).toNat)) - ((nlc s (a : Int).toNat)))) + 1)) + 1)))) (by first | assumption | omega)
          obtain rfl : cl16 = [.int .i64 _] := hk15
          exact Sx.ov_load1 _ _ rfl sh3 ((hc14 0 _ rfl))) ?_
      refine Sx.wa_take 7 rfl (by kernel_rfl) (by kernel_rfl) (by kernel_rfl) (fun _ _ _ h => h) rfl rfl (Sx.st_selT [true, true, true] h) (fun w_ hS => Sx.ov_move _ rfl) ?_
      refine Sx.wa_take 8 rfl (by kernel_rfl) (by kernel_rfl) (by kernel_rfl) (fun _ _ _ h => h) rfl rfl (Sx.st_selT [true, true, true] h) (fun w_ hS => Sx.ov_move _ rfl) ?_
      refine Sx.wa_take 9 rfl (by kernel_rfl) (by kernel_rfl) (by kernel_rfl) (fun _ _ _ h => h) rfl rfl (Sx.st_selT [true, true, true] h) (fun w_ hS => Sx.ov_indexAddrN _ _ _ _ _ (nlc s (a : Int).toNat) rfl rfl es23 rfl (by first | assumption | omega | (simp only [List.length_take, List.length_drop, List.length_set]; omega))) ?_
      refine Sx.wa_take 10 rfl (by kernel_rfl) (by kernel_rfl) (by kernel_rfl) (fun _ _ _ h => h) rfl rfl (Sx.st_selT [true, true, true] h) (fun w_ hS => by
          obtain ⟨cl19, _, hk18, hc17⟩ := Sx.C_cells ((Sx.row_reads hS (i := 1) rfl).2) (z := (0 : Int)) (k := (nlc s (a : Int).toNat)) (by first | assumption | omega)
          obtain rfl : cl19 = [.int .i64 _] := hk18
          exact Sx.ov_load1 _ _ rfl sh3 ((hc17 0 _ rfl))) ?_
      refine Sx.wa_take 11 rfl (by kernel_rfl) (by kernel_rfl) (by kernel_rfl) (fun _ _ _ h => h) rfl rfl (Sx.st_selT [true, true, true] h) (fun w_ hS => Sx.ov_bin _ rfl rfl (Sx.binR_sub (r := ((startsOf s).getD (((nlc s (a : Int).toNat)) + ((((((((nlc s ((b - 1) : Int).toNat)) - ((nlc s (a : Int).toNat)))) + 1)) + 1))) (0 : Int)) - ((startsOf s).getD (nlc s (a : Int).toNat) (0 : Int))) (Sx.w64 (by first | omega | (have h7_ := hs3 (by omega); omega) | (simp only [size_app]; omega))))) ?_
      refine Sx.wa_take 12 rfl (by kernel_rfl) (by kernel_rfl) (by kernel_rfl) (fun _ _ _ h => h) rfl rfl (Sx.st_selT [true, true, true] h) (fun w_ hS => Sx.ov_move _ rfl) ?_
      refine Sx.wa_take 13 rfl (by kernel_rfl) (by kernel_rfl) (by kernel_rfl) (fun _ _ _ h => h) rfl rfl (Sx.st_selT [true, true, true] h) (fun w_ hS => Sx.ov_move _ rfl) ?_
      refine Sx.wa_take 14 rfl (by kernel_rfl) (by kernel_rfl) (by kernel_rfl) (fun _ _ _ h => h) rfl rfl (Sx.st_selT [true, true, true] h) (fun w_ hS => Sx.ov_bin _ rfl rfl (Sx.binR_sub (r := b - a) (Sx.w64 (by first | omega | (have h7_ := hs3 (by omega); omega) | (simp only [size_app]; omega))))) ?_
      refine Sx.wa_take 15 rfl (by kernel_rfl) (by kernel_rfl) (by kernel_rfl) (fun _ _ _ h => h) rfl rfl (Sx.st_selT [true, true, true] h) (fun w_ hS => Sx.ov_bin _ rfl rfl (Sx.binR_sub (r := (((startsOf s).getD (((nlc s (a : Int).toNat)) + ((((((((nlc s ((b - 1) : Int).toNat)) - ((nlc s (a : Int).toNat)))) + 1)) + 1))) (0 : Int)) - ((startsOf s).getD (nlc s (a : Int).toNat) (0 : Int))) - (b - a)) (Sx.w64 (by first | omega | (have h7_ := hs3 (by omega); omega) | (simp only [size_app]; omega))))) ?_
      refine Sx.wa_take 16 rfl (by kernel_rfl) (by kernel_rfl) (by kernel_rfl) (fun _ _ _ h => h) rfl rfl (Sx.st_selT [true, true, true] h) (fun w_ hS => Sx.ov_assign _ rfl) ?_
      refine Sx.wa_done (by kernel_rfl) ?_
      refine Sx.qn_then ?_
      refine Sx.wc_seq ?_
      refine Sx.wc_seq ?_
      refine Sx.wc_region ?_
      refine Sx.wl_v rfl rfl (Sx.ov_move _ rfl) ?_
      refine Sx.wl_v rfl rfl (Sx.ov_bin _ rfl rfl (Sx.binR_gtr)) ?_
      refine Sx.wl_nil ?_
      refine Sx.qn_then ?_
      refine Sx.wc_cond (by rfl) (fun c20 => ?_) (fun c20 => ?_)
      ·
       refine Sx.wc_region ?_
       refine Sx.wl_v rfl rfl (Sx.ov_fieldAddr _ ⟨b6, 2, none⟩ _ rfl fo41_2 rfl) ?_
       refine Sx.wl_storeb 0 _ [.int .i64 (((nlc s (a : Int).toNat) : Int)), .int .i64 ((((((nlc s ((b - 1) : Int).toNat) : Int)) - (((nlc s (a : Int).toNat) : Int))) + 1) + 1), .int .i64 (1)] h rfl rfl rfl rfl rfl rfl sh3 rfl rfl (fun _ h => ?_)
       refine Sx.wl_nil ?_
       refine Sx.qn_then ?_
       refine Sx.wc_seq ?_
       refine Sx.wc_draw (fun w => Sx.St w0 F0 ([Sx.blk b6 [.int .i64 (((nlc s (a : Int).toNat) : Int)), .int .i64 ((((((nlc s ((b - 1) : Int).toNat) : Int)) - (((nlc s (a : Int).toNat) : Int))) + 1) + 1), .int .i64 (1)] 41, Sx.row (Kd.int .i64) 3 (some ad8) (cp5) (startsOf s)] ++ R) w) (by kernel_rfl) ?_
       replace h := Sx.st_drew h
       refine Sx.wa_take 0 rfl (by kernel_rfl) (by kernel_rfl) (by kernel_rfl) (fun _ _ _ h => h) rfl rfl (Sx.st_selT [true, true, false] h) (fun w_ hS => Sx.ov_move _ rfl) ?_
       refine Sx.wa_take 1 rfl (by kernel_rfl) (by kernel_rfl) (by kernel_rfl) (fun _ _ _ h => h) rfl rfl (Sx.st_selT [true, true, false] h) (fun w_ hS => Sx.ov_move _ rfl) ?_
       refine Sx.wa_take 2 rfl (by kernel_rfl) (by kernel_rfl) (by kernel_rfl) (fun _ _ _ h => h) rfl rfl (Sx.st_selT [true, true, false] h) (fun w_ hS => by exact Sx.ov_slices _ 0 ((a : Int).toNat) (by rfl) (by exact rfl) (by exact ⟨_, _, rfl, (by omega)⟩) Try.underlying9 (by omega) (by omega)) ?_
       refine Sx.wa_take 3 rfl (by kernel_rfl) (by kernel_rfl) (by kernel_rfl) (fun _ _ _ h => h) rfl rfl (Sx.st_selT [true, true, false] h) (fun w_ hS => Sx.ov_move _ rfl) ?_
       refine Sx.wa_take 4 rfl (by kernel_rfl) (by kernel_rfl) (by kernel_rfl) (fun _ _ _ h => h) rfl rfl (Sx.st_selT [true, true, false] h) (fun w_ hS => Sx.ov_move _ rfl) ?_
       refine Sx.wa_take 5 rfl (by kernel_rfl) (by kernel_rfl) (by kernel_rfl) (fun _ _ _ h => h) rfl rfl (Sx.st_selT [true, true, false] h) (fun w_ hS => by exact Sx.ov_slices _ ((b : Int).toNat) ((s).size) (by rfl) (by exact ⟨_, _, rfl, (by omega)⟩) (by exact rfl) Try.underlying9 (by omega) (by omega)) ?_
       refine Sx.wa_take 6 rfl (by kernel_rfl) (by kernel_rfl) (by kernel_rfl) (fun _ _ _ h => h) rfl rfl (Sx.st_selT [true, true, false] h) (fun w_ hS => Sx.ov_bin _ rfl rfl (Sx.binR_adds (by first | omega | (have h7_ := hs3 (by omega); omega) | (simp only [size_app]; omega)))) ?_
       refine Sx.wa_take 7 rfl (by kernel_rfl) (by kernel_rfl) (by kernel_rfl) (fun _ _ _ h => h) rfl rfl (Sx.st_selT [true, true, false] h) (fun w_ hS => Sx.ov_loadbN 0 [.int .i64 (((nlc s (a : Int).toNat) : Int)), .int .i64 ((((((nlc s ((b - 1) : Int).toNat) : Int)) - (((nlc s (a : Int).toNat) : Int))) + 1) + 1), .int .i64 (1)] hS rfl rfl sh41 rfl) ?_
       refine Sx.wa_take 8 rfl (by kernel_rfl) (by kernel_rfl) (by kernel_rfl) (fun _ _ _ h => h) rfl rfl (Sx.st_selT [true, true, false] h) (fun w_ hS => Sx.ov_assign _ rfl) ?_
       refine Sx.wa_one 9 rfl (by kernel_rfl) ?_
       refine Sx.wl_storebN 2 [.int .i64 (((nlc s (a : Int).toNat) : Int)), .int .i64 ((((((nlc s ((b - 1) : Int).toNat) : Int)) - (((nlc s (a : Int).toNat) : Int))) + 1) + 1), .int .i64 (1)] [.int .i64 (((nlc s (a : Int).toNat) : Int)), .int .i64 ((((((nlc s ((b - 1) : Int).toNat) : Int)) - (((nlc s (a : Int).toNat) : Int))) + 1) + 1), .int .i64 (1)] h rfl rfl rfl rfl (by simp [Value.oneCell']) sh41 rfl rfl (fun _ h => ?_)
       refine Sx.wl_nil ?_
       refine Sx.qn_wa (Sx.st_selT [true, true, false] h) ?_
       refine Sx.wa_take 10 rfl (by kernel_rfl) (by kernel_rfl) (by kernel_rfl) (fun _ _ _ h => h) rfl rfl (Sx.st_selT [true, true, false] h) (fun w_ hS => Sx.ov_assign _ rfl) ?_
       refine Sx.wa_done (by kernel_rfl) ?_
       refine Sx.qn_then ?_
       refine Sx.wc_ret ?_
       have hend_ := h
       replace h := Sx.st_selT [false, false, false] h
       refine Sx.qn_ret [_, _, _] ⟨rfl, ⟨_, rfl, Sx.loadVarN (vs := [.int .i64 (((nlc s (a : Int).toNat) : Int)), .int .i64 ((((((nlc s ((b - 1) : Int).toNat) : Int)) - (((nlc s (a : Int).toNat) : Int))) + 1) + 1), .int .i64 (1)]) sh41 (Sx.blk_cells (cells := [.int .i64 (((nlc s (a : Int).toNat) : Int)), .int .i64 ((((((nlc s ((b - 1) : Int).toNat) : Int)) - (((nlc s (a : Int).toNat) : Int))) + 1) + 1), .int .i64 (1)]) hend_ (i := 2) rfl 0 _ rfl)⟩, rfl, trivial⟩ ?_
       refine ⟨iv_eq hiv.2.2.2.1.symm hiv.2.2.2.2.2.1.symm ?_ ?_ hiv.2.2.2.2.1.symm, h⟩ <;> (rcases hiv.2.2.2.2.2.2.2.2.2 with ⟨h4_, h5_, h6_⟩ | ⟨h4_, h5_, h6_⟩ <;> first | omega | (have := hs3 (by omega); omega))
      ·
       refine Sx.wc_skip ?_
       refine Sx.qn_then ?_
       refine Sx.wc_seq ?_
       refine Sx.wc_draw (fun w => Sx.St w0 F0 ([Sx.blk b6 [.int .i64 (((nlc s (a : Int).toNat) : Int)), .int .i64 ((((((nlc s ((b - 1) : Int).toNat) : Int)) - (((nlc s (a : Int).toNat) : Int))) + 1) + 1), .int .i64 (0)] 41, Sx.row (Kd.int .i64) 3 (some ad8) (cp5) (startsOf s)] ++ R) w) (by kernel_rfl) ?_
       replace h := Sx.st_drew h
       refine Sx.wa_take 0 rfl (by kernel_rfl) (by kernel_rfl) (by kernel_rfl) (fun _ _ _ h => h) rfl rfl (Sx.st_selT [true, true, false] h) (fun w_ hS => Sx.ov_move _ rfl) ?_
       refine Sx.wa_take 1 rfl (by kernel_rfl) (by kernel_rfl) (by kernel_rfl) (fun _ _ _ h => h) rfl rfl (Sx.st_selT [true, true, false] h) (fun w_ hS => Sx.ov_move _ rfl) ?_
       refine Sx.wa_take 2 rfl (by kernel_rfl) (by kernel_rfl) (by kernel_rfl) (fun _ _ _ h => h) rfl rfl (Sx.st_selT [true, true, false] h) (fun w_ hS => by exact Sx.ov_slices _ 0 ((a : Int).toNat) (by rfl) (by exact rfl) (by exact ⟨_, _, rfl, (by omega)⟩) Try.underlying9 (by omega) (by omega)) ?_
       refine Sx.wa_take 3 rfl (by kernel_rfl) (by kernel_rfl) (by kernel_rfl) (fun _ _ _ h => h) rfl rfl (Sx.st_selT [true, true, false] h) (fun w_ hS => Sx.ov_move _ rfl) ?_
       refine Sx.wa_take 4 rfl (by kernel_rfl) (by kernel_rfl) (by kernel_rfl) (fun _ _ _ h => h) rfl rfl (Sx.st_selT [true, true, false] h) (fun w_ hS => Sx.ov_move _ rfl) ?_
       refine Sx.wa_take 5 rfl (by kernel_rfl) (by kernel_rfl) (by kernel_rfl) (fun _ _ _ h => h) rfl rfl (Sx.st_selT [true, true, false] h) (fun w_ hS => by exact Sx.ov_slices _ ((b : Int).toNat) ((s).size) (by rfl) (by exact ⟨_, _, rfl, (by omega)⟩) (by exact rfl) Try.underlying9 (by omega) (by omega)) ?_
       refine Sx.wa_take 6 rfl (by kernel_rfl) (by kernel_rfl) (by kernel_rfl) (fun _ _ _ h => h) rfl rfl (Sx.st_selT [true, true, false] h) (fun w_ hS => Sx.ov_bin _ rfl rfl (Sx.binR_adds (by first | omega | (have h7_ := hs3 (by omega); omega) | (simp only [size_app]; omega)))) ?_
       refine Sx.wa_take 7 rfl (by kernel_rfl) (by kernel_rfl) (by kernel_rfl) (fun _ _ _ h => h) rfl rfl (Sx.st_selT [true, true, false] h) (fun w_ hS => Sx.ov_loadbN 0 [.int .i64 (((nlc s (a : Int).toNat) : Int)), .int .i64 ((((((nlc s ((b - 1) : Int).toNat) : Int)) - (((nlc s (a : Int).toNat) : Int))) + 1) + 1), .int .i64 (0)] hS rfl rfl sh41 rfl) ?_
       refine Sx.wa_take 8 rfl (by kernel_rfl) (by kernel_rfl) (by kernel_rfl) (fun _ _ _ h => h) rfl rfl (Sx.st_selT [true, true, false] h) (fun w_ hS => Sx.ov_assign _ rfl) ?_
       refine Sx.wa_one 9 rfl (by kernel_rfl) ?_
       refine Sx.wl_storebN 2 [.int .i64 (((nlc s (a : Int).toNat) : Int)), .int .i64 ((((((nlc s ((b - 1) : Int).toNat) : Int)) - (((nlc s (a : Int).toNat) : Int))) + 1) + 1), .int .i64 (0)] [.int .i64 (((nlc s (a : Int).toNat) : Int)), .int .i64 ((((((nlc s ((b - 1) : Int).toNat) : Int)) - (((nlc s (a : Int).toNat) : Int))) + 1) + 1), .int .i64 (0)] h rfl rfl rfl rfl (by simp [Value.oneCell']) sh41 rfl rfl (fun _ h => ?_)
       refine Sx.wl_nil ?_
       refine Sx.qn_wa (Sx.st_selT [true, true, false] h) ?_
       refine Sx.wa_take 10 rfl (by kernel_rfl) (by kernel_rfl) (by kernel_rfl) (fun _ _ _ h => h) rfl rfl (Sx.st_selT [true, true, false] h) (fun w_ hS => Sx.ov_assign _ rfl) ?_
       refine Sx.wa_done (by kernel_rfl) ?_
       refine Sx.qn_then ?_
       refine Sx.wc_ret ?_
       have hend_ := h
       replace h := Sx.st_selT [false, false, false] h
       refine Sx.qn_ret [_, _, _] ⟨rfl, ⟨_, rfl, Sx.loadVarN (vs := [.int .i64 (((nlc s (a : Int).toNat) : Int)), .int .i64 ((((((nlc s ((b - 1) : Int).toNat) : Int)) - (((nlc s (a : Int).toNat) : Int))) + 1) + 1), .int .i64 (0)]) sh41 (Sx.blk_cells (cells := [.int .i64 (((nlc s (a : Int).toNat) : Int)), .int .i64 ((((((nlc s ((b - 1) : Int).toNat) : Int)) - (((nlc s (a : Int).toNat) : Int))) + 1) + 1), .int .i64 (0)]) hend_ (i := 2) rfl 0 _ rfl)⟩, rfl, trivial⟩ ?_
       refine ⟨iv_eq hiv.2.2.2.1.symm hiv.2.2.2.2.2.1.symm ?_ ?_ hiv.2.2.2.2.1.symm, h⟩ <;> (rcases hiv.2.2.2.2.2.2.2.2.2 with ⟨h4_, h5_, h6_⟩ | ⟨h4_, h5_, h6_⟩ <;> first | omega | (have := hs3 (by omega); omega))
     ·
      refine Sx.wc_skip ?_
      refine Sx.qn_then ?_
      refine Sx.wc_seq ?_
      refine Sx.wc_draw (fun w => Sx.St w0 F0 ([Sx.blk b6 [.int .i64 (((nlc s (a : Int).toNat) : Int)), .int .i64 (((((nlc s ((b - 1) : Int).toNat) : Int)) - (((nlc s (a : Int).toNat) : Int))) + 1), .int .i64 (0)] 41, Sx.row (Kd.int .i64) 3 (some ad8) (cp5) (startsOf s), Sx.blk b1 [.int .i64 (0), .int .i64 (0), .int .i64 (0)] 41] ++ R) w) (by kernel_rfl) ?_
      replace h := Sx.st_drew h
      refine Sx.wa_take 0 rfl (by kernel_rfl) (by kernel_rfl) (by kernel_rfl) (fun _ _ _ h => h) rfl rfl (Sx.st_selT [true, true, true] h) (fun w_ hS => Sx.ov_move _ rfl) ?_
      refine Sx.wa_take 1 rfl (by kernel_rfl) (by kernel_rfl) (by kernel_rfl) (fun _ _ _ h => h) rfl rfl (Sx.st_selT [true, true, true] h) (fun w_ hS => Sx.ov_move _ rfl) ?_
      refine Sx.wa_take 2 rfl (by kernel_rfl) (by kernel_rfl) (by kernel_rfl) (fun _ _ _ h => h) rfl rfl (Sx.st_selT [true, true, true] h) (fun w_ hS => Sx.ov_fieldAddr _ ⟨b6, 1, none⟩ _ rfl fo41_1 rfl) ?_
      refine Sx.wa_take 3 rfl (by kernel_rfl) (by kernel_rfl) (by kernel_rfl) (fun _ _ _ h => h) rfl rfl (Sx.st_selT [true, true, true] h) (fun w_ hS => Sx.ov_loadb 0 _ hS rfl rfl sh3 rfl) ?_
      refine Sx.wa_take 4 rfl (by kernel_rfl) (by kernel_rfl) (by kernel_rfl) (fun _ _ _ h => h) rfl rfl (Sx.st_selT [true, true, true] h) (fun w_ hS => Sx.ov_bin _ rfl rfl (Sx.binR_add (r := (((nlc s (a : Int).toNat) : Int)) + (((((nlc s ((b - 1) : Int).toNat) : Int)) - (((nlc s (a : Int).toNat) : Int))) + 1)) (Sx.w64 (by first | omega | (have h7_ := hs3 (by omega); omega) | (simp only [size_app]; omega))))) ?_
      refine Sx.wa_take 5 rfl (by kernel_rfl) (by kernel_rfl) (by kernel_rfl) (fun _ _ _ h => h) rfl rfl (Sx.st_selT [true, true, true] h) (fun w_ hS => Sx.ov_indexAddrN _ _ _ _ _ (((nlc s (a : Int).toNat)) + ((((((nlc s ((b - 1) : Int).toNat)) - ((nlc s (a : Int).toNat)))) + 1))) rfl rfl es23 (by omega) (by first | assumption | omega | (simp only [List.length_take, List.length_drop, List.length_set]; omega))) ?_
      refine Sx.wa_take 6 rfl (by kernel_rfl) (by kernel_rfl) (by kernel_rfl) (fun _ _ _ h => h) rfl rfl (Sx.st_selT [true, true, true] h) (fun w_ hS => by
          obtain ⟨cl23, _, hk22, hc21⟩ := Sx.C_cells ((Sx.row_reads hS (i := 1) rfl).2) (z := (0 : Int)) (k := (((nlc s (a : Int).toNat)) + ((((((nlc s ((b - 1) : Int).toNat)) - ((nlc s (a : Int).toNat)))) + 1)))) (by first | assumption | omega)
          obtain rfl : cl23 = [.int .i64 _] := hk22
          exact Sx.ov_load1 _ _ rfl sh3 ((hc21 0 _ rfl))) ?_
      refine Sx.wa_take 7 rfl (by kernel_rfl) (by kernel_rfl) (by kernel_rfl) (fun _ _ _ h => h) rfl rfl (Sx.st_selT [true, true, true] h) (fun w_ hS => Sx.ov_move _ rfl) ?_
      refine Sx.wa_take 8 rfl (by kernel_rfl) (by kernel_rfl) (by kernel_rfl) (fun _ _ _ h => h) rfl rfl (Sx.st_selT [true, true, true] h) (fun w_ hS => Sx.ov_move _ rfl) ?_
      refine Sx.wa_take 9 rfl (by kernel_rfl) (by kernel_rfl) (by kernel_rfl) (fun _ _ _ h => h) rfl rfl (Sx.st_selT [true, true, true] h) (fun w_ hS => Sx.ov_indexAddrN _ _ _ _ _ (nlc s (a : Int).toNat) rfl rfl es23 rfl (by first | assumption | omega | (simp only [List.length_take, List.length_drop, List.length_set]; omega))) ?_
      refine Sx.wa_take 10 rfl (by kernel_rfl) (by kernel_rfl) (by kernel_rfl) (fun _ _ _ h => h) rfl rfl (Sx.st_selT [true, true, true] h) (fun w_ hS => by
          obtain ⟨cl26, _, hk25, hc24⟩ := Sx.C_cells ((Sx.row_reads hS (i := 1) rfl).2) (z := (0 : Int)) (k := (nlc s (a : Int).toNat)) (by first | assumption | omega)
          obtain rfl : cl26 = [.int .i64 _] := hk25
          exact Sx.ov_load1 _ _ rfl sh3 ((hc24 0 _ rfl))) ?_
      refine Sx.wa_take 11 rfl (by kernel_rfl) (by kernel_rfl) (by kernel_rfl) (fun _ _ _ h => h) rfl rfl (Sx.st_selT [true, true, true] h) (fun w_ hS => Sx.ov_bin _ rfl rfl (Sx.binR_sub (r := ((startsOf s).getD (((nlc s (a : Int).toNat)) + ((((((nlc s ((b - 1) : Int).toNat)) - ((nlc s (a : Int).toNat)))) + 1))) (0 : Int)) - ((startsOf s).getD (nlc s (a : Int).toNat) (0 : Int))) (Sx.w64 (by first | omega | (have h7_ := hs3 (by omega); omega) | (simp only [size_app]; omega))))) ?_
      refine Sx.wa_take 12 rfl (by kernel_rfl) (by kernel_rfl) (by kernel_rfl) (fun _ _ _ h => h) rfl rfl (Sx.st_selT [true, true, true] h) (fun w_ hS => Sx.ov_move _ rfl) ?_
      refine Sx.wa_take 13 rfl (by kernel_rfl) (by kernel_rfl) (by kernel_rfl) (fun _ _ _ h => h) rfl rfl (Sx.st_selT [true, true, true] h) (fun w_ hS => Sx.ov_move _ rfl) ?_
      refine Sx.wa_take 14 rfl (by kernel_rfl) (by kernel_rfl) (by kernel_rfl) (fun _ _ _ h => h) rfl rfl (Sx.st_selT [true, true, true] h) (fun w_ hS => Sx.ov_bin _ rfl rfl (Sx.binR_sub (r := b - a) (Sx.w64 (by first | omega | (have h7_ := hs3 (by omega); omega) | (simp only [size_app]; omega))))) ?_
      refine Sx.wa_take 15 rfl (by kernel_rfl) (by kernel_rfl) (by kernel_rfl) (fun _ _ _ h => h) rfl rfl (Sx.st_selT [true, true, true] h) (fun w_ hS => Sx.ov_bin _ rfl rfl (Sx.binR_sub (r := (((startsOf s).getD (((nlc s (a : Int).toNat)) + ((((((nlc s ((b - 1) : Int).toNat)) - ((nlc s (a : Int).toNat)))) + 1))) (0 : Int)) - ((startsOf s).getD (nlc s (a : Int).toNat) (0 : Int))) - (b - a)) (Sx.w64 (by first | omega | (have h7_ := hs3 (by omega); omega) | (simp only [size_app]; omega))))) ?_
      refine Sx.wa_take 16 rfl (by kernel_rfl) (by kernel_rfl) (by kernel_rfl) (fun _ _ _ h => h) rfl rfl (Sx.st_selT [true, true, true] h) (fun w_ hS => Sx.ov_assign _ rfl) ?_
      refine Sx.wa_done (by kernel_rfl) ?_
      refine Sx.qn_then ?_
      refine Sx.wc_seq ?_
      refine Sx.wc_seq ?_
      refine Sx.wc_region ?_
      refine Sx.wl_v rfl rfl (Sx.ov_move _ rfl) ?_
      refine Sx.wl_v rfl rfl (Sx.ov_bin _ rfl rfl (Sx.binR_gtr)) ?_
      refine Sx.wl_nil ?_
      refine Sx.qn_then ?_
      refine Sx.wc_cond (by rfl) (fun c27 => ?_) (fun c27 => ?_)
      ·
       refine Sx.wc_region ?_
       refine Sx.wl_v rfl rfl (Sx.ov_fieldAddr _ ⟨b6, 2, none⟩ _ rfl fo41_2 rfl) ?_
       refine Sx.wl_storeb 0 _ [.int .i64 (((nlc s (a : Int).toNat) : Int)), .int .i64 (((((nlc s ((b - 1) : Int).toNat) : Int)) - (((nlc s (a : Int).toNat) : Int))) + 1), .int .i64 (1)] h rfl rfl rfl rfl rfl rfl sh3 rfl rfl (fun _ h => ?_)
       refine Sx.wl_nil ?_
       refine Sx.qn_then ?_
       refine Sx.wc_seq ?_
       refine Sx.wc_draw (fun w => Sx.St w0 F0 ([Sx.blk b6 [.int .i64 (((nlc s (a : Int).toNat) : Int)), .int .i64 (((((nlc s ((b - 1) : Int).toNat) : Int)) - (((nlc s (a : Int).toNat) : Int))) + 1), .int .i64 (1)] 41, Sx.row (Kd.int .i64) 3 (some ad8) (cp5) (startsOf s)] ++ R) w) (by kernel_rfl) ?_
       replace h := Sx.st_drew h
       refine Sx.wa_take 0 rfl (by kernel_rfl) (by kernel_rfl) (by kernel_rfl) (fun _ _ _ h => h) rfl rfl (Sx.st_selT [true, true, false] h) (fun w_ hS => Sx.ov_move _ rfl) ?_
       refine Sx.wa_take 1 rfl (by kernel_rfl) (by kernel_rfl) (by kernel_rfl) (fun _ _ _ h => h) rfl rfl (Sx.st_selT [true, true, false] h) (fun w_ hS => Sx.ov_move _ rfl) ?_
       refine Sx.wa_take 2 rfl (by kernel_rfl) (by kernel_rfl) (by kernel_rfl) (fun _ _ _ h => h) rfl rfl (Sx.st_selT [true, true, false] h) (fun w_ hS => by exact Sx.ov_slices _ 0 ((a : Int).toNat) (by rfl) (by exact rfl) (by exact ⟨_, _, rfl, (by omega)⟩) Try.underlying9 (by omega) (by omega)) ?_
       refine Sx.wa_take 3 rfl (by kernel_rfl) (by kernel_rfl) (by kernel_rfl) (fun _ _ _ h => h) rfl rfl (Sx.st_selT [true, true, false] h) (fun w_ hS => Sx.ov_move _ rfl) ?_
       refine Sx.wa_take 4 rfl (by kernel_rfl) (by kernel_rfl) (by kernel_rfl) (fun _ _ _ h => h) rfl rfl (Sx.st_selT [true, true, false] h) (fun w_ hS => Sx.ov_move _ rfl) ?_
       refine Sx.wa_take 5 rfl (by kernel_rfl) (by kernel_rfl) (by kernel_rfl) (fun _ _ _ h => h) rfl rfl (Sx.st_selT [true, true, false] h) (fun w_ hS => by exact Sx.ov_slices _ ((b : Int).toNat) ((s).size) (by rfl) (by exact ⟨_, _, rfl, (by omega)⟩) (by exact rfl) Try.underlying9 (by omega) (by omega)) ?_
       refine Sx.wa_take 6 rfl (by kernel_rfl) (by kernel_rfl) (by kernel_rfl) (fun _ _ _ h => h) rfl rfl (Sx.st_selT [true, true, false] h) (fun w_ hS => Sx.ov_bin _ rfl rfl (Sx.binR_adds (by first | omega | (have h7_ := hs3 (by omega); omega) | (simp only [size_app]; omega)))) ?_
       refine Sx.wa_take 7 rfl (by kernel_rfl) (by kernel_rfl) (by kernel_rfl) (fun _ _ _ h => h) rfl rfl (Sx.st_selT [true, true, false] h) (fun w_ hS => Sx.ov_loadbN 0 [.int .i64 (((nlc s (a : Int).toNat) : Int)), .int .i64 (((((nlc s ((b - 1) : Int).toNat) : Int)) - (((nlc s (a : Int).toNat) : Int))) + 1), .int .i64 (1)] hS rfl rfl sh41 rfl) ?_
       refine Sx.wa_take 8 rfl (by kernel_rfl) (by kernel_rfl) (by kernel_rfl) (fun _ _ _ h => h) rfl rfl (Sx.st_selT [true, true, false] h) (fun w_ hS => Sx.ov_assign _ rfl) ?_
       refine Sx.wa_one 9 rfl (by kernel_rfl) ?_
       refine Sx.wl_storebN 2 [.int .i64 (((nlc s (a : Int).toNat) : Int)), .int .i64 (((((nlc s ((b - 1) : Int).toNat) : Int)) - (((nlc s (a : Int).toNat) : Int))) + 1), .int .i64 (1)] [.int .i64 (((nlc s (a : Int).toNat) : Int)), .int .i64 (((((nlc s ((b - 1) : Int).toNat) : Int)) - (((nlc s (a : Int).toNat) : Int))) + 1), .int .i64 (1)] h rfl rfl rfl rfl (by simp [Value.oneCell']) sh41 rfl rfl (fun _ h => ?_)
       refine Sx.wl_nil ?_
       refine Sx.qn_wa (Sx.st_selT [true, true, false] h) ?_
       refine Sx.wa_take 10 rfl (by kernel_rfl) (by kernel_rfl) (by kernel_rfl) (fun _ _ _ h => h) rfl rfl (Sx.st_selT [true, true, false] h) (fun w_ hS => Sx.ov_assign _ rfl) ?_
       refine Sx.wa_done (by kernel_rfl) ?_
       refine Sx.qn_then ?_
       refine Sx.wc_ret ?_
       have hend_ := h
       replace h := Sx.st_selT [false, false, false] h
       refine Sx.qn_ret [_, _, _] ⟨rfl, ⟨_, rfl, Sx.loadVarN (vs := [.int .i64 (((nlc s (a : Int).toNat) : Int)), .int .i64 (((((nlc s ((b - 1) : Int).toNat) : Int)) - (((nlc s (a : Int).toNat) : Int))) + 1), .int .i64 (1)]) sh41 (Sx.blk_cells (cells := [.int .i64 (((nlc s (a : Int).toNat) : Int)), .int .i64 (((((nlc s ((b - 1) : Int).toNat) : Int)) - (((nlc s (a : Int).toNat) : Int))) + 1), .int .i64 (1)]) hend_ (i := 2) rfl 0 _ rfl)⟩, rfl, trivial⟩ ?_
       refine ⟨iv_eq hiv.2.2.2.1.symm hiv.2.2.2.2.2.1.symm ?_ ?_ hiv.2.2.2.2.1.symm, h⟩ <;> (rcases hiv.2.2.2.2.2.2.2.2.2 with ⟨h4_, h5_, h6_⟩ | ⟨h4_, h5_, h6_⟩ <;> first | omega | (have := hs3 (by omega); omega))
      ·
       refine Sx.wc_skip ?_
       refine Sx.qn_then ?_
       refine Sx.wc_seq ?_
       refine Sx.wc_draw (fun w => Sx.St w0 F0 ([Sx.blk b6 [.int .i64 (((nlc s (a : Int).toNat) : Int)), .int .i64 (((((nlc s ((b - 1) : Int).toNat) : Int)) - (((nlc s (a : Int).toNat) : Int))) + 1), .int .i64 (0)] 41, Sx.row (Kd.int .i64) 3 (some ad8) (cp5) (startsOf s)] ++ R) w) (by kernel_rfl) ?_
       replace h := Sx.st_drew h
       refine Sx.wa_take 0 rfl (by kernel_rfl) (by kernel_rfl) (by kernel_rfl) (fun _ _ _ h => h) rfl rfl (Sx.st_selT [true, true, false] h) (fun w_ hS => Sx.ov_move _ rfl) ?_
       refine Sx.wa_take 1 rfl (by kernel_rfl) (by kernel_rfl) (by kernel_rfl) (fun _ _ _ h => h) rfl rfl (Sx.st_selT [true, true, false] h) (fun w_ hS => Sx.ov_move _ rfl) ?_
       refine Sx.wa_take 2 rfl (by kernel_rfl) (by kernel_rfl) (by kernel_rfl) (fun _ _ _ h => h) rfl rfl (Sx.st_selT [true, true, false] h) (fun w_ hS => by exact Sx.ov_slices _ 0 ((a : Int).toNat) (by rfl) (by exact rfl) (by exact ⟨_, _, rfl, (by omega)⟩) Try.underlying9 (by omega) (by omega)) ?_
       refine Sx.wa_take 3 rfl (by kernel_rfl) (by kernel_rfl) (by kernel_rfl) (fun _ _ _ h => h) rfl rfl (Sx.st_selT [true, true, false] h) (fun w_ hS => Sx.ov_move _ rfl) ?_
       refine Sx.wa_take 4 rfl (by kernel_rfl) (by kernel_rfl) (by kernel_rfl) (fun _ _ _ h => h) rfl rfl (Sx.st_selT [true, true, false] h) (fun w_ hS => Sx.ov_move _ rfl) ?_
       refine Sx.wa_take 5 rfl (by kernel_rfl) (by kernel_rfl) (by kernel_rfl) (fun _ _ _ h => h) rfl rfl (Sx.st_selT [true, true, false] h) (fun w_ hS => by exact Sx.ov_slices _ ((b : Int).toNat) ((s).size) (by rfl) (by exact ⟨_, _, rfl, (by omega)⟩) (by exact rfl) Try.underlying9 (by omega) (by omega)) ?_
       refine Sx.wa_take 6 rfl (by kernel_rfl) (by kernel_rfl) (by kernel_rfl) (fun _ _ _ h => h) rfl rfl (Sx.st_selT [true, true, false] h) (fun w_ hS => Sx.ov_bin _ rfl rfl (Sx.binR_adds (by first | omega | (have h7_ := hs3 (by omega); omega) | (simp only [size_app]; omega)))) ?_
       refine Sx.wa_take 7 rfl (by kernel_rfl) (by kernel_rfl) (by kernel_rfl) (fun _ _ _ h => h) rfl rfl (Sx.st_selT [true, true, false] h) (fun w_ hS => Sx.ov_loadbN 0 [.int .i64 (((nlc s (a : Int).toNat) : Int)), .int .i64 (((((nlc s ((b - 1) : Int).toNat) : Int)) - (((nlc s (a : Int).toNat) : Int))) + 1), .int .i64 (0)] hS rfl rfl sh41 rfl) ?_
       refine Sx.wa_take 8 rfl (by kernel_rfl) (by kernel_rfl) (by kernel_rfl) (fun _ _ _ h => h) rfl rfl (Sx.st_selT [true, true, false] h) (fun w_ hS => Sx.ov_assign _ rfl) ?_
       refine Sx.wa_one 9 rfl (by kernel_rfl) ?_
       refine Sx.wl_storebN 2 [.int .i64 (((nlc s (a : Int).toNat) : Int)), .int .i64 (((((nlc s ((b - 1) : Int).toNat) : Int)) - (((nlc s (a : Int).toNat) : Int))) + 1), .int .i64 (0)] [.int .i64 (((nlc s (a : Int).toNat) : Int)), .int .i64 (((((nlc s ((b - 1) : Int).toNat) : Int)) - (((nlc s (a : Int).toNat) : Int))) + 1), .int .i64 (0)] h rfl rfl rfl rfl (by simp [Value.oneCell']) sh41 rfl rfl (fun _ h => ?_)
       refine Sx.wl_nil ?_
       refine Sx.qn_wa (Sx.st_selT [true, true, false] h) ?_
       refine Sx.wa_take 10 rfl (by kernel_rfl) (by kernel_rfl) (by kernel_rfl) (fun _ _ _ h => h) rfl rfl (Sx.st_selT [true, true, false] h) (fun w_ hS => Sx.ov_assign _ rfl) ?_
       refine Sx.wa_done (by kernel_rfl) ?_
       refine Sx.qn_then ?_
       refine Sx.wc_ret ?_
       have hend_ := h
       replace h := Sx.st_selT [false, false, false] h
       refine Sx.qn_ret [_, _, _] ⟨rfl, ⟨_, rfl, Sx.loadVarN (vs := [.int .i64 (((nlc s (a : Int).toNat) : Int)), .int .i64 (((((nlc s ((b - 1) : Int).toNat) : Int)) - (((nlc s (a : Int).toNat) : Int))) + 1), .int .i64 (0)]) sh41 (Sx.blk_cells (cells := [.int .i64 (((nlc s (a : Int).toNat) : Int)), .int .i64 (((((nlc s ((b - 1) : Int).toNat) : Int)) - (((nlc s (a : Int).toNat) : Int))) + 1), .int .i64 (0)]) hend_ (i := 2) rfl 0 _ rfl)⟩, rfl, trivial⟩ ?_
       refine ⟨iv_eq hiv.2.2.2.1.symm hiv.2.2.2.2.2.1.symm ?_ ?_ hiv.2.2.2.2.1.symm, h⟩ <;> (rcases hiv.2.2.2.2.2.2.2.2.2 with ⟨h4_, h5_, h6_⟩ | ⟨h4_, h5_, h6_⟩ <;> first | omega | (have := hs3 (by omega); omega))
    ·
     refine Sx.wl_skip rfl rfl ?_
     refine Sx.wl_skip rfl rfl ?_
     refine Sx.wl_skip rfl rfl ?_
     refine Sx.wl_skip rfl rfl ?_
     refine Sx.wl_skip rfl rfl ?_
     refine Sx.wl_v rfl rfl (Sx.ov_pick_false _ rfl rfl) ?_
     refine Sx.wl_nil ?_
     refine Sx.qn_then ?_
     refine Sx.wc_cond_false rfl ?_
     refine Sx.wc_skip ?_
     refine Sx.qn_then ?_
     refine Sx.wc_seq ?_
     refine Sx.wc_draw (fun w => Sx.St w0 F0 ([Sx.blk b6 [.int .i64 (((nlc s (a : Int).toNat) : Int)), .int .i64 (((((nlc s ((b - 1) : Int).toNat) : Int)) - (((nlc s (a : Int).toNat) : Int))) + 1), .int .i64 (0)] 41, Sx.row (Kd.int .i64) 3 (some ad8) (cp5) (startsOf s), Sx.blk b1 [.int .i64 (0), .int .i64 (0), .int .i64 (0)] 41] ++ R) w) (by kernel_rfl) ?_
     replace h := Sx.st_drew h
     refine Sx.wa_take 0 rfl (by kernel_rfl) (by kernel_rfl) (by kernel_rfl) (fun _ _ _ h => h) rfl rfl (Sx.st_selT [true, true, true] h) (fun w_ hS => Sx.ov_move _ rfl) ?_
     refine Sx.wa_take 1 rfl (by kernel_rfl) (by kernel_rfl) (by kernel_rfl) (fun _ _ _ h => h) rfl rfl (Sx.st_selT [true, true, true] h) (fun w_ hS => Sx.ov_move _ rfl) ?_
     refine Sx.wa_take 2 rfl (by kernel_rfl) (by kernel_rfl) (by kernel_rfl) (fun _ _ _ h => h) rfl rfl (Sx.st_selT [true, true, true] h) (fun w_ hS => Sx.ov_fieldAddr _ ⟨b6, 1, none⟩ _ rfl fo41_1 rfl) ?_
     refine Sx.wa_take 3 rfl (by kernel_rfl) (by kernel_rfl) (by kernel_rfl) (fun _ _ _ h => h) rfl rfl (Sx.st_selT [true, true, true] h) (fun w_ hS => Sx.ov_loadb 0 _ hS rfl rfl sh3 rfl) ?_
     refine Sx.wa_take 4 rfl (by kernel_rfl) (by kernel_rfl) (by kernel_rfl) (fun _ _ _ h => h) rfl rfl (Sx.st_selT [true, true, true] h) (fun w_ hS => Sx.ov_bin _ rfl rfl (Sx.binR_add (r := (((nlc s (a : Int).toNat) : Int)) + (((((nlc s ((b - 1) : Int).toNat) : Int)) - (((nlc s (a : Int).toNat) : Int))) + 1)) (Sx.w64 (by first | omega | (have h7_ := hs3 (by omega); omega) | (simp only [size_app]; omega))))) ?_
     refine Sx.wa_take 5 rfl (by kernel_rfl) (by kernel_rfl) (by kernel_rfl) (fun _ _ _ h => h) rfl rfl (Sx.st_selT [true, true, true] h) (fun w_ hS => Sx.ov_indexAddrN _ _ _ _ _ (((nlc s (a : Int).toNat)) + ((((((nlc s ((b - 1) : Int).toNat)) - ((nlc s (a : Int).toNat)))) + 1))) rfl rfl es23 (by omega) (by first | assumption | omega | (simp only [List.length_take, List.length_drop, List.length_set]; omega))) ?_
     refine Sx.wa_take 6 rfl (by kernel_rfl) (by kernel_rfl) (by kernel_rfl) (fun _ _ _ h => h) rfl rfl (Sx.st_selT [true, true, true] h) (fun w_ hS => by
         obtain ⟨cl30, _, hk29, hc28⟩ := Sx.C_cells ((Sx.row_reads hS (i := 1) rfl).2) (z := (0 : Int)) (k := (((nlc s (a : Int).toNat)) + ((((((nlc s ((b - 1) : Int).toNat)) - ((nlc s (a : Int).toNat)))) + 1)))) (by first | assumption | omega)
         obtain rfl : cl30 = [.int .i64 _] := hk29
         exact Sx.ov_load1 _ _ rfl sh3 ((hc28 0 _ rfl))) ?_
     refine Sx.wa_take 7 rfl (by kernel_rfl) (by kernel_rfl) (by kernel_rfl) (fun _ _ _ h => h) rfl rfl (Sx.st_selT [true, true, true] h) (fun w_ hS => Sx.ov_move _ rfl) ?_
     refine Sx.wa_take 8 rfl (by kernel_rfl) (by kernel_rfl) (by kernel_rfl) (fun _ _ _ h => h) rfl rfl (Sx.st_selT [true, true, true] h) (fun w_ hS => Sx.ov_move _ rfl) ?_
     refine Sx.wa_take 9 rfl (by kernel_rfl) (by kernel_rfl) (by kernel_rfl) (fun _ _ _ h => h) rfl rfl (Sx.st_selT [true, true, true] h) (fun w_ hS => Sx.ov_indexAddrN _ _ _ _ _ (nlc s (a : Int).toNat) rfl rfl es23 rfl (by first | assumption | omega | (simp only [List.length_take, List.length_drop, List.length_set]; omega))) ?_
     refine Sx.wa_take 10 rfl (by kernel_rfl) (by kernel_rfl) (by kernel_rfl) (fun _ _ _ h => h) rfl rfl (Sx.st_selT [true, true, true] h) (fun w_ hS => by
         obtain ⟨cl33, _, hk32, hc31⟩ := Sx.C_cells ((Sx.row_reads hS (i := 1) rfl).2) (z := (0 : Int)) (k := (nlc s (a : Int).toNat)) (by first | assumption | omega)
         obtain rfl : cl33 = [.int .i64 _] := hk32
         exact Sx.ov_load1 _ _ rfl sh3 ((hc31 0 _ rfl))) ?_
     refine Sx.wa_take 11 rfl (by kernel_rfl) (by kernel_rfl) (by kernel_rfl) (fun _ _ _ h => h) rfl rfl (Sx.st_selT [true, true, true] h) (fun w_ hS => Sx.ov_bin _ rfl rfl (Sx.binR_sub (r := ((startsOf s).getD (((nlc s (a : Int).toNat)) + ((((((nlc s ((b - 1) : Int).toNat)) - ((nlc s (a : Int).toNat)))) + 1))) (0 : Int)) - ((startsOf s).getD (nlc s (a : Int).toNat) (0 : Int))) (Sx.w64 (by first | omega | (have h7_ := hs3 (by omega); omega) | (simp only [size_app]; omega))))) ?_
     refine Sx.wa_take 12 rfl (by kernel_rfl) (by kernel_rfl) (by kernel_rfl) (fun _ _ _ h => h) rfl rfl (Sx.st_selT [true, true, true] h) (fun w_ hS => Sx.ov_move _ rfl) ?_
     refine Sx.wa_take 13 rfl (by kernel_rfl) (by kernel_rfl) (by kernel_rfl) (fun _ _ _ h => h) rfl rfl (Sx.st_selT [true, true, true] h) (fun w_ hS => Sx.ov_move _ rfl) ?_
     refine Sx.wa_take 14 rfl (by kernel_rfl) (by kernel_rfl) (by kernel_rfl) (fun _ _ _ h => h) rfl rfl (Sx.st_selT [true, true, true] h) (fun w_ hS => Sx.ov_bin _ rfl rfl (Sx.binR_sub (r := b - a) (Sx.w64 (by first | omega | (have h7_ := hs3 (by omega); omega) | (simp only [size_app]; omega))))) ?_
     refine Sx.wa_take 15 rfl (by kernel_rfl) (by kernel_rfl) (by kernel_rfl) (fun _ _ _ h => h) rfl rfl (Sx.st_selT [true, true, true] h) (fun w_ hS => Sx.ov_bin _ rfl rfl (Sx.binR_sub (r := (((startsOf s).getD (((nlc s (a : Int).toNat)) + ((((((nlc s ((b - 1) : Int).toNat)) - ((nlc s (a : Int).toNat)))) + 1))) (0 : Int)) - ((startsOf s).getD (nlc s (a : Int).toNat) (0 : Int))) - (b - a)) (Sx.w64 (by first | omega | (have h7_ := hs3 (by omega); omega) | (simp only [size_app]; omega))))) ?_
     refine Sx.wa_take 16 rfl (by kernel_rfl) (by kernel_rfl) (by kernel_rfl) (fun _ _ _ h => h) rfl rfl (Sx.st_selT [true, true, true] h) (fun w_ hS => Sx.ov_assign _ rfl) ?_
     refine Sx.wa_done (by kernel_rfl) ?_
     refine Sx.qn_then ?_
     refine Sx.wc_seq ?_
     refine Sx.wc_seq ?_
     refine Sx.wc_region ?_
     refine Sx.wl_v rfl rfl (Sx.ov_move _ rfl) ?_
     refine Sx.wl_v rfl rfl (Sx.ov_bin _ rfl rfl (Sx.binR_gtr)) ?_
     refine Sx.wl_nil ?_
     refine Sx.qn_then ?_
     refine Sx.wc_cond (by rfl) (fun c34 => ?_) (fun c34 => ?_)
     ·
      refine Sx.wc_region ?_
      refine Sx.wl_v rfl rfl (Sx.ov_fieldAddr _ ⟨b6, 2, none⟩ _ rfl fo41_2 rfl) ?_
      refine Sx.wl_storeb 0 _ [.int .i64 (((nlc s (a : Int).toNat) : Int)), .int .i64 (((((nlc s ((b - 1) : Int).toNat) : Int)) - (((nlc s (a : Int).toNat) : Int))) + 1), .int .i64 (1)] h rfl rfl rfl rfl rfl rfl sh3 rfl rfl (fun _ h => ?_)
      refine Sx.wl_nil ?_
      refine Sx.qn_then ?_
      refine Sx.wc_seq ?_
      refine Sx.wc_draw (fun w => Sx.St w0 F0 ([Sx.blk b6 [.int .i64 (((nlc s (a : Int).toNat) : Int)), .int .i64 (((((nlc s ((b - 1) : Int).toNat) : Int)) - (((nlc s (a : Int).toNat) : Int))) + 1), .int .i64 (1)] 41, Sx.row (Kd.int .i64) 3 (some ad8) (cp5) (startsOf s)] ++ R) w) (by kernel_rfl) ?_
      replace h := Sx.st_drew h
      refine Sx.wa_take 0 rfl (by kernel_rfl) (by kernel_rfl) (by kernel_rfl) (fun _ _ _ h => h) rfl rfl (Sx.st_selT [true, true, false] h) (fun w_ hS => Sx.ov_move _ rfl) ?_
      refine Sx.wa_take 1 rfl (by kernel_rfl) (by kernel_rfl) (by kernel_rfl) (fun _ _ _ h => h) rfl rfl (Sx.st_selT [true, true, false] h) (fun w_ hS => Sx.ov_move _ rfl) ?_
      refine Sx.wa_take 2 rfl (by kernel_rfl) (by kernel_rfl) (by kernel_rfl) (fun _ _ _ h => h) rfl rfl (Sx.st_selT [true, true, false] h) (fun w_ hS => by exact Sx.ov_slices _ 0 ((a : Int).toNat) (by rfl) (by exact rfl) (by exact ⟨_, _, rfl, (by omega)⟩) Try.underlying9 (by omega) (by omega)) ?_
      refine Sx.wa_take 3 rfl (by kernel_rfl) (by kernel_rfl) (by kernel_rfl) (fun _ _ _ h => h) rfl rfl (Sx.st_selT [true, true, false] h) (fun w_ hS => Sx.ov_move _ rfl) ?_
      refine Sx.wa_take 4 rfl (by kernel_rfl) (by kernel_rfl) (by kernel_rfl) (fun _ _ _ h => h) rfl rfl (Sx.st_selT [true, true, false] h) (fun w_ hS => Sx.ov_move _ rfl) ?_
      refine Sx.wa_take 5 rfl (by kernel_rfl) (by kernel_rfl) (by kernel_rfl) (fun _ _ _ h => h) rfl rfl (Sx.st_selT [true, true, false] h) (fun w_ hS => by exact Sx.ov_slices _ ((b : Int).toNat) ((s).size) (by rfl) (by exact ⟨_, _, rfl, (by omega)⟩) (by exact rfl) Try.underlying9 (by omega) (by omega)) ?_
      refine Sx.wa_take 6 rfl (by kernel_rfl) (by kernel_rfl) (by kernel_rfl) (fun _ _ _ h => h) rfl rfl (Sx.st_selT [true, true, false] h) (fun w_ hS => Sx.ov_bin _ rfl rfl (Sx.binR_adds (by first | omega | (have h7_ := hs3 (by omega); omega) | (simp only [size_app]; omega)))) ?_
      refine Sx.wa_take 7 rfl (by kernel_rfl) (by kernel_rfl) (by kernel_rfl) (fun _ _ _ h => h) rfl rfl (Sx.st_selT [true, true, false] h) (fun w_ hS => Sx.ov_loadbN 0 [.int .i64 (((nlc s (a : Int).toNat) : Int)), .int .i64 (((((nlc s ((b - 1) : Int).toNat) : Int)) - (((nlc s (a : Int).toNat) : Int))) + 1), .int .i64 (1)] hS rfl rfl sh41 rfl) ?_
      refine Sx.wa_take 8 rfl (by kernel_rfl) (by kernel_rfl) (by kernel_rfl) (fun _ _ _ h => h) rfl rfl (Sx.st_selT [true, true, false] h) (fun w_ hS => Sx.ov_assign _ rfl) ?_
      refine Sx.wa_one 9 rfl (by kernel_rfl) ?_
      refine Sx.wl_storebN 2 [.int .i64 (((nlc s (a : Int).toNat) : Int)), .int .i64 (((((nlc s ((b - 1) : Int).toNat) : Int)) - (((nlc s (a : Int).toNat) : Int))) + 1), .int .i64 (1)] [.int .i64 (((nlc s (a : Int).toNat) : Int)), .int .i64 (((((nlc s ((b - 1) : Int).toNat) : Int)) - (((nlc s (a : Int).toNat) : Int))) + 1), .int .i64 (1)] h rfl rfl rfl rfl (by simp [Value.oneCell']) sh41 rfl rfl (fun _ h => ?_)
      refine Sx.wl_nil ?_
      refine Sx.qn_wa (Sx.st_selT [true, true, false] h) ?_
      refine Sx.wa_take 10 rfl (by kernel_rfl) (by kernel_rfl) (by kernel_rfl) (fun _ _ _ h => h) rfl rfl (Sx.st_selT [true, true, false] h) (fun w_ hS => Sx.ov_assign _ rfl) ?_
      refine Sx.wa_done (by kernel_rfl) ?_
      refine Sx.qn_then ?_
      refine Sx.wc_ret ?_
      have hend_ := h
      replace h := Sx.st_selT [false, false, false] h
      refine Sx.qn_ret [_, _, _] ⟨rfl, ⟨_, rfl, Sx.loadVarN (vs := [.int .i64 (((nlc s (a : Int).toNat) : Int)), .int .i64 (((((nlc s ((b - 1) : Int).toNat) : Int)) - (((nlc s (a : Int).toNat) : Int))) + 1), .int .i64 (1)]) sh41 (Sx.blk_cells (cells := [.int .i64 (((nlc s (a : Int).toNat) : Int)), .int .i64 (((((nlc s ((b - 1) : Int).toNat) : Int)) - (((nlc s (a : Int).toNat) : Int))) + 1), .int .i64 (1)]) hend_ (i := 2) rfl 0 _ rfl)⟩, rfl, trivial⟩ ?_
      refine ⟨iv_eq hiv.2.2.2.1.symm hiv.2.2.2.2.2.1.symm ?_ ?_ hiv.2.2.2.2.1.symm, h⟩ <;> (rcases hiv.2.2.2.2.2.2.2.2.2 with ⟨h4_, h5_, h6_⟩ | ⟨h4_, h5_, h6_⟩ <;> first | omega | (have := hs3 (by omega); omega))
     ·
      refine Sx.wc_skip ?_
      refine Sx.qn_then ?_
      refine Sx.wc_seq ?_
      refine Sx.wc_draw (fun w => Sx.St w0 F0 ([Sx.blk b6 [.int .i64 (((nlc s (a : Int).toNat) : Int)), .int .i64 (((((nlc s ((b - 1) : Int).toNat) : Int)) - (((nlc s (a : Int).toNat) : Int))) + 1), .int .i64 (0)] 41, Sx.row (Kd.int .i64) 3 (some ad8) (cp5) (startsOf s)] ++ R) w) (by kernel_rfl) ?_
      replace h := Sx.st_drew h
      refine Sx.wa_take 0 rfl (by kernel_rfl) (by kernel_rfl) (by kernel_rfl) (fun _ _ _ h => h) rfl rfl (Sx.st_selT [true, true, false] h) (fun w_ hS => Sx.ov_move _ rfl) ?_
      refine Sx.wa_take 1 rfl (by kernel_rfl) (by kernel_rfl) (by kernel_rfl) (fun _ _ _ h => h) rfl rfl (Sx.st_selT [true, true, false] h) (fun w_ hS => Sx.ov_move _ rfl) ?_
      refine Sx.wa_take 2 rfl (by kernel_rfl) (by kernel_rfl) (by kernel_rfl) (fun _ _ _ h => h) rfl rfl (Sx.st_selT [true, true, false] h) (fun w_ hS => by exact Sx.ov_slices _ 0 ((a : Int).toNat) (by rfl) (by exact rfl) (by exact ⟨_, _, rfl, (by omega)⟩) Try.underlying9 (by omega) (by omega)) ?_
      refine Sx.wa_take 3 rfl (by kernel_rfl) (by kernel_rfl) (by kernel_rfl) (fun _ _ _ h => h) rfl rfl (Sx.st_selT [true, true, false] h) (fun w_ hS => Sx.ov_move _ rfl) ?_
      refine Sx.wa_take 4 rfl (by kernel_rfl) (by kernel_rfl) (by kernel_rfl) (fun _ _ _ h => h) rfl rfl (Sx.st_selT [true, true, false] h) (fun w_ hS => Sx.ov_move _ rfl) ?_
      refine Sx.wa_take 5 rfl (by kernel_rfl) (by kernel_rfl) (by kernel_rfl) (fun _ _ _ h => h) rfl rfl (Sx.st_selT [true, true, false] h) (fun w_ hS => by exact Sx.ov_slices _ ((b : Int).toNat) ((s).size) (by rfl) (by exact ⟨_, _, rfl, (by omega)⟩) (by exact rfl) Try.underlying9 (by omega) (by omega)) ?_
      refine Sx.wa_take 6 rfl (by kernel_rfl) (by kernel_rfl) (by kernel_rfl) (fun _ _ _ h => h) rfl rfl (Sx.st_selT [true, true, false] h) (fun w_ hS => Sx.ov_bin _ rfl rfl (Sx.binR_adds (by first | omega | (have h7_ := hs3 (by omega); omega) | (simp only [size_app]; omega)))) ?_
      refine Sx.wa_take 7 rfl (by kernel_rfl) (by kernel_rfl) (by kernel_rfl) (fun _ _ _ h => h) rfl rfl (Sx.st_selT [true, true, false] h) (fun w_ hS => Sx.ov_loadbN 0 [.int .i64 (((nlc s (a : Int).toNat) : Int)), .int .i64 (((((nlc s ((b - 1) : Int).toNat) : Int)) - (((nlc s (a : Int).toNat) : Int))) + 1), .int .i64 (0)] hS rfl rfl sh41 rfl) ?_
      refine Sx.wa_take 8 rfl (by kernel_rfl) (by kernel_rfl) (by kernel_rfl) (fun _ _ _ h => h) rfl rfl (Sx.st_selT [true, true, false] h) (fun w_ hS => Sx.ov_assign _ rfl) ?_
      refine Sx.wa_one 9 rfl (by kernel_rfl) ?_
      refine Sx.wl_storebN 2 [.int .i64 (((nlc s (a : Int).toNat) : Int)), .int .i64 (((((nlc s ((b - 1) : Int).toNat) : Int)) - (((nlc s (a : Int).toNat) : Int))) + 1), .int .i64 (0)] [.int .i64 (((nlc s (a : Int).toNat) : Int)), .int .i64 (((((nlc s ((b - 1) : Int).toNat) : Int)) - (((nlc s (a : Int).toNat) : Int))) + 1), .int .i64 (0)] h rfl rfl rfl rfl (by simp [Value.oneCell']) sh41 rfl rfl (fun _ h => ?_)
      refine Sx.wl_nil ?_
      refine Sx.qn_wa (Sx.st_selT [true, true, false] h) ?_
      refine Sx.wa_take 10 rfl (by kernel_rfl) (by kernel_rfl) (by kernel_rfl) (fun _ _ _ h => h) rfl rfl (Sx.st_selT [true, true, false] h) (fun w_ hS => Sx.ov_assign _ rfl) ?_
      refine Sx.wa_done (by kernel_rfl) ?_
      refine Sx.qn_then ?_
      refine Sx.wc_ret ?_
      have hend_ := h
      replace h := Sx.st_selT [false, false, false] h
      refine Sx.qn_ret [_, _, _] ⟨rfl, ⟨_, rfl, Sx.loadVarN (vs := [.int .i64 (((nlc s (a : Int).toNat) : Int)), .int .i64 (((((nlc s ((b - 1) : Int).toNat) : Int)) - (((nlc s (a : Int).toNat) : Int))) + 1), .int .i64 (0)]) sh41 (Sx.blk_cells (cells := [.int .i64 (((nlc s (a : Int).toNat) : Int)), .int .i64 (((((nlc s ((b - 1) : Int).toNat) : Int)) - (((nlc s (a : Int).toNat) : Int))) + 1), .int .i64 (0)]) hend_ (i := 2) rfl 0 _ rfl)⟩, rfl, trivial⟩ ?_
      refine ⟨iv_eq hiv.2.2.2.1.symm hiv.2.2.2.2.2.1.symm ?_ ?_ hiv.2.2.2.2.1.symm, h⟩ <;> (rcases hiv.2.2.2.2.2.2.2.2.2 with ⟨h4_, h5_, h6_⟩ | ⟨h4_, h5_, h6_⟩ <;> first | omega | (have := hs3 (by omega); omega))
   ·
    refine Sx.wl_skip rfl rfl ?_
    refine Sx.wl_skip rfl rfl ?_
    refine Sx.wl_skip rfl rfl ?_
    refine Sx.wl_skip rfl rfl ?_
    refine Sx.wl_skip rfl rfl ?_
    refine Sx.wl_skip rfl rfl ?_
    refine Sx.wl_v rfl rfl (Sx.ov_pick_false _ rfl rfl) ?_
    refine Sx.wl_v rfl rfl (Sx.ov_move _ rfl) ?_
    refine Sx.wl_skip rfl rfl ?_
    refine Sx.wl_skip rfl rfl ?_
    refine Sx.wl_skip rfl rfl ?_
    refine Sx.wl_skip rfl rfl ?_
    refine Sx.wl_skip rfl rfl ?_
    refine Sx.wl_v rfl rfl (Sx.ov_pick_false _ rfl rfl) ?_
    refine Sx.wl_nil ?_
    refine Sx.qn_then ?_
    refine Sx.wc_cond_false rfl ?_
    refine Sx.wc_skip ?_
    refine Sx.qn_then ?_
    refine Sx.wc_seq ?_
    refine Sx.wc_draw (fun w => Sx.St w0 F0 ([Sx.blk b6 [.int .i64 (((nlc s (a : Int).toNat) : Int)), .int .i64 (((((nlc s ((b - 1) : Int).toNat) : Int)) - (((nlc s (a : Int).toNat) : Int))) + 1), .int .i64 (0)] 41, Sx.row (Kd.int .i64) 3 (A4) (cp5) (startsOf s), Sx.blk b1 [.int .i64 (0), .int .i64 (0), .int .i64 (0)] 41] ++ R) w) (by kernel_rfl) ?_
    replace h := Sx.st_drew h
    refine Sx.wa_take 0 rfl (by kernel_rfl) (by kernel_rfl) (by kernel_rfl) (fun _ _ _ h => h) rfl rfl (Sx.st_selT [true, true, true] h) (fun w_ hS => Sx.ov_move _ rfl) ?_
    refine Sx.wa_take 1 rfl (by kernel_rfl) (by kernel_rfl) (by kernel_rfl) (fun _ _ _ h => h) rfl rfl (Sx.st_selT [true, true, true] h) (fun w_ hS => Sx.ov_move _ rfl) ?_
    refine Sx.wa_take 2 rfl (by kernel_rfl) (by kernel_rfl) (by kernel_rfl) (fun _ _ _ h => h) rfl rfl (Sx.st_selT [true, true, true] h) (fun w_ hS => Sx.ov_fieldAddr _ ⟨b6, 1, none⟩ _ rfl fo41_1 rfl) ?_
    refine Sx.wa_take 3 rfl (by kernel_rfl) (by kernel_rfl) (by kernel_rfl) (fun _ _ _ h => h) rfl rfl (Sx.st_selT [true, true, true] h) (fun w_ hS => Sx.ov_loadb 0 _ hS rfl rfl sh3 rfl) ?_
    refine Sx.wa_take 4 rfl (by kernel_rfl) (by kernel_rfl) (by kernel_rfl) (fun _ _ _ h => h) rfl rfl (Sx.st_selT [true, true, true] h) (fun w_ hS => Sx.ov_bin _ rfl rfl (Sx.binR_add (r := (((nlc s (a : Int).toNat) : Int)) + (((((nlc s ((b - 1) : Int).toNat) : Int)) - (((nlc s (a : Int).toNat) : Int))) + 1)) (Sx.w64 (by first | omega | (have h7_ := hs3 (by omega); omega) | (simp only [size_app]; omega))))) ?_
    obtain ⟨ad35, rfl⟩ := Sx.C_some ((Sx.row_reads h (i := 1) rfl).2) (k := (((nlc s (a : Int).toNat)) + ((((((nlc s ((b - 1) : Int).toNat)) - ((nlc s (a : Int).toNat)))) + 1)))) (by first | assumption | omega)
    refine Sx.wa_take 5 rfl (by kernel_rfl) (by kernel_rfl) (by kernel_rfl) (fun _ _ _ h => h) rfl rfl (Sx.st_selT [true, true, true] h) (fun w_ hS => Sx.ov_indexAddrN _ _ _ _ _ (((nlc s (a : Int).toNat)) + ((((((nlc s ((b - 1) : Int).toNat)) - ((nlc s (a : Int).toNat)))) + 1))) rfl rfl es23 (by omega) (by first | assumption | omega | (simp only [List.length_take, List.length_drop, List.length_set]; omega))) ?_
    refine Sx.wa_take 6 rfl (by kernel_rfl) (by kernel_rfl) (by kernel_rfl) (fun _ _ _ h => h) rfl rfl (Sx.st_selT [true, true, true] h) (fun w_ hS => by
        obtain ⟨cl38, _, hk37, hc36⟩ := Sx.C_cells ((Sx.row_reads hS (i := 1) rfl).2) (z := (0 : Int)) (k := (((nlc s (a : Int).toNat)) + ((((((nlc s ((b - 1) : Int).toNat)) - ((nlc s (a : Int).toNat)))) + 1)))) (by first | assumption | omega)
        obtain rfl : cl38 = [.int .i64 _] := hk37
        exact Sx.ov_load1 _ _ rfl sh3 ((hc36 0 _ rfl))) ?_
    refine Sx.wa_take 7 rfl (by kernel_rfl) (by kernel_rfl) (by kernel_rfl) (fun _ _ _ h => h) rfl rfl (Sx.st_selT [true, true, true] h) (fun w_ hS => Sx.ov_move _ rfl) ?_
    refine Sx.wa_take 8 rfl (by kernel_rfl) (by kernel_rfl) (by kernel_rfl) (fun _ _ _ h => h) rfl rfl (Sx.st_selT [true, true, true] h) (fun w_ hS => Sx.ov_move _ rfl) ?_
    refine Sx.wa_take 9 rfl (by kernel_rfl) (by kernel_rfl) (by kernel_rfl) (fun _ _ _ h => h) rfl rfl (Sx.st_selT [true, true, true] h) (fun w_ hS => Sx.ov_indexAddrN _ _ _ _ _ (nlc s (a : Int).toNat) rfl rfl es23 rfl (by first | assumption | omega | (simp only [List.length_take, List.length_drop, List.length_set]; omega))) ?_
    refine Sx.wa_take 10 rfl (by kernel_rfl) (by kernel_rfl) (by kernel_rfl) (fun _ _ _ h => h) rfl rfl (Sx.st_selT [true, true, true] h) (fun w_ hS => by
        obtain ⟨cl41, _, hk40, hc39⟩ := Sx.C_cells ((Sx.row_reads hS (i := 1) rfl).2) (z := (0 : Int)) (k := (nlc s (a : Int).toNat)) (by first | assumption | omega)
        obtain rfl : cl41 = [.int .i64 _] := hk40
        exact Sx.ov_load1 _ _ rfl sh3 ((hc39 0 _ rfl))) ?_
    refine Sx.wa_take 11 rfl (by kernel_rfl) (by kernel_rfl) (by kernel_rfl) (fun _ _ _ h => h) rfl rfl (Sx.st_selT [true, true, true] h) (fun w_ hS => Sx.ov_bin _ rfl rfl (Sx.binR_sub (r := ((startsOf s).getD (((nlc s (a : Int).toNat)) + ((((((nlc s ((b - 1) : Int).toNat)) - ((nlc s (a : Int).toNat)))) + 1))) (0 : Int)) - ((startsOf s).getD (nlc s (a : Int).toNat) (0 : Int))) (Sx.w64 (by first | omega | (have h7_ := hs3 (by omega); omega) | (simp only [size_app]; omega))))) ?_
    refine Sx.wa_take 12 rfl (by kernel_rfl) (by kernel_rfl) (by kernel_rfl) (fun _ _ _ h => h) rfl rfl (Sx.st_selT [true, true, true] h) (fun w_ hS => Sx.ov_move _ rfl) ?_
    refine Sx.wa_take 13 rfl (by kernel_rfl) (by kernel_rfl) (by kernel_rfl) (fun _ _ _ h => h) rfl rfl (Sx.st_selT [true, true, true] h) (fun w_ hS => Sx.ov_move _ rfl) ?_
    refine Sx.wa_take 14 rfl (by kernel_rfl) (by kernel_rfl) (by kernel_rfl) (fun _ _ _ h => h) rfl rfl (Sx.st_selT [true, true, true] h) (fun w_ hS => Sx.ov_bin _ rfl rfl (Sx.binR_sub (r := b - a) (Sx.w64 (by first | omega | (have h7_ := hs3 (by omega); omega) | (simp only [size_app]; omega))))) ?_
    refine Sx.wa_take 15 rfl (by kernel_rfl) (by kernel_rfl) (by kernel_rfl) (fun _ _ _ h => h) rfl rfl (Sx.st_selT [true, true, true] h) (fun w_ hS => Sx.ov_bin _ rfl rfl (Sx.binR_sub (r := (((startsOf s).getD (((nlc s (a : Int).toNat)) + ((((((nlc s ((b - 1) : Int).toNat)) - ((nlc s (a : Int).toNat)))) + 1))) (0 : Int)) - ((startsOf s).getD (nlc s (a : Int).toNat) (0 : Int))) - (b - a)) (Sx.w64 (by first | omega | (have h7_ := hs3 (by omega); omega) | (simp only [size_app]; omega))))) ?_
    refine Sx.wa_take 16 rfl (by kernel_rfl) (by kernel_rfl) (by kernel_rfl) (fun _ _ _ h => h) rfl rfl (Sx.st_selT [true, true, true] h) (fun w_ hS => Sx.ov_assign _ rfl) ?_
    refine Sx.wa_done (by kernel_rfl) ?_
    refine Sx.qn_then ?_
    refine Sx.wc_seq ?_
    refine Sx.wc_seq ?_
    refine Sx.wc_region ?_
    refine Sx.wl_v rfl rfl (Sx.ov_move _ rfl) ?_
    refine Sx.wl_v rfl rfl (Sx.ov_bin _ rfl rfl (Sx.binR_gtr)) ?_
    refine Sx.wl_nil ?_
    refine Sx.qn_then ?_
    refine Sx.wc_cond (by rfl) (fun c42 => ?_) (fun c42 => ?_)
    ·
     refine Sx.wc_region ?_
     refine Sx.wl_v rfl rfl (Sx.ov_fieldAddr _ ⟨b6, 2, none⟩ _ rfl fo41_2 rfl) ?_
     refine Sx.wl_storeb 0 _ [.int .i64 (((nlc s (a : Int).toNat) : Int)), .int .i64 (((((nlc s ((b - 1) : Int).toNat) : Int)) - (((nlc s (a : Int).toNat) : Int))) + 1), .int .i64 (1)] h rfl rfl rfl rfl rfl rfl sh3 rfl rfl (fun _ h => ?_)
     refine Sx.wl_nil ?_
     refine Sx.qn_then ?_
     refine Sx.wc_seq ?_
     refine Sx.wc_draw (fun w => Sx.St w0 F0 ([Sx.blk b6 [.int .i64 (((nlc s (a : Int).toNat) : Int)), .int .i64 (((((nlc s ((b - 1) : Int).toNat) : Int)) - (((nlc s (a : Int).toNat) : Int))) + 1), .int .i64 (1)] 41, Sx.row (Kd.int .i64) 3 (some ad35) (cp5) (startsOf s)] ++ R) w) (by kernel_rfl) ?_
     replace h := Sx.st_drew h
     refine Sx.wa_take 0 rfl (by kernel_rfl) (by kernel_rfl) (by kernel_rfl) (fun _ _ _ h => h) rfl rfl (Sx.st_selT [true, true, false] h) (fun w_ hS => Sx.ov_move _ rfl) ?_
     refine Sx.wa_take 1 rfl (by kernel_rfl) (by kernel_rfl) (by kernel_rfl) (fun _ _ _ h => h) rfl rfl (Sx.st_selT [true, true, false] h) (fun w_ hS => Sx.ov_move _ rfl) ?_
     refine Sx.wa_take 2 rfl (by kernel_rfl) (by kernel_rfl) (by kernel_rfl) (fun _ _ _ h => h) rfl rfl (Sx.st_selT [true, true, false] h) (fun w_ hS => by exact Sx.ov_slices _ 0 ((a : Int).toNat) (by rfl) (by exact rfl) (by exact ⟨_, _, rfl, (by omega)⟩) Try.underlying9 (by omega) (by omega)) ?_
     refine Sx.wa_take 3 rfl (by kernel_rfl) (by kernel_rfl) (by kernel_rfl) (fun _ _ _ h => h) rfl rfl (Sx.st_selT [true, true, false] h) (fun w_ hS => Sx.ov_move _ rfl) ?_
     refine Sx.wa_take 4 rfl (by kernel_rfl) (by kernel_rfl) (by kernel_rfl) (fun _ _ _ h => h) rfl rfl (Sx.st_selT [true, true, false] h) (fun w_ hS => Sx.ov_move _ rfl) ?_
     refine Sx.wa_take 5 rfl (by kernel_rfl) (by kernel_rfl) (by kernel_rfl) (fun _ _ _ h => h) rfl rfl (Sx.st_selT [true, true, false] h) (fun w_ hS => by exact Sx.ov_slices _ ((b : Int).toNat) ((s).size) (by rfl) (by exact ⟨_, _, rfl, (by omega)⟩) (by exact rfl) Try.underlying9 (by omega) (by omega)) ?_
     refine Sx.wa_take 6 rfl (by kernel_rfl) (by kernel_rfl) (by kernel_rfl) (fun _ _ _ h => h) rfl rfl (Sx.st_selT [true, true, false] h) (fun w_ hS => Sx.ov_bin _ rfl rfl (Sx.binR_adds (by first | omega | (have h7_ := hs3 (by omega); omega) | (simp only [size_app]; omega)))) ?_
     refine Sx.wa_take 7 rfl (by kernel_rfl) (by kernel_rfl) (by kernel_rfl) (fun _ _ _ h => h) rfl rfl (Sx.st_selT [true, true, false] h) (fun w_ hS => Sx.ov_loadbN 0 [.int .i64 (((nlc s (a : Int).toNat) : Int)), .int .i64 (((((nlc s ((b - 1) : Int).toNat) : Int)) - (((nlc s (a : Int).toNat) : Int))) + 1), .int .i64 (1)] hS rfl rfl sh41 rfl) ?_
     refine Sx.wa_take 8 rfl (by kernel_rfl) (by kernel_rfl) (by kernel_rfl) (fun _ _ _ h => h) rfl rfl (Sx.st_selT [true, true, false] h) (fun w_ hS => Sx.ov_assign _ rfl) ?_
     refine Sx.wa_one 9 rfl (by kernel_rfl) ?_
     refine Sx.wl_storebN 2 [.int .i64 (((nlc s (a : Int).toNat) : Int)), .int .i64 (((((nlc s ((b - 1) : Int).toNat) : Int)) - (((nlc s (a : Int).toNat) : Int))) + 1), .int .i64 (1)] [.int .i64 (((nlc s (a : Int).toNat) : Int)), .int .i64 (((((nlc s ((b - 1) : Int).toNat) : Int)) - (((nlc s (a : Int).toNat) : Int))) + 1), .int .i64 (1)] h rfl rfl rfl rfl (by simp [Value.oneCell']) sh41 rfl rfl (fun _ h => ?_)
     refine Sx.wl_nil ?_
     refine Sx.qn_wa (Sx.st_selT [true, true, false] h) ?_
     refine Sx.wa_take 10 rfl (by kernel_rfl) (by kernel_rfl) (by kernel_rfl) (fun _ _ _ h => h) rfl rfl (Sx.st_selT [true, true, false] h) (fun w_ hS => Sx.ov_assign _ rfl) ?_
     refine Sx.wa_done (by kernel_rfl) ?_
     refine Sx.qn_then ?_
     refine Sx.wc_ret ?_
     have hend_ := h
     replace h := Sx.st_selT [false, false, false] h
     refine Sx.qn_ret [_, _, _] ⟨rfl, ⟨_, rfl, Sx.loadVarN (vs := [.int .i64 (((nlc s (a : Int).toNat) : Int)), .int .i64 (((((nlc s ((b - 1) : Int).toNat) : Int)) - (((nlc s (a : Int).toNat) : Int))) + 1), .int .i64 (1)]) sh41 (Sx.blk_cells (cells := [.int .i64 (((nlc s (a : Int).toNat) : Int)), .int .i64 (((((nlc s ((b - 1) : Int).toNat) : Int)) - (((nlc s (a : Int).toNat) : Int))) + 1), .int .i64 (1)]) hend_ (i := 2) rfl 0 _ rfl)⟩, rfl, trivial⟩ ?_
     refine ⟨iv_eq hiv.2.2.2.1.symm hiv.2.2.2.2.2.1.symm ?_ ?_ hiv.2.2.2.2.1.symm, h⟩ <;> (rcases hiv.2.2.2.2.2.2.2.2.2 with ⟨h4_, h5_, h6_⟩ | ⟨h4_, h5_, h6_⟩ <;> first | omega | (have := hs3 (by omega); omega))
    ·
     refine Sx.wc_skip ?_
     refine Sx.qn_then ?_
     refine Sx.wc_seq ?_
     refine Sx.wc_draw (fun w => Sx.St w0 F0 ([Sx.blk b6 [.int .i64 (((nlc s (a : Int).toNat) : Int)), .int .i64 (((((nlc s ((b - 1) : Int).toNat) : Int)) - (((nlc s (a : Int).toNat) : Int))) + 1), .int .i64 (0)] 41, Sx.row (Kd.int .i64) 3 (some ad35) (cp5) (startsOf s)] ++ R) w) (by kernel_rfl) ?_
     replace h := Sx.st_drew h
     refine Sx.wa_take 0 rfl (by kernel_rfl) (by kernel_rfl) (by kernel_rfl) (fun _ _ _ h => h) rfl rfl (Sx.st_selT [true, true, false] h) (fun w_ hS => Sx.ov_move _ rfl) ?_
     refine Sx.wa_take 1 rfl (by kernel_rfl) (by kernel_rfl) (by kernel_rfl) (fun _ _ _ h => h) rfl rfl (Sx.st_selT [true, true, false] h) (fun w_ hS => Sx.ov_move _ rfl) ?_
     refine Sx.wa_take 2 rfl (by kernel_rfl) (by kernel_rfl) (by kernel_rfl) (fun _ _ _ h => h) rfl rfl (Sx.st_selT [true, true, false] h) (fun w_ hS => by exact Sx.ov_slices _ 0 ((a : Int).toNat) (by rfl) (by exact rfl) (by exact ⟨_, _, rfl, (by omega)⟩) Try.underlying9 (by omega) (by omega)) ?_
     refine Sx.wa_take 3 rfl (by kernel_rfl) (by kernel_rfl) (by kernel_rfl) (fun _ _ _ h => h) rfl rfl (Sx.st_selT [true, true, false] h) (fun w_ hS => Sx.ov_move _ rfl) ?_
     refine Sx.wa_take 4 rfl (by kernel_rfl) (by kernel_rfl) (by kernel_rfl) (fun _ _ _ h => h) rfl rfl (Sx.st_selT [true, true, false] h) (fun w_ hS => Sx.ov_move _ rfl) ?_
     refine Sx.wa_take 5 rfl (by kernel_rfl) (by kernel_rfl) (by kernel_rfl) (fun _ _ _ h => h) rfl rfl (Sx.st_selT [true, true, false] h) (fun w_ hS => by exact Sx.ov_slices _ ((b : Int).toNat) ((s).size) (by rfl) (by exact ⟨_, _, rfl, (by omega)⟩) (by exact rfl) Try.underlying9 (by omega) (by omega)) ?_
     refine Sx.wa_take 6 rfl (by kernel_rfl) (by kernel_rfl) (by kernel_rfl) (fun _ _ _ h => h) rfl rfl (Sx.st_selT [true, true, false] h) (fun w_ hS => Sx.ov_bin _ rfl rfl (Sx.binR_adds (by first | omega | (have h7_ := hs3 (by omega); omega) | (simp only [size_app]; omega)))) ?_
     refine Sx.wa_take 7 rfl (by kernel_rfl) (by kernel_rfl) (by kernel_rfl) (fun _ _ _ h => h) rfl rfl (Sx.st_selT [true, true, false] h) (fun w_ hS => Sx.ov_loadbN 0 [.int .i64 (((nlc s (a : Int).toNat) : Int)), .int .i64 (((((nlc s ((b - 1) : Int).toNat) : Int)) - (((nlc s (a : Int).toNat) : Int))) + 1), .int .i64 (0)] hS rfl rfl sh41 rfl) ?_
     refine Sx.wa_take 8 rfl (by kernel_rfl) (by kernel_rfl) (by kernel_rfl) (fun _ _ _ h => h) rfl rfl (Sx.st_selT [true, true, false] h) (fun w_ hS => Sx.ov_assign _ rfl) ?_
     refine Sx.wa_one 9 rfl (by kernel_rfl) ?_
     refine Sx.wl_storebN 2 [.int .i64 (((nlc s (a : Int).toNat) : Int)), .int .i64 (((((nlc s ((b - 1) : Int).toNat) : Int)) - (((nlc s (a : Int).toNat) : Int))) + 1), .int .i64 (0)] [.int .i64 (((nlc s (a : Int).toNat) : Int)), .int .i64 (((((nlc s ((b - 1) : Int).toNat) : Int)) - (((nlc s (a : Int).toNat) : Int))) + 1), .int .i64 (0)] h rfl rfl rfl rfl (by simp [Value.oneCell']) sh41 rfl rfl (fun _ h => ?_)
     refine Sx.wl_nil ?_
     refine Sx.qn_wa (Sx.st_selT [true, true, false] h) ?_
     refine Sx.wa_take 10 rfl (by kernel_rfl) (by kernel_rfl) (by kernel_rfl) (fun _ _ _ h => h) rfl rfl (Sx.st_selT [true, true, false] h) (fun w_ hS => Sx.ov_assign _ rfl) ?_
     refine Sx.wa_done (by kernel_rfl) ?_
     refine Sx.qn_then ?_
     refine Sx.wc_ret ?_
     have hend_ := h
     replace h := Sx.st_selT [false, false, false] h
     refine Sx.qn_ret [_, _, _] ⟨rfl, ⟨_, rfl, Sx.loadVarN (vs := [.int .i64 (((nlc s (a : Int).toNat) : Int)), .int .i64 (((((nlc s ((b - 1) : Int).toNat) : Int)) - (((nlc s (a : Int).toNat) : Int))) + 1), .int .i64 (0)]) sh41 (Sx.blk_cells (cells := [.int .i64 (((nlc s (a : Int).toNat) : Int)), .int .i64 (((((nlc s ((b - 1) : Int).toNat) : Int)) - (((nlc s (a : Int).toNat) : Int))) + 1), .int .i64 (0)]) hend_ (i := 2) rfl 0 _ rfl)⟩, rfl, trivial⟩ ?_
     refine ⟨iv_eq hiv.2.2.2.1.symm hiv.2.2.2.2.2.1.symm ?_ ?_ hiv.2.2.2.2.1.symm, h⟩ <;> (rcases hiv.2.2.2.2.2.2.2.2.2 with ⟨h4_, h5_, h6_⟩ | ⟨h4_, h5_, h6_⟩ <;> first | omega | (have := hs3 (by omega); omega))
end Go.Proofs.Yteancplgfjhagaa.Paras.E
