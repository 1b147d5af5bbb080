/- The walk of ParasBack. -/
import Derived.Test.YteancplgfjhagaaProg
import Derived.Test.YteancplgfjhagaaSxGlue
import Derived.Test.YteancplgfjhagaaSxKinds
import Derived.Test.YteancplgfjhagaaParasTh
import Derived.Test.YteancplgfjhagaaSxParas
import Derived.Test.YteancplgfjhagaaSxParasB
import Derived.Test.YteancplgfjhagaaSxPlain
import Derived.Test.YteancplgfjhagaaParasIns
import Derived.Test.YteancplgfjhagaaParasDel
import Derived.Test.YteancplgfjhagaaSxEdit
import Derived.Test.YteancplgfjhagaaSxEditB
import Derived.Test.YteancplgfjhagaaSxStep
import Derived.Test.YteancplgfjhagaaSxCopy
namespace Go.Proofs.Yteancplgfjhagaa.Paras.L
open Go Go.RowKit Go.Proofs.YteancplgfjhagaaW.PrintWords Go.Proofs.Yteancplgfjhagaa.Kinds Go.Proofs.Yteancplgfjhagaa.Paras Go.Proofs.Yteancplgfjhagaa.Paras.B Go.Proofs.Yteancplgfjhagaa.Paras.C Go.Proofs.Yteancplgfjhagaa.Paras.D Go.Proofs.Yteancplgfjhagaa.Paras.E Go.Proofs.Yteancplgfjhagaa.Paras.F
set_option linter.unusedVariables false
set_option linter.unusedSimpArgs false
theorem ent11 : Sx.Ent Try.prog 11 := ⟨Try.f11, Try.func11, by kernel_rfl, by kernel_rfl⟩
theorem fo49_3 : Sx.fieldOff Try.prog 49 3 = some 3 := by kernel_rfl
theorem sh9 : Sx.shapeOf Try.prog 9 = some (false, 1) := by kernel_rfl
theorem ent15 : Sx.Ent Try.prog 15 := ⟨Try.f15, Try.func15, by kernel_rfl, by kernel_rfl⟩
theorem fo49_1 : Sx.fieldOff Try.prog 49 1 = some 1 := by kernel_rfl
theorem sh3 : Sx.shapeOf Try.prog 3 = some (false, 1) := by kernel_rfl
theorem ent26 : Sx.Ent Try.prog 26 := ⟨Try.f26, Try.func26, by kernel_rfl, by kernel_rfl⟩
theorem zo41 : Sx.zeroOf Try.prog 41 = some (.agg #[.int .i64 (0), .int .i64 (0), .int .i64 (0)]) := by kernel_rfl
theorem sh41 : Sx.shapeOf Try.prog 41 = some (true, 3) := by kernel_rfl
theorem ent23 : Sx.Ent Try.prog 23 := ⟨Try.f23, Try.func23, by kernel_rfl, by kernel_rfl⟩
theorem ent25 : Sx.Ent Try.prog 25 := ⟨Try.f25, Try.func25, by kernel_rfl, by kernel_rfl⟩

theorem bs_inj {s t : ByteArray} (h : bs s = bs t) : s = t := by
  cases s; cases t
  unfold bs at h
  congr 1
  exact Array.toList_inj.1 h
theorem ins_same {s t : ByteArray} {a : Int} (h : (insI (ixOf s) a t).2.2 ≠ 0) : (insI (ixOf s) a t).1 = ixOf s := by
  rw [ins_all]
  congr 1
  unfold insS; rw [if_pos (.inl h)]
theorem ins_size {s t : ByteArray} {a : Int} (h : ¬ (insI (ixOf s) a t).2.2 ≠ 0) : 0 ≤ a ∧ a ≤ s.size ∧ (insS s a t).size = s.size + t.size ∧ (t.size = 0 → insS s a t = s) ∧ (t.size ≠ 0 → bs (insS s a t) = (bs s).take a.toNat ++ bs t ++ (bs s).drop a.toNat) := by
  have hb := ins_bad (s := s) (t := t) (a := a)
  by_cases h1 : a < 0 ∨ (s.size : Int) < a
  · have := (hb.1 h1).2.2.2.2; omega
  · by_cases h2 : t.size = 0
    · have : insS s a t = s := by unfold insS; rw [if_pos (.inr h2)]
      rw [this]; exact ⟨by omega, by omega, by omega, fun _ => rfl, fun e => absurd h2 e⟩
    · have e : insS s a t = s.extract 0 a.toNat ++ t ++ s.extract a.toNat s.size := by unfold insS; rw [if_neg (fun e => e.elim (fun e => h e) h2)]
      have hbs := ins_bs (s := s) (t := t) (a := a) (by omega)
      refine ⟨by omega, by omega, ?_, fun e => absurd e h2, fun _ => by rw [e]; exact hbs⟩
      rw [e, ← bs_len, hbs, List.length_append, List.length_append, List.length_take, List.length_drop, bs_len, bs_len]
      omega
theorem ins_back {s t : ByteArray} {a : Int} (h : ¬ (insI (ixOf s) a t).2.2 ≠ 0) : (delI (ixOf (insS s a t)) a (a + (t.size : Int))).2.2 = 0 ∧ delS (insS s a t) a (a + (t.size : Int)) = s := by
  obtain ⟨h0, h1, h2, h3, h4⟩ := ins_size h
  have he : ¬ errI (ixOf (insS s a t)) a (a + (t.size : Int)) ≠ 0 := by
    unfold errI; rw [ix_size, if_neg (by omega)]; simp
  by_cases ht : t.size = 0
  · have hd := (del_bad (s := insS s a t) (a := a) (b := a + (t.size : Int))).2 he (by omega)
    rw [hd.1, hd.2.2.2.2]; exact ⟨rfl, h3 ht⟩
  · have hd := del_iv (s := insS s a t) (a := a) (b := a + (t.size : Int)) he (by omega)
    refine ⟨hd.2.2.2.2.1, ?_⟩
    rw [hd.2.2.2.1]
    apply bs_inj
    rw [del_bs, h4 ht]
    have hl := bs_len s
    have hlt := bs_len t
    rw [List.append_assoc, List.take_append_of_le_length (by rw [List.length_take]; omega), List.take_take, Nat.min_self, ← List.append_assoc, List.drop_append, List.drop_eq_nil_of_le (by simp only [List.length_append, List.length_take]; omega), List.nil_append]
    have e0 : (a + (t.size : Int)).toNat - ((bs s).take a.toNat ++ bs t).length = 0 := by simp only [List.length_append, List.length_take]; omega
    rw [e0, List.drop_zero, List.take_append_drop]

set_option maxRecDepth 100000 in
theorem ParasBack_calls {w0 w : World} {F0 : Nat → Prop} {R : List Sx.HP} {v0 : World} (s : ByteArray) (o : S49) (hv : Sx.RO v0 w0 F0) (hzs : s.size ≤ 9223372036854775807) (h : Sx.St w0 F0 ([] ++ R) w) : Calls Try.prog 9 #[.string (s), .agg #[.bool ((o).f0), .int .i64 ((o).f1), .int .i64 ((o).f2), .string ((o).f3)]] w (fun e w1 => e = .returned (.bool true) ∧ Sx.St w0 F0 R w1) := by
 have hlo := lensOf_ok s
 have hxs := ix_size s
 have hxl := congrArg List.length (ix_lens s)
 refine Sx.calls_fn (vs := [.string (s), .agg #[.bool ((o).f0), .int .i64 ((o).f1), .int .i64 ((o).f2), .string ((o).f3)]]) Try.func9 rfl Try.ntmps9 rfl ?_
 refine Sx.wc_seq ?_
 refine Sx.wc_region ?_
 refine Sx.wl_box _ h rfl rfl rfl (fun b1 _ h => ?_)
 replace h : Sx.St _ _ (Sx.blk b1 [.bool ((o).f0), .int .i64 ((o).f1), .int .i64 ((o).f2), .string ((o).f3)] 49 :: _) _ := h
 refine Sx.wl_v rfl rfl (Sx.ov_assign _ rfl) ?_
 refine Sx.wl_nil ?_
 refine Sx.qn_then ?_
 refine Sx.wc_seq ?_
 refine Sx.wc_seq ?_
 refine Sx.wc_region ?_
 refine Sx.wl_call _ rfl rfl rfl ent11 (awake_calls (R := [Sx.blk b1 [.bool ((o).f0), .int .i64 ((o).f1), .int .i64 ((o).f2), .string ((o).f3)] 49] ++ R) h) ?_
 rintro e_ w_ ⟨rfl, h⟩
 refine ⟨_, rfl, ?_⟩
 refine Sx.wl_v rfl rfl (Sx.ov_notb _ rfl) ?_
 refine Sx.wl_nil ?_
 refine Sx.qn_then ?_
 refine Sx.wc_cond_false rfl ?_
 refine Sx.wc_skip ?_
 refine Sx.qn_then ?_
 refine Sx.wc_seq ?_
 refine Sx.wc_seq ?_
 refine Sx.wc_region ?_
 refine Sx.wl_v rfl rfl (Sx.ov_move _ rfl) ?_
 refine Sx.wl_v rfl rfl (Sx.ov_lens _ rfl Try.underlying9) ?_
 refine Sx.wl_v rfl rfl (Sx.ov_bin _ rfl rfl (Sx.binR_gtr)) ?_
 refine Sx.wl_v rfl rfl (Sx.ov_move _ rfl) ?_
 refine Sx.wl_split 15 rfl (fun c2 => ?_) (fun c2 => ?_)
 ·
  refine Sx.wl_skip rfl rfl ?_
  refine Sx.wl_skip rfl rfl ?_
  refine Sx.wl_skip rfl rfl ?_
  refine Sx.wl_skip rfl rfl ?_
  refine Sx.wl_v rfl rfl (Sx.ov_pick_true _ rfl rfl) ?_
  refine Sx.wl_nil ?_
  refine Sx.qn_then ?_
  refine Sx.wc_cond_true rfl ?_
  refine Sx.wc_seq ?_
  refine Sx.wc_region ?_
  refine Sx.wl_v rfl rfl (Sx.ov_assign _ rfl) ?_
  refine Sx.wl_nil ?_
  refine Sx.qn_then ?_
  refine Sx.wc_ret ?_
  refine Sx.qn_then_ret ?_
  replace h := Sx.st_selT [false] h
  refine Sx.qn_ret [_] ⟨rfl, trivial⟩ ?_
  exact ⟨rfl, h⟩
 ·
  refine Sx.wl_v rfl rfl (Sx.ov_fieldAddr _ ⟨b1, 3, none⟩ _ rfl fo49_3 rfl) ?_
  refine Sx.wl_v rfl rfl (Sx.ov_loadb 0 _ h rfl rfl sh9 rfl) ?_
  refine Sx.wl_v rfl rfl (Sx.ov_lens _ rfl Try.underlying9) ?_
  refine Sx.wl_v rfl rfl (Sx.ov_bin _ rfl rfl (Sx.binR_gtr)) ?_
  refine Sx.wl_v rfl rfl (Sx.ov_pick_false _ rfl rfl) ?_
  refine Sx.wl_nil ?_
  refine Sx.qn_then ?_
  refine Sx.wc_cond (by rfl) (fun c3 => ?_) (fun c3 => ?_)
  ·
   refine Sx.wc_seq ?_
   refine Sx.wc_region ?_
   refine Sx.wl_v rfl rfl (Sx.ov_assign _ rfl) ?_
   refine Sx.wl_nil ?_
   refine Sx.qn_then ?_
   refine Sx.wc_ret ?_
   refine Sx.qn_then_ret ?_
   replace h := Sx.st_selT [false] h
   refine Sx.qn_ret [_] ⟨rfl, trivial⟩ ?_
   exact ⟨rfl, h⟩
  ·
   refine Sx.wc_skip ?_
   refine Sx.qn_then ?_
   refine Sx.wc_seq ?_
   refine Sx.wc_region ?_
   refine Sx.wl_v rfl rfl (Sx.ov_move _ rfl) ?_
   refine Sx.wl_call _ rfl rfl rfl ent15 (New_calls (R := [Sx.blk b1 [.bool ((o).f0), .int .i64 ((o).f1), .int .i64 ((o).f2), .string ((o).f3)] 49] ++ R) s (by omega) h) ?_
   rintro e_ w_ ⟨g4, rfl, h⟩
   refine ⟨_, rfl, ?_⟩
   refine Sx.wl_v rfl rfl (Sx.ov_assign _ rfl) ?_
   refine Sx.wl_nil ?_
   refine Sx.qn_then ?_
   refine Sx.wc_seq ?_
   refine Sx.wc_seq ?_
   refine Sx.wc_region ?_
   refine Sx.wl_v rfl rfl (Sx.ov_move _ rfl) ?_
   refine Sx.wl_v rfl rfl (Sx.ov_bin (.bool false) rfl rfl (Sx.binR_eqnil Try.underlying28)) ?_
   refine Sx.wl_nil ?_
   refine Sx.qn_then ?_
   refine Sx.wc_cond_false rfl ?_
   refine Sx.wc_skip ?_
   refine Sx.qn_then ?_
   refine Sx.wc_seq ?_
   refine Sx.wc_seq ?_
   refine Sx.wc_region ?_
   refine Sx.wl_v rfl rfl (Sx.ov_move _ rfl) ?_
   refine Sx.wl_v rfl rfl (Sx.ov_fieldAddr _ ⟨b1, 1, none⟩ _ rfl fo49_1 rfl) ?_
   refine Sx.wl_v rfl rfl (Sx.ov_loadb 1 _ h rfl rfl sh3 rfl) ?_
   refine Sx.wl_v rfl rfl (Sx.ov_fieldAddr _ ⟨b1, 3, none⟩ _ rfl fo49_3 rfl) ?_
   refine Sx.wl_v rfl rfl (Sx.ov_loadb 1 _ h rfl rfl sh9 rfl) ?_
   refine Sx.wl_call _ rfl rfl rfl ent26 (Insert_calls (R := [Sx.blk b1 [.bool ((o).f0), .int .i64 ((o).f1), .int .i64 ((o).f2), .string ((o).f3)] 49] ++ R) g4 (ixOf s) ((o).f1) ((o).f3) (by exact ixOf_ok _ (by omega)) (by omega) (by exact ix_hop s) h) ?_
   rintro e_ w_ ⟨rfl, h⟩
   refine ⟨_, rfl, ?_⟩
   refine Sx.wl_v rfl rfl (Sx.ov_move _ rfl) ?_
   refine Sx.wl_v rfl rfl (Sx.ov_extract [.agg #[.int .i64 ((insI (ixOf s) ((o).f1) ((o).f3)).2.1.1), .int .i64 ((insI (ixOf s) ((o).f1) ((o).f3)).2.1.2.1), .int .i64 ((insI (ixOf s) ((o).f1) ((o).f3)).2.1.2.2)], .int .i64 ((insI (ixOf s) ((o).f1) ((o).f3)).2.2)] _ rfl rfl) ?_
   refine Sx.wl_v rfl rfl (Sx.ov_extract [.agg #[.int .i64 ((insI (ixOf s) ((o).f1) ((o).f3)).2.1.1), .int .i64 ((insI (ixOf s) ((o).f1) ((o).f3)).2.1.2.1), .int .i64 ((insI (ixOf s) ((o).f1) ((o).f3)).2.1.2.2)], .int .i64 ((insI (ixOf s) ((o).f1) ((o).f3)).2.2)] _ rfl rfl) ?_
   refine Sx.wl_alloc _ h rfl rfl zo41 (fun b5 _ h => ?_)
   replace h : Sx.St _ _ (Sx.blk b5 [.int .i64 (0), .int .i64 (0), .int .i64 (0)] 41 :: _) _ := h
   refine Sx.wl_storebN 0 [.int .i64 ((insI (ixOf s) ((o).f1) ((o).f3)).2.1.1), .int .i64 ((insI (ixOf s) ((o).f1) ((o).f3)).2.1.2.1), .int .i64 ((insI (ixOf s) ((o).f1) ((o).f3)).2.1.2.2)] [.int .i64 ((insI (ixOf s) ((o).f1) ((o).f3)).2.1.1), .int .i64 ((insI (ixOf s) ((o).f1) ((o).f3)).2.1.2.1), .int .i64 ((insI (ixOf s) ((o).f1) ((o).f3)).2.1.2.2)] h rfl rfl rfl rfl (by simp [Value.oneCell']) sh41 rfl rfl (fun _ h => ?_)
   refine Sx.wl_v rfl rfl (Sx.ov_assign _ rfl) ?_
   refine Sx.wl_nil ?_
   refine Sx.qn_then ?_
   refine Sx.wc_seq ?_
   refine Sx.wc_region ?_
   refine Sx.wl_v rfl rfl (Sx.ov_move _ rfl) ?_
   refine Sx.wl_v rfl rfl (Sx.ov_bin _ rfl rfl (Sx.binR_neq)) ?_
   refine Sx.wl_nil ?_
   refine Sx.qn_then ?_
   refine Sx.wc_cond (by rfl) (fun c6 => ?_) (fun c6 => ?_)
   ·
    have e_ : (insI (ixOf s) ((o).f1) ((o).f3)).1 = ixOf s := by exact ins_same c6
    replace h := Sx.st_cast (congrArg (fun z_ => ([Sx.blk b5 [.int .i64 ((insI (ixOf s) ((o).f1) ((o).f3)).2.1.1), .int .i64 ((insI (ixOf s) ((o).f1) ((o).f3)).2.1.2.1), .int .i64 ((insI (ixOf s) ((o).f1) ((o).f3)).2.1.2.2)] 41, ixB g4 (z_), Sx.blk b1 [.bool ((o).f0), .int .i64 ((o).f1), .int .i64 ((o).f2), .string ((o).f3)] 49] ++ R)) e_) h
    clear e_
    refine Sx.wc_seq ?_
    refine Sx.wc_region ?_
    refine Sx.wl_v rfl rfl (Sx.ov_move _ rfl) ?_
    refine Sx.wl_v rfl rfl (Sx.ov_move _ rfl) ?_
    replace h := Sx.st_front 1 h
    refine Sx.wl_call _ rfl rfl rfl ent23 (is_calls (R := [Sx.blk b5 [.int .i64 ((insI (ixOf s) ((o).f1) ((o).f3)).2.1.1), .int .i64 ((insI (ixOf s) ((o).f1) ((o).f3)).2.1.2.1), .int .i64 ((insI (ixOf s) ((o).f1) ((o).f3)).2.1.2.2)] 41, Sx.blk b1 [.bool ((o).f0), .int .i64 ((o).f1), .int .i64 ((o).f2), .string ((o).f3)] 49] ++ R) g4 s (by omega) h) ?_
    rintro e_ w_ ⟨rfl, h⟩
    refine ⟨_, rfl, ?_⟩
    refine Sx.wl_v rfl rfl (Sx.ov_assign _ rfl) ?_
    refine Sx.wl_nil ?_
    refine Sx.qn_then ?_
    refine Sx.wc_ret ?_
    refine Sx.qn_then_ret ?_
    replace h := Sx.st_selT [false, false, false] h
    refine Sx.qn_ret [_] ⟨rfl, trivial⟩ ?_
    exact ⟨rfl, h⟩
   ·
    have e_ : (insI (ixOf s) ((o).f1) ((o).f3)).1 = ixOf (insS s o.f1 o.f3) := by exact ins_all s o.f3 o.f1
    replace h := Sx.st_cast (congrArg (fun z_ => ([Sx.blk b5 [.int .i64 ((insI (ixOf s) ((o).f1) ((o).f3)).2.1.1), .int .i64 ((insI (ixOf s) ((o).f1) ((o).f3)).2.1.2.1), .int .i64 ((insI (ixOf s) ((o).f1) ((o).f3)).2.1.2.2)] 41, ixB g4 (z_), Sx.blk b1 [.bool ((o).f0), .int .i64 ((o).f1), .int .i64 ((o).f2), .string ((o).f3)] 49] ++ R)) e_) h
    clear e_
    have hbk := ins_back c6
    have hsz2 := (ins_size c6)
    refine Sx.wc_skip ?_
    refine Sx.qn_then ?_
    refine Sx.wc_seq ?_
    refine Sx.wc_region ?_
    refine Sx.wl_v rfl rfl (Sx.ov_move _ rfl) ?_
    refine Sx.wl_v rfl rfl (Sx.ov_fieldAddr _ ⟨b1, 1, none⟩ _ rfl fo49_1 rfl) ?_
    refine Sx.wl_v rfl rfl (Sx.ov_loadb 2 _ h rfl rfl sh3 rfl) ?_
    refine Sx.wl_v rfl rfl (Sx.ov_fieldAddr _ ⟨b1, 1, none⟩ _ rfl fo49_1 rfl) ?_
    refine Sx.wl_v rfl rfl (Sx.ov_loadb 2 _ h rfl rfl sh3 rfl) ?_
    refine Sx.wl_v rfl rfl (Sx.ov_fieldAddr _ ⟨b1, 3, none⟩ _ rfl fo49_3 rfl) ?_
    refine Sx.wl_v rfl rfl (Sx.ov_loadb 2 _ h rfl rfl sh9 rfl) ?_
    refine Sx.wl_v rfl rfl (Sx.ov_lens _ rfl Try.underlying9) ?_
    refine Sx.wl_v rfl rfl (Sx.ov_bin _ rfl rfl (Sx.binR_add (r := ((o).f1) + ((((o).f3).size : Int))) (Sx.w64 (by omega)))) ?_
    replace h := Sx.st_front 1 h
    refine Sx.wl_call _ rfl rfl rfl ent25 (Delete_calls (R := [Sx.blk b5 [.int .i64 ((insI (ixOf s) ((o).f1) ((o).f3)).2.1.1), .int .i64 ((insI (ixOf s) ((o).f1) ((o).f3)).2.1.2.1), .int .i64 ((insI (ixOf s) ((o).f1) ((o).f3)).2.1.2.2)] 41, Sx.blk b1 [.bool ((o).f0), .int .i64 ((o).f1), .int .i64 ((o).f2), .string ((o).f3)] 49] ++ R) g4 (ixOf (insS s o.f1 o.f3)) ((o).f1) (((o).f1) + ((((o).f3).size : Int))) (by exact ixOf_ok _ (by omega)) h) ?_
    rintro e_ w_ ⟨rfl, h⟩
    refine ⟨_, rfl, ?_⟩
    refine Sx.wl_v rfl rfl (Sx.ov_move _ rfl) ?_
    refine Sx.wl_v rfl rfl (Sx.ov_extract [.agg #[.int .i64 ((delI (ixOf (insS s o.f1 o.f3)) ((o).f1) (((o).f1) + ((((o).f3).size : Int)))).2.1.1), .int .i64 ((delI (ixOf (insS s o.f1 o.f3)) ((o).f1) (((o).f1) + ((((o).f3).size : Int)))).2.1.2.1), .int .i64 ((delI (ixOf (insS s o.f1 o.f3)) ((o).f1) (((o).f1) + ((((o).f3).size : Int)))).2.1.2.2)], .int .i64 ((delI (ixOf (insS s o.f1 o.f3)) ((o).f1) (((o).f1) + ((((o).f3).size : Int)))).2.2)] _ rfl rfl) ?_
    refine Sx.wl_v rfl rfl (Sx.ov_extract [.agg #[.int .i64 ((delI (ixOf (insS s o.f1 o.f3)) ((o).f1) (((o).f1) + ((((o).f3).size : Int)))).2.1.1), .int .i64 ((delI (ixOf (insS s o.f1 o.f3)) ((o).f1) (((o).f1) + ((((o).f3).size : Int)))).2.1.2.1), .int .i64 ((delI (ixOf (insS s o.f1 o.f3)) ((o).f1) (((o).f1) + ((((o).f3).size : Int)))).2.1.2.2)], .int .i64 ((delI (ixOf (insS s o.f1 o.f3)) ((o).f1) (((o).f1) + ((((o).f3).size : Int)))).2.2)] _ rfl rfl) ?_
    refine Sx.wl_alloc _ h rfl rfl zo41 (fun b7 _ h => ?_)
    replace h : Sx.St _ _ (Sx.blk b7 [.int .i64 (0), .int .i64 (0), .int .i64 (0)] 41 :: _) _ := h
    refine Sx.wl_storebN 0 [.int .i64 ((delI (ixOf (insS s o.f1 o.f3)) ((o).f1) (((o).f1) + ((((o).f3).size : Int)))).2.1.1), .int .i64 ((delI (ixOf (insS s o.f1 o.f3)) ((o).f1) (((o).f1) + ((((o).f3).size : Int)))).2.1.2.1), .int .i64 ((delI (ixOf (insS s o.f1 o.f3)) ((o).f1) (((o).f1) + ((((o).f3).size : Int)))).2.1.2.2)] [.int .i64 ((delI (ixOf (insS s o.f1 o.f3)) ((o).f1) (((o).f1) + ((((o).f3).size : Int)))).2.1.1), .int .i64 ((delI (ixOf (insS s o.f1 o.f3)) ((o).f1) (((o).f1) + ((((o).f3).size : Int)))).2.1.2.1), .int .i64 ((delI (ixOf (insS s o.f1 o.f3)) ((o).f1) (((o).f1) + ((((o).f3).size : Int)))).2.1.2.2)] h rfl rfl rfl rfl (by simp [Value.oneCell']) sh41 rfl rfl (fun _ h => ?_)
    refine Sx.wl_v rfl rfl (Sx.ov_assign _ rfl) ?_
    refine Sx.wl_nil ?_
    refine Sx.qn_then ?_
    refine Sx.wc_seq ?_
    refine Sx.wc_region ?_
    refine Sx.wl_v rfl rfl (Sx.ov_move _ rfl) ?_
    refine Sx.wl_v rfl rfl (Sx.ov_bin _ rfl rfl (Sx.binR_eql)) ?_
    refine Sx.wl_v rfl rfl (Sx.ov_move _ rfl) ?_
    refine Sx.wl_split 54 rfl (fun c8 => ?_) (fun c8 => ?_)
    ·
     have e_ : (delI (ixOf (insS s o.f1 o.f3)) ((o).f1) (((o).f1) + ((((o).f3).size : Int)))).1 = ixOf s := by rw [del_all, hbk.2]
     replace h := Sx.st_cast (congrArg (fun z_ => ([Sx.blk b7 [.int .i64 ((delI (ixOf (insS s o.f1 o.f3)) ((o).f1) (((o).f1) + ((((o).f3).size : Int)))).2.1.1), .int .i64 ((delI (ixOf (insS s o.f1 o.f3)) ((o).f1) (((o).f1) + ((((o).f3).size : Int)))).2.1.2.1), .int .i64 ((delI (ixOf (insS s o.f1 o.f3)) ((o).f1) (((o).f1) + ((((o).f3).size : Int)))).2.1.2.2)] 41, ixB g4 (z_), Sx.blk b5 [.int .i64 ((insI (ixOf s) ((o).f1) ((o).f3)).2.1.1), .int .i64 ((insI (ixOf s) ((o).f1) ((o).f3)).2.1.2.1), .int .i64 ((insI (ixOf s) ((o).f1) ((o).f3)).2.1.2.2)] 41, Sx.blk b1 [.bool ((o).f0), .int .i64 ((o).f1), .int .i64 ((o).f2), .string ((o).f3)] 49] ++ R)) e_) h
     clear e_
     refine Sx.wl_v rfl rfl (Sx.ov_move _ rfl) ?_
     refine Sx.wl_v rfl rfl (Sx.ov_move _ rfl) ?_
     replace h := Sx.st_front 1 h
     refine Sx.wl_call _ rfl rfl rfl ent23 (is_calls (R := [Sx.blk b7 [.int .i64 ((delI (ixOf (insS s o.f1 o.f3)) ((o).f1) (((o).f1) + ((((o).f3).size : Int)))).2.1.1), .int .i64 ((delI (ixOf (insS s o.f1 o.f3)) ((o).f1) (((o).f1) + ((((o).f3).size : Int)))).2.1.2.1), .int .i64 ((delI (ixOf (insS s o.f1 o.f3)) ((o).f1) (((o).f1) + ((((o).f3).size : Int)))).2.1.2.2)] 41, Sx.blk b5 [.int .i64 ((insI (ixOf s) ((o).f1) ((o).f3)).2.1.1), .int .i64 ((insI (ixOf s) ((o).f1) ((o).f3)).2.1.2.1), .int .i64 ((insI (ixOf s) ((o).f1) ((o).f3)).2.1.2.2)] 41, Sx.blk b1 [.bool ((o).f0), .int .i64 ((o).f1), .int .i64 ((o).f2), .string ((o).f3)] 49] ++ R) g4 s (by omega) h) ?_
     rintro e_ w_ ⟨rfl, h⟩
     refine ⟨_, rfl, ?_⟩
     refine Sx.wl_v rfl rfl (Sx.ov_pick_true _ rfl rfl) ?_
     refine Sx.wl_v rfl rfl (Sx.ov_assign _ rfl) ?_
     refine Sx.wl_nil ?_
     refine Sx.qn_then ?_
     refine Sx.wc_ret ?_
     replace h := Sx.st_selT [false, false, false, false] h
     refine Sx.qn_ret [_] ⟨rfl, trivial⟩ ?_
     exact ⟨rfl, h⟩
    ·
     exfalso
     omega
end Go.Proofs.Yteancplgfjhagaa.Paras.L
