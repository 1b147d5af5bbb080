/- More walks of paragraphs. -/
import Derived.Test.YteancplgfjhagaaProg
import Derived.Test.YteancplgfjhagaaSxGlue
import Derived.Test.YteancplgfjhagaaSxKinds
import Derived.Test.YteancplgfjhagaaParasTh
import Derived.Test.YteancplgfjhagaaSxParas
import Derived.Test.YteancplgfjhagaaSxParasB
import Derived.Test.YteancplgfjhagaaSxPlain
import Derived.Test.YteancplgfjhagaaParasIns
import Derived.Test.YteancplgfjhagaaParasDel
namespace Go.Proofs.Yteancplgfjhagaa.Paras.D
open Go Go.RowKit Go.Proofs.YteancplgfjhagaaW.PrintWords Go.Proofs.Yteancplgfjhagaa.Kinds Go.Proofs.Yteancplgfjhagaa.Sx Go.Proofs.Yteancplgfjhagaa.Paras Go.Proofs.Yteancplgfjhagaa.Paras.B Go.Proofs.Yteancplgfjhagaa.Paras.C
set_option linter.unusedVariables false
set_option linter.unusedSimpArgs false
theorem zo41 : Sx.zeroOf Try.prog 41 = some (.agg #[.int .i64 (0), .int .i64 (0), .int .i64 (0)]) := by kernel_rfl
theorem ent31 : Sx.Ent Try.prog 31 := ⟨Try.f31, Try.func31, by kernel_rfl, by kernel_rfl⟩
theorem sh41 : Sx.shapeOf Try.prog 41 = some (true, 3) := by kernel_rfl
theorem ent16 : Sx.Ent Try.prog 16 := ⟨Try.f16, Try.func16, by kernel_rfl, by kernel_rfl⟩
theorem ent17 : Sx.Ent Try.prog 17 := ⟨Try.f17, Try.func17, by kernel_rfl, by kernel_rfl⟩
theorem fo60_0 : Sx.fieldOff Try.prog 60 0 = some 0 := by kernel_rfl
theorem sh23 : Sx.shapeOf Try.prog 23 = some (false, 1) := by kernel_rfl
theorem es23 : Sx.elemSz Try.prog 23 = some (3, 1) := by kernel_rfl
theorem fo41_1 : Sx.fieldOff Try.prog 41 1 = some 1 := by kernel_rfl
theorem sh3 : Sx.shapeOf Try.prog 3 = some (false, 1) := by kernel_rfl
theorem infb3 : (Try.prog.info? 3).map (fun i => (i.zero, i.size)) = some (some (.int .i64 (0)), 1) := by kernel_rfl
theorem fo41_2 : Sx.fieldOff Try.prog 41 2 = some 2 := by kernel_rfl
theorem fo41_0 : Sx.fieldOff Try.prog 41 0 = some 0 := by kernel_rfl
theorem fo60_1 : Sx.fieldOff Try.prog 60 1 = some 1 := by kernel_rfl
theorem ent35 : Sx.Ent Try.prog 35 := ⟨Try.f35, Try.func35, by kernel_rfl, by kernel_rfl⟩
theorem fo60_2 : Sx.fieldOff Try.prog 60 2 = some 2 := by kernel_rfl
theorem sh4 : Sx.shapeOf Try.prog 4 = some (false, 1) := by kernel_rfl

def opN (x : IX) : Int := if x.open_ = true then 1 else 0
theorem opN_0 {x : IX} (h : x.open_ = false) : opN x = 0 := by unfold opN; rw [h]; rfl
theorem opN_1 {x : IX} (h : x.open_ = true) : opN x = 1 := by unfold opN; rw [if_pos h]
theorem opN_iff {x : IX} : x.open_ = false ↔ opN x = 0 := by
  unfold opN
  cases x.open_ <;> simp
theorem lost_lin {x : IX} {a b : Int} : lostI x a b = true ↔ (b = (x.lens.take (findP x.lens (b - 1) + 1)).sum ∧ (((findP x.lens (b - 1) : Nat) : Int) < (x.lens.length : Int) - 1 ∨ opN x = 0)) := by
  unfold lostI; rw [decide_eq_true_iff, opN_iff]
theorem more_lin {x : IX} {a b : Int} : moreI x a b = true ↔ ((b = (x.lens.take (findP x.lens (b - 1) + 1)).sum ∧ (((findP x.lens (b - 1) : Nat) : Int) < (x.lens.length : Int) - 1 ∨ opN x = 0)) ∧ (x.lens.take (findP x.lens a)).sum < a ∧ ((findP x.lens (b - 1) : Nat) : Int) + 1 < (x.lens.length : Int)) := by
  unfold moreI; rw [decide_eq_true_iff, lost_lin]
theorem del_lin {x : IX} {a b : Int} : (((b = (x.lens.take (findP x.lens (b - 1) + 1)).sum ∧ (((findP x.lens (b - 1) : Nat) : Int) < (x.lens.length : Int) - 1 ∨ opN x = 0)) ∧ (x.lens.take (findP x.lens a)).sum < a ∧ ((findP x.lens (b - 1) : Nat) : Int) + 1 < (x.lens.length : Int)) ∧ oldD x a b = ((findP x.lens (b - 1) : Nat) : Int) - ((findP x.lens a : Nat) : Int) + 1 + 1 ∧ restD x a b = a - (x.lens.take (findP x.lens a)).sum + (x.lens.take (findP x.lens (b - 1) + 1)).sum - b + x.lens.getD (findP x.lens (b - 1) + 1) 0) ∨
    (¬ ((b = (x.lens.take (findP x.lens (b - 1) + 1)).sum ∧ (((findP x.lens (b - 1) : Nat) : Int) < (x.lens.length : Int) - 1 ∨ opN x = 0)) ∧ (x.lens.take (findP x.lens a)).sum < a ∧ ((findP x.lens (b - 1) : Nat) : Int) + 1 < (x.lens.length : Int)) ∧ oldD x a b = ((findP x.lens (b - 1) : Nat) : Int) - ((findP x.lens a : Nat) : Int) + 1 ∧ restD x a b = a - (x.lens.take (findP x.lens a)).sum + (x.lens.take (findP x.lens (b - 1) + 1)).sum - b) := by
  unfold oldD restD
  by_cases h : moreI x a b = true
  · rw [if_pos h, if_pos h]; exact .inl ⟨more_lin.1 h, rfl, rfl⟩
  · rw [if_neg h, if_neg h]; exact .inr ⟨fun e => h (more_lin.2 e), by omega, by omega⟩
theorem openD_lin {x : IX} {a b : Int} : (((findP x.lens a : Nat) : Int) + oldD x a b < (x.lens.length : Int) → openD x a b = x.open_) ∧ (¬ (((findP x.lens a : Nat) : Int) + oldD x a b < (x.lens.length : Int)) → restD x a b = 0 → openD x a b = false) ∧
    (¬ (((findP x.lens a : Nat) : Int) + oldD x a b < (x.lens.length : Int)) → restD x a b ≠ 0 → (b = (x.lens.take (findP x.lens (b - 1) + 1)).sum ∧ (((findP x.lens (b - 1) : Nat) : Int) < (x.lens.length : Int) - 1 ∨ opN x = 0)) ∧ (x.lens.length : Int) ≤ ((findP x.lens (b - 1) : Nat) : Int) + 1 → openD x a b = true) ∧
    (¬ (((findP x.lens a : Nat) : Int) + oldD x a b < (x.lens.length : Int)) → restD x a b ≠ 0 → ¬ ((b = (x.lens.take (findP x.lens (b - 1) + 1)).sum ∧ (((findP x.lens (b - 1) : Nat) : Int) < (x.lens.length : Int) - 1 ∨ opN x = 0)) ∧ (x.lens.length : Int) ≤ ((findP x.lens (b - 1) : Nat) : Int) + 1) → openD x a b = x.open_) := by
  unfold openD
  rw [← lost_lin]
  exact ⟨fun h => if_pos h, fun h h2 => by rw [if_neg h, if_pos h2], fun h h2 h3 => by rw [if_neg h, if_neg h2, if_pos h3], fun h h2 h3 => by rw [if_neg h, if_neg h2, if_neg h3]⟩
theorem del_fin {x : IX} {a b F O N : Int} {L : List Int} {P : Bool} (he : ¬ errI x a b ≠ 0) (hab : ¬ a = b) (hF : F = ((findP x.lens a : Nat) : Int)) (hO : oldD x a b = O) (hL : newD x a b = L) (hP : openD x a b = P) (hN : N = (L.length : Int)) :
    delI x a b = (chgI ⟨x.lens, x.size - (b - a), P⟩ F O L, (F, O, N), 0) := by
  subst hF; subst hO; subst hL; subst hP; subst hN
  unfold delI; rw [if_neg he, if_neg hab]
theorem span_find2 {x : IX} {a : Int} (hok : okI x) (h0 : 0 ≤ a) (h1 : a < x.size) : (findI x a).1 = ((findP x.lens a : Nat) : Int) ∧ (spanI x (findI x a).1).1 = (x.lens.take (findP x.lens a)).sum ∧ (spanI x (findI x a).1).2.1 = (x.lens.take (findP x.lens a + 1)).sum := by
  have h := span_find hok h0 h1
  rw [h.1]; exact ⟨rfl, h.2.2.1, h.2.2.2.1⟩

set_option maxHeartbeats 2000000 in
set_option maxRecDepth 100000 in
theorem Delete_calls {w0 w : World} {F0 : Nat → Prop} {R : List Sx.HP} (g : Nat) (x : IX) (a b : Int) (hok : okI x) (h : Sx.St w0 F0 ([ixB g (x)] ++ R) w) : Calls Try.prog 25 #[.pointer (some ⟨g, 0, none⟩), .int .i64 (a), .int .i64 (b)] w (fun e w1 => e = .returned (.tuple #[.agg #[.int .i64 (delI x a b).2.1.1, .int .i64 (delI x a b).2.1.2.1, .int .i64 (delI x a b).2.1.2.2], .int .i64 (delI x a b).2.2]) ∧ Sx.St w0 F0 (ixB g (delI x a b).1 :: R) w1) := by
 have hlen := len_le_sum hok.1
 refine Sx.calls_fn (vs := [.pointer (some ⟨g, 0, none⟩), .int .i64 (a), .int .i64 (b)]) Try.func25 rfl Try.ntmps25 rfl ?_
 refine wc_seq ?_
 refine wc_region ?_
 refine wl_alloc _ h rfl rfl zo41 (fun b1 _ h => ?_)
 replace h : Sx.St _ _ (Sx.blk b1 [.int .i64 (0), .int .i64 (0), .int .i64 (0)] 41 :: _) _ := h
 refine wl_v rfl rfl (ov_assign _ rfl) ?_
 refine wl_nil ?_
 refine qn_then ?_
 refine wc_seq ?_
 refine wc_seq ?_
 refine wc_region ?_
 refine wl_v rfl rfl (ov_move _ rfl) ?_
 refine wl_v rfl rfl (ov_move _ rfl) ?_
 refine wl_v rfl rfl (ov_move _ rfl) ?_
 replace h := st_front 1 h
 refine wl_call _ rfl rfl rfl ent31 (span_calls (R := [Sx.blk b1 [.int .i64 (0), .int .i64 (0), .int .i64 (0)] 41] ++ R) g x a b  h) ?_
 rintro e_ w_ ⟨rfl, h⟩
 refine ⟨_, rfl, ?_⟩
 refine wl_v rfl rfl (ov_assign _ rfl) ?_
 refine wl_nil ?_
 refine qn_then ?_
 refine wc_seq ?_
 refine wc_region ?_
 refine wl_v rfl rfl (ov_move _ rfl) ?_
 refine wl_v rfl rfl (ov_bin _ rfl rfl (binR_neq)) ?_
 refine wl_nil ?_
 refine qn_then ?_
 refine wc_cond (by rfl) (fun c2 => ?_) (fun c2 => ?_)
 ·
  refine wc_seq ?_
  refine wc_region ?_
  refine wl_v rfl rfl (ov_build [] [.int .i64 (0), .int .i64 (0), .int .i64 (0)] rfl rfl (by kernel_rfl)) ?_
  refine wl_v rfl rfl (ov_move _ rfl) ?_
  refine wl_storebN 1 [.int .i64 (0), .int .i64 (0), .int .i64 (0)] [.int .i64 (0), .int .i64 (0), .int .i64 (0)] h rfl rfl rfl rfl (by simp [Value.oneCell']) sh41 rfl rfl (fun _ h => ?_)
  refine wl_v rfl rfl (ov_assign _ rfl) ?_
  refine wl_nil ?_
  refine qn_then ?_
  refine wc_ret ?_
  refine qn_then_ret ?_
  have hend_ := h
  replace h := st_selT [true, false] h
  refine qn_ret [_, _] ⟨⟨_, rfl, Sx.loadVarN (vs := [.int .i64 (0), .int .i64 (0), .int .i64 (0)]) sh41 (Sx.blk_cells (cells := [.int .i64 (0), .int .i64 (0), .int .i64 (0)]) hend_ (i := 1) rfl 0 _ rfl)⟩, rfl, trivial⟩ ?_
  have e_ : delI x a b = (x, (0, 0, 0), errI x a b) := by unfold delI; rw [if_pos (by omega)]
  rw [e_]
  exact ⟨rfl, h⟩
 ·
  refine wc_skip ?_
  refine qn_then ?_
  refine wc_seq ?_
  refine wc_seq ?_
  refine wc_region ?_
  refine wl_v rfl rfl (ov_move _ rfl) ?_
  refine wl_v rfl rfl (ov_move _ rfl) ?_
  refine wl_v rfl rfl (ov_bin _ rfl rfl (binR_eql)) ?_
  refine wl_nil ?_
  refine qn_then ?_
  refine wc_cond (by rfl) (fun c3 => ?_) (fun c3 => ?_)
  ·
   refine wc_seq ?_
   refine wc_region ?_
   refine wl_v rfl rfl (ov_build [] [.int .i64 (0), .int .i64 (0), .int .i64 (0)] rfl rfl (by kernel_rfl)) ?_
   refine wl_storebN 1 [.int .i64 (0), .int .i64 (0), .int .i64 (0)] [.int .i64 (0), .int .i64 (0), .int .i64 (0)] h rfl rfl rfl rfl (by simp [Value.oneCell']) sh41 rfl rfl (fun _ h => ?_)
   refine wl_v rfl rfl (ov_assign _ rfl) ?_
   refine wl_nil ?_
   refine qn_then ?_
   refine wc_ret ?_
   refine qn_then_ret ?_
   have hend_ := h
   replace h := st_selT [true, false] h
   refine qn_ret [_, _] ⟨⟨_, rfl, Sx.loadVarN (vs := [.int .i64 (0), .int .i64 (0), .int .i64 (0)]) sh41 (Sx.blk_cells (cells := [.int .i64 (0), .int .i64 (0), .int .i64 (0)]) hend_ (i := 1) rfl 0 _ rfl)⟩, rfl, trivial⟩ ?_
   have e_ : delI x a b = (x, (0, 0, 0), 0) := by unfold delI; rw [if_neg (by omega), if_pos (by omega)]
   rw [e_]
   exact ⟨rfl, h⟩
  ·
   have her := err_ok (x := x) (a := a) (b := b) (by assumption)
   have hfa := span_find2 hok (a := a) (by omega) (by omega)
   have hfb := span_find2 hok (a := b - 1) (by omega) (by omega)
   have hpa := findP_spec (l := x.lens) (a := a) (by omega) (by have := hok.2.1; omega) hok.1
   have hpb := findP_spec (l := x.lens) (a := b - 1) (by omega) (by have := hok.2.1; omega) hok.1
   have hab := findP_mono (l := x.lens) (a := a) (b := b - 1) hok.1 (by omega) (by omega) (by have := hok.2.1; omega)
   have hsa := sum_take_le hok.1 (findP x.lens a)
   have hsb := sum_take_le hok.1 (findP x.lens (b - 1) + 1)
   have hD := del_lin (x := x) (a := a) (b := b)
   have hO := openD_lin (x := x) (a := a) (b := b)
   have hsz_ := hok.2.1
   have hnx : (findP x.lens (b - 1)) + 1 < x.lens.length → 1 ≤ x.lens.getD (findP x.lens (b - 1) + 1) 0 ∧ x.lens.getD (findP x.lens (b - 1) + 1) 0 ≤ x.size := fun h_ => by have := getD_le hok.1 _ h_; omega
   have hnt : ((findI x (b - 1)).1 + 1).toNat = findP x.lens (b - 1) + 1 := by rw [hfb.1]; omega
   have hge : x.lens.getD ((findI x (b - 1)).1 + 1).toNat 0 = x.lens.getD (findP x.lens (b - 1) + 1) 0 := by rw [hnt]
   refine wc_skip ?_
   refine qn_then ?_
   refine wc_seq ?_
   refine wc_region ?_
   refine wl_v rfl rfl (ov_move _ rfl) ?_
   refine wl_v rfl rfl (ov_move _ rfl) ?_
   refine wl_call _ rfl rfl rfl ent16 (Find_calls (R := [Sx.blk b1 [.int .i64 (0), .int .i64 (0), .int .i64 (0)] 41] ++ R) g x a (by assumption) h) ?_
   rintro e_ w_ ⟨rfl, h⟩
   refine ⟨_, rfl, ?_⟩
   refine wl_v rfl rfl (ov_move _ rfl) ?_
   refine wl_v rfl rfl (ov_extract [.int .i64 ((findI x a).1), .bool ((findI x a).2)] _ rfl rfl) ?_
   refine wl_v rfl rfl (ov_extract [.int .i64 ((findI x a).1), .bool ((findI x a).2)] _ rfl rfl) ?_
   refine wl_v rfl rfl (ov_assign _ rfl) ?_
   refine wl_v rfl rfl (ov_assign _ rfl) ?_
   refine wl_nil ?_
   refine qn_then ?_
   refine wc_seq ?_
   refine wc_region ?_
   refine wl_v rfl rfl (ov_move _ rfl) ?_
   refine wl_v rfl rfl (ov_move _ rfl) ?_
   refine wl_v rfl rfl (ov_bin _ rfl rfl (binR_sub (r := b - 1) (Sx.w64 (by omega)))) ?_
   refine wl_call _ rfl rfl rfl ent16 (Find_calls (R := [Sx.blk b1 [.int .i64 (0), .int .i64 (0), .int .i64 (0)] 41] ++ R) g x (b - 1) (by assumption) h) ?_
   rintro e_ w_ ⟨rfl, h⟩
   refine ⟨_, rfl, ?_⟩
   refine wl_v rfl rfl (ov_move _ rfl) ?_
   refine wl_v rfl rfl (ov_extract [.int .i64 ((findI x (b - 1)).1), .bool ((findI x (b - 1)).2)] _ rfl rfl) ?_
   refine wl_v rfl rfl (ov_extract [.int .i64 ((findI x (b - 1)).1), .bool ((findI x (b - 1)).2)] _ rfl rfl) ?_
   refine wl_v rfl rfl (ov_assign _ rfl) ?_
   refine wl_v rfl rfl (ov_assign _ rfl) ?_
   refine wl_nil ?_
   refine qn_then ?_
   refine wc_seq ?_
   refine wc_region ?_
   refine wl_v rfl rfl (ov_move _ rfl) ?_
   refine wl_v rfl rfl (ov_move _ rfl) ?_
   refine wl_call _ rfl rfl rfl ent17 (Span_calls (R := [Sx.blk b1 [.int .i64 (0), .int .i64 (0), .int .i64 (0)] 41] ++ R) g x ((findI x a).1) (by assumption) h) ?_
   rintro e_ w_ ⟨rfl, h⟩
   refine ⟨_, rfl, ?_⟩
   refine wl_v rfl rfl (ov_move _ rfl) ?_
   refine wl_v rfl rfl (ov_extract [.int .i64 ((spanI x ((findI x a).1)).1), .int .i64 ((spanI x ((findI x a).1)).2.1), .bool ((spanI x ((findI x a).1)).2.2)] _ rfl rfl) ?_
   refine wl_v rfl rfl (ov_extract [.int .i64 ((spanI x ((findI x a).1)).1), .int .i64 ((spanI x ((findI x a).1)).2.1), .bool ((spanI x ((findI x a).1)).2.2)] _ rfl rfl) ?_
   refine wl_v rfl rfl (ov_extract [.int .i64 ((spanI x ((findI x a).1)).1), .int .i64 ((spanI x ((findI x a).1)).2.1), .bool ((spanI x ((findI x a).1)).2.2)] _ rfl rfl) ?_
   refine wl_v rfl rfl (ov_assign _ rfl) ?_
   refine wl_v rfl rfl (ov_assign _ rfl) ?_
   refine wl_v rfl rfl (ov_assign _ rfl) ?_
   refine wl_nil ?_
   refine qn_then ?_
   refine wc_seq ?_
   refine wc_region ?_
   refine wl_v rfl rfl (ov_move _ rfl) ?_
   refine wl_v rfl rfl (ov_move _ rfl) ?_
   refine wl_call _ rfl rfl rfl ent17 (Span_calls (R := [Sx.blk b1 [.int .i64 (0), .int .i64 (0), .int .i64 (0)] 41] ++ R) g x ((findI x (b - 1)).1) (by assumption) h) ?_
   rintro e_ w_ ⟨rfl, h⟩
   refine ⟨_, rfl, ?_⟩
   refine wl_v rfl rfl (ov_move _ rfl) ?_
   refine wl_v rfl rfl (ov_extract [.int .i64 ((spanI x ((findI x (b - 1)).1)).1), .int .i64 ((spanI x ((findI x (b - 1)).1)).2.1), .bool ((spanI x ((findI x (b - 1)).1)).2.2)] _ rfl rfl) ?_
   refine wl_v rfl rfl (ov_extract [.int .i64 ((spanI x ((findI x (b - 1)).1)).1), .int .i64 ((spanI x ((findI x (b - 1)).1)).2.1), .bool ((spanI x ((findI x (b - 1)).1)).2.2)] _ rfl rfl) ?_
   refine wl_v rfl rfl (ov_extract [.int .i64 ((spanI x ((findI x (b - 1)).1)).1), .int .i64 ((spanI x ((findI x (b - 1)).1)).2.1), .bool ((spanI x ((findI x (b - 1)).1)).2.2)] _ rfl rfl) ?_
   refine wl_v rfl rfl (ov_assign _ rfl) ?_
   refine wl_v rfl rfl (ov_assign _ rfl) ?_
   refine wl_v rfl rfl (ov_assign _ rfl) ?_
   refine wl_nil ?_
   refine qn_then ?_
   refine wc_seq ?_
   refine wc_region ?_
   refine wl_v rfl rfl (ov_move _ rfl) ?_
   refine wl_v rfl rfl (ov_move _ rfl) ?_
   refine wl_v rfl rfl (ov_bin _ rfl rfl (binR_eql)) ?_
   refine wl_v rfl rfl (ov_move _ rfl) ?_
   refine wl_split 65 rfl (fun c4 => ?_) (fun c4 => ?_)
   ·
    refine wl_v rfl rfl (ov_move _ rfl) ?_
    refine wl_v rfl rfl (ov_move _ rfl) ?_
    refine wl_v rfl rfl (ov_nilCheck _ rfl) ?_
    refine wl_v rfl rfl (ov_fieldAddr _ ⟨g, 0, none⟩ _ rfl fo60_0 rfl) ?_
    obtain ⟨A5, c6, h⟩ := ixB_open h
    refine wl_v rfl rfl (ov_loadb 0 _ h rfl rfl sh23 rfl) ?_
    refine wl_v rfl rfl (ov_len _ _ _ _ _ rfl es23) ?_
    refine wl_v rfl rfl (ov_bin _ rfl rfl (binR_sub (r := (((((x).lens).length : Nat) : Int)) - 1) (Sx.w64 (by omega)))) ?_
    refine wl_v rfl rfl (ov_bin _ rfl rfl (binR_lss)) ?_
    refine wl_v rfl rfl (ov_move _ rfl) ?_
    refine wl_split 74 rfl (fun c7 => ?_) (fun c7 => ?_)
    ·
     refine wl_skip rfl rfl ?_
     refine wl_skip rfl rfl ?_
     refine wl_skip rfl rfl ?_
     refine wl_skip rfl rfl ?_
     refine wl_skip rfl rfl ?_
     refine wl_v rfl rfl (ov_pick_true _ rfl rfl) ?_
     refine wl_v rfl rfl (ov_pick_true _ rfl rfl) ?_
     refine wl_v rfl rfl (ov_assign _ rfl) ?_
     refine wl_nil ?_
     refine qn_then ?_
     refine wc_seq ?_
     refine wc_region ?_
     refine wl_v rfl rfl (ov_move _ rfl) ?_
     refine wl_v rfl rfl (ov_move _ rfl) ?_
     refine wl_v rfl rfl (ov_move _ rfl) ?_
     refine wl_v rfl rfl (ov_bin _ rfl rfl (binR_sub (r := ((findI x (b - 1)).1) - ((findI x a).1)) (Sx.w64 (by omega)))) ?_
     refine wl_v rfl rfl (ov_bin _ rfl rfl (binR_add (r := (((findI x (b - 1)).1) - ((findI x a).1)) + 1) (Sx.w64 (by omega)))) ?_
     refine wl_v rfl rfl (ov_build [(0, .int .i64 ((findI x a).1)), (1, .int .i64 ((((findI x (b - 1)).1) - ((findI x a).1)) + 1))] [.int .i64 ((findI x a).1), .int .i64 ((((findI x (b - 1)).1) - ((findI x a).1)) + 1), .int .i64 (0)] rfl rfl (by kernel_rfl)) ?_
     refine wl_alloc _ h rfl rfl zo41 (fun b8 _ h => ?_)
     replace h : Sx.St _ _ (Sx.blk b8 [.int .i64 (0), .int .i64 (0), .int .i64 (0)] 41 :: _) _ := h
     refine wl_storebN 0 [.int .i64 ((findI x a).1), .int .i64 ((((findI x (b - 1)).1) - ((findI x a).1)) + 1), .int .i64 (0)] [.int .i64 ((findI x a).1), .int .i64 ((((findI x (b - 1)).1) - ((findI x a).1)) + 1), .int .i64 (0)] h rfl rfl rfl rfl (by simp [Value.oneCell']) sh41 rfl rfl (fun _ h => ?_)
     refine wl_nil ?_
     refine qn_then ?_
     refine wc_seq ?_
     refine wc_region ?_
     refine wl_v rfl rfl (ov_move _ rfl) ?_
     refine wl_v rfl rfl (ov_move _ rfl) ?_
     refine wl_v rfl rfl (ov_bin _ rfl rfl (binR_sub (r := a - ((spanI x ((findI x a).1)).1)) (Sx.w64 (by omega)))) ?_
     refine wl_v rfl rfl (ov_move _ rfl) ?_
     refine wl_v rfl rfl (ov_bin _ rfl rfl (binR_add (r := (a - ((spanI x ((findI x a).1)).1)) + ((spanI x ((findI x (b - 1)).1)).2.1)) (Sx.w64 (by omega)))) ?_
     refine wl_v rfl rfl (ov_move _ rfl) ?_
     refine wl_v rfl rfl (ov_bin _ rfl rfl (binR_sub (r := ((a - ((spanI x ((findI x a).1)).1)) + ((spanI x ((findI x (b - 1)).1)).2.1)) - b) (Sx.w64 (by omega)))) ?_
     refine wl_v rfl rfl (ov_assign _ rfl) ?_
     refine wl_nil ?_
     refine qn_then ?_
     refine wc_seq ?_
     refine wc_seq ?_
     refine wc_region ?_
     refine wl_v rfl rfl (ov_move _ rfl) ?_
     refine wl_v rfl rfl (ov_move _ rfl) ?_
     refine wl_v rfl rfl (ov_move _ rfl) ?_
     refine wl_v rfl rfl (ov_move _ rfl) ?_
     refine wl_v rfl rfl (ov_bin _ rfl rfl (binR_gtr)) ?_
     refine wl_v rfl rfl (ov_pick_true _ rfl rfl) ?_
     refine wl_v rfl rfl (ov_move _ rfl) ?_
     refine wl_split 101 rfl (fun c9 => ?_) (fun c9 => ?_)
     ·
      refine wl_v rfl rfl (ov_move _ rfl) ?_
      refine wl_v rfl rfl (ov_bin _ rfl rfl (binR_add (r := ((findI x (b - 1)).1) + 1) (Sx.w64 (by omega)))) ?_
      refine wl_v rfl rfl (ov_move _ rfl) ?_
      refine wl_v rfl rfl (ov_nilCheck _ rfl) ?_
      refine wl_v rfl rfl (ov_fieldAddr _ ⟨g, 0, none⟩ _ rfl fo60_0 rfl) ?_
      refine wl_v rfl rfl (ov_loadb 1 _ h rfl rfl sh23 rfl) ?_
      refine wl_v rfl rfl (ov_len _ _ _ _ _ rfl es23) ?_
      refine wl_v rfl rfl (ov_bin _ rfl rfl (binR_lss)) ?_
      refine wl_v rfl rfl (ov_pick_true _ rfl rfl) ?_
      refine wl_nil ?_
      refine qn_then ?_
      refine wc_cond (by rfl) (fun c10 => ?_) (fun c10 => ?_)
      ·
       have hnv := hnx (by omega)
       refine wc_seq ?_
       refine wc_region ?_
       refine wl_v rfl rfl (ov_fieldAddr _ ⟨b8, 1, none⟩ _ rfl fo41_1 rfl) ?_
       refine wl_v rfl rfl (ov_loadb 0 _ h rfl rfl sh3 rfl) ?_
       refine wl_v rfl rfl (ov_bin _ rfl rfl (binR_add (r := ((((findI x (b - 1)).1) - ((findI x a).1)) + 1) + 1) (Sx.w64 (by omega)))) ?_
       refine wl_v rfl rfl (ov_fieldAddr _ ⟨b8, 1, none⟩ _ rfl fo41_1 rfl) ?_
       refine wl_storeb 0 _ [.int .i64 ((findI x a).1), .int .i64 (((((findI x (b - 1)).1) - ((findI x a).1)) + 1) + 1), .int .i64 (0)] h rfl rfl rfl rfl rfl rfl sh3 rfl rfl (fun _ h => ?_)
       refine wl_nil ?_
       refine qn_then ?_
       refine wc_region ?_
       refine wl_v rfl rfl (ov_move _ rfl) ?_
       refine wl_v rfl rfl (ov_move _ rfl) ?_
       refine wl_v rfl rfl (ov_nilCheck _ rfl) ?_
       refine wl_v rfl rfl (ov_fieldAddr _ ⟨g, 0, none⟩ _ rfl fo60_0 rfl) ?_
       refine wl_v rfl rfl (ov_loadb 1 _ h rfl rfl sh23 rfl) ?_
       refine wl_v rfl rfl (ov_move _ rfl) ?_
       refine wl_v rfl rfl (ov_bin _ rfl rfl (binR_add (r := ((findI x (b - 1)).1) + 1) (Sx.w64 (by omega)))) ?_
       obtain ⟨ad11, rfl⟩ := Sx.C_some ((Sx.row_reads h (i := 2) rfl).2) (k := (((findI x (b - 1)).1) + 1 : Int).toNat) (by first | assumption | omega)
       refine wl_v rfl rfl (ov_indexAddrN _ _ _ _ _ (((findI x (b - 1)).1) + 1 : Int).toNat rfl rfl es23 (by omega) (by first | assumption | omega | (simp only [List.length_take, List.length_drop, List.length_set]; omega))) ?_
       obtain ⟨cl14, _, hk13, hc12⟩ := Sx.C_cells ((Sx.row_reads h (i := 2) rfl).2) (z := (0 : Int)) (k := (((findI x (b - 1)).1) + 1 : Int).toNat) (by first | assumption | omega)
       obtain rfl : cl14 = [.int .i64 _] := hk13
       refine wl_v rfl rfl (ov_load1 _ _ rfl sh3 ((hc12 0 _ rfl))) ?_
       refine wl_v rfl rfl (ov_bin _ rfl rfl (binR_add (r := (((a - ((spanI x ((findI x a).1)).1)) + ((spanI x ((findI x (b - 1)).1)).2.1)) - b) + (((x).lens).getD (((findI x (b - 1)).1) + 1 : Int).toNat (0 : Int))) (Sx.w64 (by omega)))) ?_
       refine wl_v rfl rfl (ov_assign _ rfl) ?_
       refine wl_nil ?_
       refine qn_then ?_
       refine wc_seq ?_
       refine wc_region ?_
       refine wl_v rfl rfl (ov_assign _ rfl) ?_
       refine wl_nil ?_
       refine qn_then ?_
       refine wc_seq ?_
       refine wc_seq ?_
       refine wc_region ?_
       refine wl_v rfl rfl (ov_move _ rfl) ?_
       refine wl_v rfl rfl (ov_bin _ rfl rfl (binR_gtr)) ?_
       refine wl_nil ?_
       refine qn_then ?_
       refine wc_cond (by rfl) (fun c15 => ?_) (fun c15 => ?_)
       ·
        have hnv := hnx (by omega)
        refine wc_seq ?_
        refine wc_region ?_
        refine wl_v rfl rfl (ov_move _ rfl) ?_
        refine wl_lit (d := (Kd.int .i64)) [(0, .int .i64 ((((a - ((spanI x ((findI x a).1)).1)) + ((spanI x ((findI x (b - 1)).1)).2.1)) - b) + (((x).lens).getD (((findI x (b - 1)).1) + 1 : Int).toNat (0 : Int))))] _ [.int .i64 ((((a - ((spanI x ((findI x a).1)).1)) + ((spanI x ((findI x (b - 1)).1)).2.1)) - b) + (((x).lens).getD (((findI x (b - 1)).1) + 1 : Int).toNat (0 : Int)))] ([(((a - ((spanI x ((findI x a).1)).1)) + ((spanI x ((findI x (b - 1)).1)).2.1)) - b) + (((x).lens).getD (((findI x (b - 1)).1) + 1 : Int).toNat (0 : Int))]) h rfl rfl rfl rfl Try.underlying23 infb3 rfl (by decide) (by kernel_rfl) rfl (fun _ _ _ => ((Reps.none _ _).snoc ((Sx.mkInt .i64 ((((a - ((spanI x ((findI x a).1)).1)) + ((spanI x ((findI x (b - 1)).1)).2.1)) - b) + (((x).lens).getD (((findI x (b - 1)).1) + 1 : Int).toNat (0 : Int))))) rfl)) (fun A16 cp17 _ h => ?_)
        refine wl_v rfl rfl (ov_assign _ rfl) ?_
        refine wl_nil ?_
        refine qn_then ?_
        refine wc_region ?_
        refine wl_v rfl rfl (ov_fieldAddr _ ⟨b8, 2, none⟩ _ rfl fo41_2 rfl) ?_
        refine wl_storeb 1 _ [.int .i64 ((findI x a).1), .int .i64 (((((findI x (b - 1)).1) - ((findI x a).1)) + 1) + 1), .int .i64 (1)] h rfl rfl rfl rfl rfl rfl sh3 rfl rfl (fun _ h => ?_)
        refine wl_nil ?_
        refine qn_then ?_
        refine wc_seq ?_
        refine wc_block ?_
        refine wc_seq ?_
        refine wc_draw (fun w => Sx.St w0 F0 ([Sx.row (Kd.int .i64) 3 (A16) (cp17) ([(((a - ((spanI x ((findI x a).1)).1)) + ((spanI x ((findI x (b - 1)).1)).2.1)) - b) + (((x).lens).getD (((findI x (b - 1)).1) + 1 : Int).toNat (0 : Int))]), Sx.blk b8 [.int .i64 ((findI x a).1), .int .i64 (((((findI x (b - 1)).1) - ((findI x a).1)) + 1) + 1), .int .i64 (1)] 41, Sx.blk g [.slice (some ad11) (((x).lens).length) (c6), .int .i64 ((x).size), .bool ((x).open_)] 60, Sx.row (Kd.int .i64) 3 (some ad11) (c6) ((x).lens), Sx.blk b1 [.int .i64 (0), .int .i64 (0), .int .i64 (0)] 41] ++ R) w) (by kernel_rfl) ?_
        replace h := st_drew h
        refine wa_take 0 rfl (by kernel_rfl) (by kernel_rfl) (by kernel_rfl) (fun _ _ _ h => h) rfl rfl (st_selT [true, true, true, true, true] h) (fun w_ hS => ov_fieldAddr _ ⟨b8, 0, none⟩ _ rfl fo41_0 rfl) ?_
        refine wa_take 1 rfl (by kernel_rfl) (by kernel_rfl) (by kernel_rfl) (fun _ _ _ h => h) rfl rfl (st_selT [true, true, true, true, true] h) (fun w_ hS => ov_loadb 1 _ hS rfl rfl sh3 rfl) ?_
        refine wa_take 2 rfl (by kernel_rfl) (by kernel_rfl) (by kernel_rfl) (fun _ _ _ h => h) rfl rfl (st_selT [true, true, true, true, true] h) (fun w_ hS => ov_fieldAddr _ ⟨b8, 1, none⟩ _ rfl fo41_1 rfl) ?_
        refine wa_take 3 rfl (by kernel_rfl) (by kernel_rfl) (by kernel_rfl) (fun _ _ _ h => h) rfl rfl (st_selT [true, true, true, true, true] h) (fun w_ hS => ov_loadb 1 _ hS rfl rfl sh3 rfl) ?_
        refine wa_take 4 rfl (by kernel_rfl) (by kernel_rfl) (by kernel_rfl) (fun _ _ _ h => h) rfl rfl (st_selT [true, true, true, true, true] h) (fun w_ hS => ov_bin _ rfl rfl (binR_add (r := ((findI x a).1) + (((((findI x (b - 1)).1) - ((findI x a).1)) + 1) + 1)) (Sx.w64 (by omega)))) ?_
        refine wa_take 5 rfl (by kernel_rfl) (by kernel_rfl) (by kernel_rfl) (fun _ _ _ h => h) rfl rfl (st_selT [true, true, true, true, true] h) (fun w_ hS => ov_move _ rfl) ?_
        refine wa_take 6 rfl (by kernel_rfl) (by kernel_rfl) (by kernel_rfl) (fun _ _ _ h => h) rfl rfl (st_selT [true, true, true, true, true] h) (fun w_ hS => ov_nilCheck _ rfl) ?_
        refine wa_take 7 rfl (by kernel_rfl) (by kernel_rfl) (by kernel_rfl) (fun _ _ _ h => h) rfl rfl (st_selT [true, true, true, true, true] h) (fun w_ hS => ov_fieldAddr _ ⟨g, 0, none⟩ _ rfl fo60_0 rfl) ?_
        refine wa_take 8 rfl (by kernel_rfl) (by kernel_rfl) (by kernel_rfl) (fun _ _ _ h => h) rfl rfl (st_selT [true, true, true, true, true] h) (fun w_ hS => ov_loadb 2 _ hS rfl rfl sh23 rfl) ?_
        refine wa_take 9 rfl (by kernel_rfl) (by kernel_rfl) (by kernel_rfl) (fun _ _ _ h => h) rfl rfl (st_selT [true, true, true, true, true] h) (fun w_ hS => ov_len _ _ _ _ _ rfl es23) ?_
        refine wa_take 10 rfl (by kernel_rfl) (by kernel_rfl) (by kernel_rfl) (fun _ _ _ h => h) rfl rfl (st_selT [true, true, true, true, true] h) (fun w_ hS => ov_bin _ rfl rfl (binR_lss)) ?_
        refine wa_take 11 rfl (by kernel_rfl) (by kernel_rfl) (by kernel_rfl) (fun _ _ _ h => h) rfl rfl (st_selT [true, true, true, true, true] h) (fun w_ hS => ov_assign _ rfl) ?_
        refine wa_done (by kernel_rfl) ?_
        refine qn_then ?_
        refine wc_cond (by rfl) (fun c18 => ?_) (fun c18 => ?_)
        ·
         have hnv := hnx (by omega)
         refine wc_skip ?_
         refine qn_block_normal ?_
         refine qn_then ?_
         refine wc_seq ?_
         refine wc_region ?_
         refine wl_v rfl rfl (ov_move _ rfl) ?_
         refine wl_v rfl rfl (ov_nilCheck _ rfl) ?_
         refine wl_v rfl rfl (ov_fieldAddr _ ⟨g, 1, none⟩ _ rfl fo60_1 rfl) ?_
         refine wl_v rfl rfl (ov_loadb 2 _ h rfl rfl sh3 rfl) ?_
         refine wl_v rfl rfl (ov_move _ rfl) ?_
         refine wl_v rfl rfl (ov_move _ rfl) ?_
         refine wl_v rfl rfl (ov_bin _ rfl rfl (binR_sub (r := b - a) (Sx.w64 (by omega)))) ?_
         refine wl_v rfl rfl (ov_bin _ rfl rfl (binR_sub (r := ((x).size) - (b - a)) (Sx.w64 (by omega)))) ?_
         refine wl_v rfl rfl (ov_nilCheck _ rfl) ?_
         refine wl_v rfl rfl (ov_fieldAddr _ ⟨g, 1, none⟩ _ rfl fo60_1 rfl) ?_
         refine wl_storeb 2 _ [.slice (some ad11) (((x).lens).length) (c6), .int .i64 (((x).size) - (b - a)), .bool ((x).open_)] h rfl rfl rfl rfl rfl rfl sh3 rfl rfl (fun _ h => ?_)
         refine wl_nil ?_
         refine qn_then ?_
         refine wc_seq ?_
         refine wc_region ?_
         refine wl_v rfl rfl (ov_move _ rfl) ?_
         refine wl_v rfl rfl (ov_loadbN 1 [.int .i64 ((findI x a).1), .int .i64 (((((findI x (b - 1)).1) - ((findI x a).1)) + 1) + 1), .int .i64 (1)] h rfl rfl sh41 rfl) ?_
         refine wl_v rfl rfl (ov_move _ rfl) ?_
         replace h := st_front 3 h
         replace h := st_front 3 h
         replace h := ixB_close ((x).lens) (((x).size) - (b - a)) (((x).open_)) (by first | rfl | simp) h
         refine wl_call _ rfl rfl rfl ent35 (change_calls2 (R := [Sx.row (Kd.int .i64) 3 (A16) (cp17) ([(((a - ((spanI x ((findI x a).1)).1)) + ((spanI x ((findI x (b - 1)).1)).2.1)) - b) + (((x).lens).getD (((findI x (b - 1)).1) + 1 : Int).toNat (0 : Int))]), Sx.blk b8 [.int .i64 ((findI x a).1), .int .i64 (((((findI x (b - 1)).1) - ((findI x a).1)) + 1) + 1), .int .i64 (1)] 41, Sx.blk b1 [.int .i64 (0), .int .i64 (0), .int .i64 (0)] 41] ++ R) g ((⟨(x).lens, ((x).size) - (b - a), ((x).open_)⟩ : IX)) ((findI x a).1) (((((findI x (b - 1)).1) - ((findI x a).1)) + 1) + 1) 1 ([(((a - ((spanI x ((findI x a).1)).1)) + ((spanI x ((findI x (b - 1)).1)).2.1)) - b) + (((x).lens).getD (((findI x (b - 1)).1) + 1 : Int).toNat (0 : Int))]) (A16) (cp17) (([(((a - ((spanI x ((findI x a).1)).1)) + ((spanI x ((findI x (b - 1)).1)).2.1)) - b) + (((x).lens).getD (((findI x (b - 1)).1) + 1 : Int).toNat (0 : Int))] : List _).length) (by first | with_reducible rfl | simp only [List.length_set, List.length_append] | rfl) (by first | omega | simp; omega) (by first | omega | simp; omega) (by first | omega | simp; omega) (by first | omega | simp; omega) (Sx.row_reads_at (R := [Sx.row (Kd.int .i64) 3 (A16) (cp17) ([(((a - ((spanI x ((findI x a).1)).1)) + ((spanI x ((findI x (b - 1)).1)).2.1)) - b) + (((x).lens).getD (((findI x (b - 1)).1) + 1 : Int).toNat (0 : Int))]), Sx.blk b8 [.int .i64 ((findI x a).1), .int .i64 (((((findI x (b - 1)).1) - ((findI x a).1)) + 1) + 1), .int .i64 (1)] 41, Sx.blk b1 [.int .i64 (0), .int .i64 (0), .int .i64 (0)] 41] ++ R) (j := 0) rfl) h) ?_
         rintro e_ w_ ⟨rfl, h⟩
         refine ⟨_, rfl, ?_⟩
         refine wl_nil ?_
         refine qn_then ?_
         refine wc_seq ?_
         refine wc_region ?_
         refine wl_v rfl rfl (ov_loadbN 2 [.int .i64 ((findI x a).1), .int .i64 (((((findI x (b - 1)).1) - ((findI x a).1)) + 1) + 1), .int .i64 (1)] h rfl rfl sh41 rfl) ?_
         refine wl_storebN 3 [.int .i64 ((findI x a).1), .int .i64 (((((findI x (b - 1)).1) - ((findI x a).1)) + 1) + 1), .int .i64 (1)] [.int .i64 ((findI x a).1), .int .i64 (((((findI x (b - 1)).1) - ((findI x a).1)) + 1) + 1), .int .i64 (1)] h rfl rfl rfl rfl (by simp [Value.oneCell']) sh41 rfl rfl (fun _ h => ?_)
         refine wl_v rfl rfl (ov_assign _ rfl) ?_
         refine wl_nil ?_
         refine qn_then ?_
         refine wc_ret ?_
         have hend_ := h
         have e1_ : oldD x a b = ((((findI x (b - 1)).1) - ((findI x a).1)) + 1) + 1 := by omega
         have e3_ : newD x a b = [(((a - ((spanI x ((findI x a).1)).1)) + ((spanI x ((findI x (b - 1)).1)).2.1)) - b) + (((x).lens).getD (((findI x (b - 1)).1) + 1 : Int).toNat (0 : Int))] := by unfold newD; rw [show restD x a b = (((a - ((spanI x ((findI x a).1)).1)) + ((spanI x ((findI x (b - 1)).1)).2.1)) - b) + (((x).lens).getD (((findI x (b - 1)).1) + 1 : Int).toNat (0 : Int)) by omega, if_pos (by omega)]
         have e4_ : openD x a b = (((x).open_)) := by first | exact hO.1 (by omega) | exact hO.2.1 (by omega) (by omega) | exact hO.2.2.1 (by omega) (by omega) (by omega) | exact hO.2.2.2 (by omega) (by omega) (by omega)
         rw [del_fin (by assumption) c3 hfa.1 e1_ e3_ e4_ rfl]
         replace h := st_selT [true, false, false, false] h
         refine qn_ret [_, _] ⟨⟨_, rfl, Sx.loadVarN (vs := [.int .i64 ((findI x a).1), .int .i64 (((((findI x (b - 1)).1) - ((findI x a).1)) + 1) + 1), .int .i64 (1)]) sh41 (Sx.blk_cells (cells := [.int .i64 ((findI x a).1), .int .i64 (((((findI x (b - 1)).1) - ((findI x a).1)) + 1) + 1), .int .i64 (1)]) hend_ (i := 3) rfl 0 _ rfl)⟩, rfl, trivial⟩ ?_
         exact ⟨rfl, h⟩
        ·
         refine wc_seq ?_
         refine wc_region ?_
         refine wl_v rfl rfl (ov_move _ rfl) ?_
         refine wl_v rfl rfl (ov_bin _ rfl rfl (binR_eql)) ?_
         refine wl_v rfl rfl (ov_assign _ rfl) ?_
         refine wl_nil ?_
         refine qn_then ?_
         refine wc_cond (by rfl) (fun c19 => ?_) (fun c19 => ?_)
         ·
          exfalso
          have hnx2 := hnx
          omega
         ·
          refine wc_seq ?_
          refine wc_region ?_
          refine wl_v rfl rfl (ov_move _ rfl) ?_
          refine wl_v rfl rfl (ov_move _ rfl) ?_
          refine wl_v rfl rfl (ov_move _ rfl) ?_
          refine wl_v rfl rfl (ov_bin _ rfl rfl (binR_add (r := ((findI x (b - 1)).1) + 1) (Sx.w64 (by omega)))) ?_
          refine wl_v rfl rfl (ov_move _ rfl) ?_
          refine wl_v rfl rfl (ov_nilCheck _ rfl) ?_
          refine wl_v rfl rfl (ov_fieldAddr _ ⟨g, 0, none⟩ _ rfl fo60_0 rfl) ?_
          refine wl_v rfl rfl (ov_loadb 2 _ h rfl rfl sh23 rfl) ?_
          refine wl_v rfl rfl (ov_len _ _ _ _ _ rfl es23) ?_
          refine wl_v rfl rfl (ov_bin _ rfl rfl (binR_geq)) ?_
          refine wl_v rfl rfl (ov_pick_true _ rfl rfl) ?_
          refine wl_v rfl rfl (ov_assign _ rfl) ?_
          refine wl_nil ?_
          refine qn_then ?_
          refine wc_cond (by rfl) (fun c20 => ?_) (fun c20 => ?_)
          ·
           exfalso
           omega
          ·
           refine wc_skip ?_
           refine qn_block_normal ?_
           refine qn_then ?_
           refine wc_seq ?_
           refine wc_region ?_
           refine wl_v rfl rfl (ov_move _ rfl) ?_
           refine wl_v rfl rfl (ov_nilCheck _ rfl) ?_
           refine wl_v rfl rfl (ov_fieldAddr _ ⟨g, 1, none⟩ _ rfl fo60_1 rfl) ?_
           refine wl_v rfl rfl (ov_loadb 2 _ h rfl rfl sh3 rfl) ?_
           refine wl_v rfl rfl (ov_move _ rfl) ?_
           refine wl_v rfl rfl (ov_move _ rfl) ?_
           refine wl_v rfl rfl (ov_bin _ rfl rfl (binR_sub (r := b - a) (Sx.w64 (by omega)))) ?_
           refine wl_v rfl rfl (ov_bin _ rfl rfl (binR_sub (r := ((x).size) - (b - a)) (Sx.w64 (by omega)))) ?_
           refine wl_v rfl rfl (ov_nilCheck _ rfl) ?_
           refine wl_v rfl rfl (ov_fieldAddr _ ⟨g, 1, none⟩ _ rfl fo60_1 rfl) ?_
           refine wl_storeb 2 _ [.slice (some ad11) (((x).lens).length) (c6), .int .i64 (((x).size) - (b - a)), .bool ((x).open_)] h rfl rfl rfl rfl rfl rfl sh3 rfl rfl (fun _ h => ?_)
           refine wl_nil ?_
           refine qn_then ?_
           refine wc_seq ?_
           refine wc_region ?_
           refine wl_v rfl rfl (ov_move _ rfl) ?_
           refine wl_v rfl rfl (ov_loadbN 1 [.int .i64 ((findI x a).1), .int .i64 (((((findI x (b - 1)).1) - ((findI x a).1)) + 1) + 1), .int .i64 (1)] h rfl rfl sh41 rfl) ?_
           refine wl_v rfl rfl (ov_move _ rfl) ?_
           replace h := st_front 3 h
           replace h := st_front 3 h
           replace h := ixB_close ((x).lens) (((x).size) - (b - a)) (((x).open_)) (by first | rfl | simp) h
           refine wl_call _ rfl rfl rfl ent35 (change_calls2 (R := [Sx.row (Kd.int .i64) 3 (A16) (cp17) ([(((a - ((spanI x ((findI x a).1)).1)) + ((spanI x ((findI x (b - 1)).1)).2.1)) - b) + (((x).lens).getD (((findI x (b - 1)).1) + 1 : Int).toNat (0 : Int))]), Sx.blk b8 [.int .i64 ((findI x a).1), .int .i64 (((((findI x (b - 1)).1) - ((findI x a).1)) + 1) + 1), .int .i64 (1)] 41, Sx.blk b1 [.int .i64 (0), .int .i64 (0), .int .i64 (0)] 41] ++ R) g ((⟨(x).lens, ((x).size) - (b - a), ((x).open_)⟩ : IX)) ((findI x a).1) (((((findI x (b - 1)).1) - ((findI x a).1)) + 1) + 1) 1 ([(((a - ((spanI x ((findI x a).1)).1)) + ((spanI x ((findI x (b - 1)).1)).2.1)) - b) + (((x).lens).getD (((findI x (b - 1)).1) + 1 : Int).toNat (0 : Int))]) (A16) (cp17) (([(((a - ((spanI x ((findI x a).1)).1)) + ((spanI x ((findI x (b - 1)).1)).2.1)) - b) + (((x).lens).getD (((findI x (b - 1)).1) + 1 : Int).toNat (0 : Int))] : List _).length) (by first | with_reducible rfl | simp only [List.length_set, List.length_append] | rfl) (by first | omega | simp; omega) (by first | omega | simp; omega) (by first | omega | simp; omega) (by first | omega | simp; omega) (Sx.row_reads_at (R := [Sx.row (Kd.int .i64) 3 (A16) (cp17) ([(((a - ((spanI x ((findI x a).1)).1)) + ((spanI x ((findI x (b - 1)).1)).2.1)) - b) + (((x).lens).getD (((findI x (b - 1)).1) + 1 : Int).toNat (0 : Int))]), Sx.blk b8 [.int .i64 ((findI x a).1), .int .i64 (((((findI x (b - 1)).1) - ((findI x a).1)) + 1) + 1), .int .i64 (1)] 41, Sx.blk b1 [.int .i64 (0), .int .i64 (0), .int .i64 (0)] 41] ++ R) (j := 0) rfl) h) ?_
           rintro e_ w_ ⟨rfl, h⟩
           refine ⟨_, rfl, ?_⟩
           refine wl_nil ?_
           refine qn_then ?_
           refine wc_seq ?_
           refine wc_region ?_
           refine wl_v rfl rfl (ov_loadbN 2 [.int .i64 ((findI x a).1), .int .i64 (((((findI x (b - 1)).1) - ((findI x a).1)) + 1) + 1), .int .i64 (1)] h rfl rfl sh41 rfl) ?_
           refine wl_storebN 3 [.int .i64 ((findI x a).1), .int .i64 (((((findI x (b - 1)).1) - ((findI x a).1)) + 1) + 1), .int .i64 (1)] [.int .i64 ((findI x a).1), .int .i64 (((((findI x (b - 1)).1) - ((findI x a).1)) + 1) + 1), .int .i64 (1)] h rfl rfl rfl rfl (by simp [Value.oneCell']) sh41 rfl rfl (fun _ h => ?_)
           refine wl_v rfl rfl (ov_assign _ rfl) ?_
           refine wl_nil ?_
           refine qn_then ?_
           refine wc_ret ?_
           have hend_ := h
           have e1_ : oldD x a b = ((((findI x (b - 1)).1) - ((findI x a).1)) + 1) + 1 := by omega
           have e3_ : newD x a b = [(((a - ((spanI x ((findI x a).1)).1)) + ((spanI x ((findI x (b - 1)).1)).2.1)) - b) + (((x).lens).getD (((findI x (b - 1)).1) + 1 : Int).toNat (0 : Int))] := by unfold newD; rw [show restD x a b = (((a - ((spanI x ((findI x a).1)).1)) + ((spanI x ((findI x (b - 1)).1)).2.1)) - b) + (((x).lens).getD (((findI x (b - 1)).1) + 1 : Int).toNat (0 : Int)) by omega, if_pos (by omega)]
           have e4_ : openD x a b = (((x).open_)) := by first | exact hO.1 (by omega) | exact hO.2.1 (by omega) (by omega) | exact hO.2.2.1 (by omega) (by omega) (by omega) | exact hO.2.2.2 (by omega) (by omega) (by omega)
           rw [del_fin (by assumption) c3 hfa.1 e1_ e3_ e4_ rfl]
           replace h := st_selT [true, false, false, false] h
           refine qn_ret [_, _] ⟨⟨_, rfl, Sx.loadVarN (vs := [.int .i64 ((findI x a).1), .int .i64 (((((findI x (b - 1)).1) - ((findI x a).1)) + 1) + 1), .int .i64 (1)]) sh41 (Sx.blk_cells (cells := [.int .i64 ((findI x a).1), .int .i64 (((((findI x (b - 1)).1) - ((findI x a).1)) + 1) + 1), .int .i64 (1)]) hend_ (i := 3) rfl 0 _ rfl)⟩, rfl, trivial⟩ ?_
           exact ⟨rfl, h⟩
       ·
        refine wc_skip ?_
        refine qn_then ?_
        refine wc_seq ?_
        refine wc_block ?_
        refine wc_seq ?_
        refine wc_draw (fun w => Sx.St w0 F0 ([Sx.blk b8 [.int .i64 ((findI x a).1), .int .i64 (((((findI x (b - 1)).1) - ((findI x a).1)) + 1) + 1), .int .i64 (0)] 41, Sx.blk g [.slice (some ad11) (((x).lens).length) (c6), .int .i64 ((x).size), .bool ((x).open_)] 60, Sx.row (Kd.int .i64) 3 (some ad11) (c6) ((x).lens), Sx.blk b1 [.int .i64 (0), .int .i64 (0), .int .i64 (0)] 41] ++ R) w) (by kernel_rfl) ?_
        replace h := st_drew h
        refine wa_take 0 rfl (by kernel_rfl) (by kernel_rfl) (by kernel_rfl) (fun _ _ _ h => h) rfl rfl (st_selT [true, true, true, true] h) (fun w_ hS => ov_fieldAddr _ ⟨b8, 0, none⟩ _ rfl fo41_0 rfl) ?_
        refine wa_take 1 rfl (by kernel_rfl) (by kernel_rfl) (by kernel_rfl) (fun _ _ _ h => h) rfl rfl (st_selT [true, true, true, true] h) (fun w_ hS => ov_loadb 0 _ hS rfl rfl sh3 rfl) ?_
        refine wa_take 2 rfl (by kernel_rfl) (by kernel_rfl) (by kernel_rfl) (fun _ _ _ h => h) rfl rfl (st_selT [true, true, true, true] h) (fun w_ hS => ov_fieldAddr _ ⟨b8, 1, none⟩ _ rfl fo41_1 rfl) ?_
        refine wa_take 3 rfl (by kernel_rfl) (by kernel_rfl) (by kernel_rfl) (fun _ _ _ h => h) rfl rfl (st_selT [true, true, true, true] h) (fun w_ hS => ov_loadb 0 _ hS rfl rfl sh3 rfl) ?_
        refine wa_take 4 rfl (by kernel_rfl) (by kernel_rfl) (by kernel_rfl) (fun _ _ _ h => h) rfl rfl (st_selT [true, true, true, true] h) (fun w_ hS => ov_bin _ rfl rfl (binR_add (r := ((findI x a).1) + (((((findI x (b - 1)).1) - ((findI x a).1)) + 1) + 1)) (Sx.w64 (by omega)))) ?_
        refine wa_take 5 rfl (by kernel_rfl) (by kernel_rfl) (by kernel_rfl) (fun _ _ _ h => h) rfl rfl (st_selT [true, true, true, true] h) (fun w_ hS => ov_move _ rfl) ?_
        refine wa_take 6 rfl (by kernel_rfl) (by kernel_rfl) (by kernel_rfl) (fun _ _ _ h => h) rfl rfl (st_selT [true, true, true, true] h) (fun w_ hS => ov_nilCheck _ rfl) ?_
        refine wa_take 7 rfl (by kernel_rfl) (by kernel_rfl) (by kernel_rfl) (fun _ _ _ h => h) rfl rfl (st_selT [true, true, true, true] h) (fun w_ hS => ov_fieldAddr _ ⟨g, 0, none⟩ _ rfl fo60_0 rfl) ?_
        refine wa_take 8 rfl (by kernel_rfl) (by kernel_rfl) (by kernel_rfl) (fun _ _ _ h => h) rfl rfl (st_selT [true, true, true, true] h) (fun w_ hS => ov_loadb 1 _ hS rfl rfl sh23 rfl) ?_
        refine wa_take 9 rfl (by kernel_rfl) (by kernel_rfl) (by kernel_rfl) (fun _ _ _ h => h) rfl rfl (st_selT [true, true, true, true] h) (fun w_ hS => ov_len _ _ _ _ _ rfl es23) ?_
        refine wa_take 10 rfl (by kernel_rfl) (by kernel_rfl) (by kernel_rfl) (fun _ _ _ h => h) rfl rfl (st_selT [true, true, true, true] h) (fun w_ hS => ov_bin _ rfl rfl (binR_lss)) ?_
        refine wa_take 11 rfl (by kernel_rfl) (by kernel_rfl) (by kernel_rfl) (fun _ _ _ h => h) rfl rfl (st_selT [true, true, true, true] h) (fun w_ hS => ov_assign _ rfl) ?_
        refine wa_done (by kernel_rfl) ?_
        refine qn_then ?_
        refine wc_cond (by rfl) (fun c21 => ?_) (fun c21 => ?_)
        ·
         have hnv := hnx (by omega)
         refine wc_skip ?_
         refine qn_block_normal ?_
         refine qn_then ?_
         refine wc_seq ?_
         refine wc_region ?_
         refine wl_v rfl rfl (ov_move _ rfl) ?_
         refine wl_v rfl rfl (ov_nilCheck _ rfl) ?_
         refine wl_v rfl rfl (ov_fieldAddr _ ⟨g, 1, none⟩ _ rfl fo60_1 rfl) ?_
         refine wl_v rfl rfl (ov_loadb 1 _ h rfl rfl sh3 rfl) ?_
         refine wl_v rfl rfl (ov_move _ rfl) ?_
         refine wl_v rfl rfl (ov_move _ rfl) ?_
         refine wl_v rfl rfl (ov_bin _ rfl rfl (binR_sub (r := b - a) (Sx.w64 (by omega)))) ?_
         refine wl_v rfl rfl (ov_bin _ rfl rfl (binR_sub (r := ((x).size) - (b - a)) (Sx.w64 (by omega)))) ?_
         refine wl_v rfl rfl (ov_nilCheck _ rfl) ?_
         refine wl_v rfl rfl (ov_fieldAddr _ ⟨g, 1, none⟩ _ rfl fo60_1 rfl) ?_
         refine wl_storeb 1 _ [.slice (some ad11) (((x).lens).length) (c6), .int .i64 (((x).size) - (b - a)), .bool ((x).open_)] h rfl rfl rfl rfl rfl rfl sh3 rfl rfl (fun _ h => ?_)
         refine wl_nil ?_
         refine qn_then ?_
         refine wc_seq ?_
         refine wc_region ?_
         refine wl_v rfl rfl (ov_move _ rfl) ?_
         refine wl_v rfl rfl (ov_loadbN 0 [.int .i64 ((findI x a).1), .int .i64 (((((findI x (b - 1)).1) - ((findI x a).1)) + 1) + 1), .int .i64 (0)] h rfl rfl sh41 rfl) ?_
         refine wl_v rfl rfl (ov_move _ rfl) ?_
         replace h := st_front 2 h
         replace h := st_front 2 h
         replace h := ixB_close ((x).lens) (((x).size) - (b - a)) (((x).open_)) (by first | rfl | simp) h
         refine wl_call _ rfl rfl rfl ent35 (change_calls2 (R := [Sx.blk b8 [.int .i64 ((findI x a).1), .int .i64 (((((findI x (b - 1)).1) - ((findI x a).1)) + 1) + 1), .int .i64 (0)] 41, Sx.blk b1 [.int .i64 (0), .int .i64 (0), .int .i64 (0)] 41] ++ R) g ((⟨(x).lens, ((x).size) - (b - a), ((x).open_)⟩ : IX)) ((findI x a).1) (((((findI x (b - 1)).1) - ((findI x a).1)) + 1) + 1) 0 ([]) (none) (0) (0) (by first | with_reducible rfl | simp only [List.length_set, List.length_append] | rfl) (by first | omega | simp; omega) (by first | omega | simp; omega) (by first | omega | simp; omega) (by first | omega | simp; omega) (fun _ _ _ => Kd.C_nil _ _) h) ?_
         rintro e_ w_ ⟨rfl, h⟩
         refine ⟨_, rfl, ?_⟩
         refine wl_nil ?_
         refine qn_then ?_
         refine wc_seq ?_
         refine wc_region ?_
         refine wl_v rfl rfl (ov_loadbN 1 [.int .i64 ((findI x a).1), .int .i64 (((((findI x (b - 1)).1) - ((findI x a).1)) + 1) + 1), .int .i64 (0)] h rfl rfl sh41 rfl) ?_
         refine wl_storebN 2 [.int .i64 ((findI x a).1), .int .i64 (((((findI x (b - 1)).1) - ((findI x a).1)) + 1) + 1), .int .i64 (0)] [.int .i64 ((findI x a).1), .int .i64 (((((findI x (b - 1)).1) - ((findI x a).1)) + 1) + 1), .int .i64 (0)] h rfl rfl rfl rfl (by simp [Value.oneCell']) sh41 rfl rfl (fun _ h => ?_)
         refine wl_v rfl rfl (ov_assign _ rfl) ?_
         refine wl_nil ?_
         refine qn_then ?_
         refine wc_ret ?_
         have hend_ := h
         have e1_ : oldD x a b = ((((findI x (b - 1)).1) - ((findI x a).1)) + 1) + 1 := by omega
         have e3_ : newD x a b = [] := by unfold newD; rw [if_neg (by omega)]
         have e4_ : openD x a b = (((x).open_)) := by first | exact hO.1 (by omega) | exact hO.2.1 (by omega) (by omega) | exact hO.2.2.1 (by omega) (by omega) (by omega) | exact hO.2.2.2 (by omega) (by omega) (by omega)
         rw [del_fin (by assumption) c3 hfa.1 e1_ e3_ e4_ rfl]
         replace h := st_selT [true, false, false] h
         refine qn_ret [_, _] ⟨⟨_, rfl, Sx.loadVarN (vs := [.int .i64 ((findI x a).1), .int .i64 (((((findI x (b - 1)).1) - ((findI x a).1)) + 1) + 1), .int .i64 (0)]) sh41 (Sx.blk_cells (cells := [.int .i64 ((findI x a).1), .int .i64 (((((findI x (b - 1)).1) - ((findI x a).1)) + 1) + 1), .int .i64 (0)]) hend_ (i := 2) rfl 0 _ rfl)⟩, rfl, trivial⟩ ?_
         exact ⟨rfl, h⟩
        ·
         refine wc_seq ?_
         refine wc_region ?_
         refine wl_v rfl rfl (ov_move _ rfl) ?_
         refine wl_v rfl rfl (ov_bin _ rfl rfl (binR_eql)) ?_
         refine wl_v rfl rfl (ov_assign _ rfl) ?_
         refine wl_nil ?_
         refine qn_then ?_
         refine wc_cond (by rfl) (fun c22 => ?_) (fun c22 => ?_)
         ·
          refine wc_region ?_
          refine wl_v rfl rfl (ov_move _ rfl) ?_
          refine wl_v rfl rfl (ov_nilCheck _ rfl) ?_
          refine wl_v rfl rfl (ov_fieldAddr _ ⟨g, 2, none⟩ _ rfl fo60_2 rfl) ?_
          refine wl_storeb 1 _ [.slice (some ad11) (((x).lens).length) (c6), .int .i64 ((x).size), .bool false] h rfl rfl rfl rfl rfl rfl sh4 rfl rfl (fun _ h => ?_)
          refine wl_nil ?_
          refine qn_block_normal ?_
          refine qn_then ?_
          refine wc_seq ?_
          refine wc_region ?_
          refine wl_v rfl rfl (ov_move _ rfl) ?_
          refine wl_v rfl rfl (ov_nilCheck _ rfl) ?_
          refine wl_v rfl rfl (ov_fieldAddr _ ⟨g, 1, none⟩ _ rfl fo60_1 rfl) ?_
          refine wl_v rfl rfl (ov_loadb 1 _ h rfl rfl sh3 rfl) ?_
          refine wl_v rfl rfl (ov_move _ rfl) ?_
          refine wl_v rfl rfl (ov_move _ rfl) ?_
          refine wl_v rfl rfl (ov_bin _ rfl rfl (binR_sub (r := b - a) (Sx.w64 (by omega)))) ?_
          refine wl_v rfl rfl (ov_bin _ rfl rfl (binR_sub (r := ((x).size) - (b - a)) (Sx.w64 (by omega)))) ?_
          refine wl_v rfl rfl (ov_nilCheck _ rfl) ?_
          refine wl_v rfl rfl (ov_fieldAddr _ ⟨g, 1, none⟩ _ rfl fo60_1 rfl) ?_
          refine wl_storeb 1 _ [.slice (some ad11) (((x).lens).length) (c6), .int .i64 (((x).size) - (b - a)), .bool false] h rfl rfl rfl rfl rfl rfl sh3 rfl rfl (fun _ h => ?_)
          refine wl_nil ?_
          refine qn_then ?_
          refine wc_seq ?_
          refine wc_region ?_
          refine wl_v rfl rfl (ov_move _ rfl) ?_
          refine wl_v rfl rfl (ov_loadbN 0 [.int .i64 ((findI x a).1), .int .i64 (((((findI x (b - 1)).1) - ((findI x a).1)) + 1) + 1), .int .i64 (0)] h rfl rfl sh41 rfl) ?_
          refine wl_v rfl rfl (ov_move _ rfl) ?_
          replace h := st_front 2 h
          replace h := st_front 2 h
          replace h := ixB_close ((x).lens) (((x).size) - (b - a)) (false) (by first | rfl | simp) h
          refine wl_call _ rfl rfl rfl ent35 (change_calls2 (R := [Sx.blk b8 [.int .i64 ((findI x a).1), .int .i64 (((((findI x (b - 1)).1) - ((findI x a).1)) + 1) + 1), .int .i64 (0)] 41, Sx.blk b1 [.int .i64 (0), .int .i64 (0), .int .i64 (0)] 41] ++ R) g ((⟨(x).lens, ((x).size) - (b - a), false⟩ : IX)) ((findI x a).1) (((((findI x (b - 1)).1) - ((findI x a).1)) + 1) + 1) 0 ([]) (none) (0) (0) (by first | with_reducible rfl | simp only [List.length_set, List.length_append] | rfl) (by first | omega | simp; omega) (by first | omega | simp; omega) (by first | omega | simp; omega) (by first | omega | simp; omega) (fun _ _ _ => Kd.C_nil _ _) h) ?_
          rintro e_ w_ ⟨rfl, h⟩
          refine ⟨_, rfl, ?_⟩
          refine wl_nil ?_
          refine qn_then ?_
          refine wc_seq ?_
          refine wc_region ?_
          refine wl_v rfl rfl (ov_loadbN 1 [.int .i64 ((findI x a).1), .int .i64 (((((findI x (b - 1)).1) - ((findI x a).1)) + 1) + 1), .int .i64 (0)] h rfl rfl sh41 rfl) ?_
          refine wl_storebN 2 [.int .i64 ((findI x a).1), .int .i64 (((((findI x (b - 1)).1) - ((findI x a).1)) + 1) + 1), .int .i64 (0)] [.int .i64 ((findI x a).1), .int .i64 (((((findI x (b - 1)).1) - ((findI x a).1)) + 1) + 1), .int .i64 (0)] h rfl rfl rfl rfl (by simp [Value.oneCell']) sh41 rfl rfl (fun _ h => ?_)
          refine wl_v rfl rfl (ov_assign _ rfl) ?_
          refine wl_nil ?_
          refine qn_then ?_
          refine wc_ret ?_
          have hend_ := h
          have e1_ : oldD x a b = ((((findI x (b - 1)).1) - ((findI x a).1)) + 1) + 1 := by omega
          have e3_ : newD x a b = [] := by unfold newD; rw [if_neg (by omega)]
          have e4_ : openD x a b = (false) := by first | exact hO.1 (by omega) | exact hO.2.1 (by omega) (by omega) | exact hO.2.2.1 (by omega) (by omega) (by omega) | exact hO.2.2.2 (by omega) (by omega) (by omega)
          rw [del_fin (by assumption) c3 hfa.1 e1_ e3_ e4_ rfl]
          replace h := st_selT [true, false, false] h
          refine qn_ret [_, _] ⟨⟨_, rfl, Sx.loadVarN (vs := [.int .i64 ((findI x a).1), .int .i64 (((((findI x (b - 1)).1) - ((findI x a).1)) + 1) + 1), .int .i64 (0)]) sh41 (Sx.blk_cells (cells := [.int .i64 ((findI x a).1), .int .i64 (((((findI x (b - 1)).1) - ((findI x a).1)) + 1) + 1), .int .i64 (0)]) hend_ (i := 2) rfl 0 _ rfl)⟩, rfl, trivial⟩ ?_
          exact ⟨rfl, h⟩
         ·
          exfalso
          have hnx2 := hnx
          omega
      ·
       refine wc_skip ?_
       refine qn_then ?_
       refine wc_seq ?_
       refine wc_region ?_
       refine wl_v rfl rfl (ov_assign _ rfl) ?_
       refine wl_nil ?_
       refine qn_then ?_
       refine wc_seq ?_
       refine wc_seq ?_
       refine wc_region ?_
       refine wl_v rfl rfl (ov_move _ rfl) ?_
       refine wl_v rfl rfl (ov_bin _ rfl rfl (binR_gtr)) ?_
       refine wl_nil ?_
       refine qn_then ?_
       refine wc_cond (by rfl) (fun c23 => ?_) (fun c23 => ?_)
       ·
        refine wc_seq ?_
        refine wc_region ?_
        refine wl_v rfl rfl (ov_move _ rfl) ?_
        refine wl_lit (d := (Kd.int .i64)) [(0, .int .i64 (((a - ((spanI x ((findI x a).1)).1)) + ((spanI x ((findI x (b - 1)).1)).2.1)) - b))] _ [.int .i64 (((a - ((spanI x ((findI x a).1)).1)) + ((spanI x ((findI x (b - 1)).1)).2.1)) - b)] ([((a - ((spanI x ((findI x a).1)).1)) + ((spanI x ((findI x (b - 1)).1)).2.1)) - b]) h rfl rfl rfl rfl Try.underlying23 infb3 rfl (by decide) (by kernel_rfl) rfl (fun _ _ _ => ((Reps.none _ _).snoc ((Sx.mkInt .i64 (((a - ((spanI x ((findI x a).1)).1)) + ((spanI x ((findI x (b - 1)).1)).2.1)) - b))) rfl)) (fun A24 cp25 _ h => ?_)
        refine wl_v rfl rfl (ov_assign _ rfl) ?_
        refine wl_nil ?_
        refine qn_then ?_
        refine wc_region ?_
        refine wl_v rfl rfl (ov_fieldAddr _ ⟨b8, 2, none⟩ _ rfl fo41_2 rfl) ?_
        refine wl_storeb 1 _ [.int .i64 ((findI x a).1), .int .i64 ((((findI x (b - 1)).1) - ((findI x a).1)) + 1), .int .i64 (1)] h rfl rfl rfl rfl rfl rfl sh3 rfl rfl (fun _ h => ?_)
        refine wl_nil ?_
        refine qn_then ?_
        refine wc_seq ?_
        refine wc_block ?_
        refine wc_seq ?_
        refine wc_draw (fun w => Sx.St w0 F0 ([Sx.row (Kd.int .i64) 3 (A24) (cp25) ([((a - ((spanI x ((findI x a).1)).1)) + ((spanI x ((findI x (b - 1)).1)).2.1)) - b]), Sx.blk b8 [.int .i64 ((findI x a).1), .int .i64 ((((findI x (b - 1)).1) - ((findI x a).1)) + 1), .int .i64 (1)] 41, Sx.blk g [.slice (A5) (((x).lens).length) (c6), .int .i64 ((x).size), .bool ((x).open_)] 60, Sx.row (Kd.int .i64) 3 (A5) (c6) ((x).lens), Sx.blk b1 [.int .i64 (0), .int .i64 (0), .int .i64 (0)] 41] ++ R) w) (by kernel_rfl) ?_
        replace h := st_drew h
        refine wa_take 0 rfl (by kernel_rfl) (by kernel_rfl) (by kernel_rfl) (fun _ _ _ h => h) rfl rfl (st_selT [true, true, true, true, true] h) (fun w_ hS => ov_fieldAddr _ ⟨b8, 0, none⟩ _ rfl fo41_0 rfl) ?_
        refine wa_take 1 rfl (by kernel_rfl) (by kernel_rfl) (by kernel_rfl) (fun _ _ _ h => h) rfl rfl (st_selT [true, true, true, true, true] h) (fun w_ hS => ov_loadb 1 _ hS rfl rfl sh3 rfl) ?_
        refine wa_take 2 rfl (by kernel_rfl) (by kernel_rfl) (by kernel_rfl) (fun _ _ _ h => h) rfl rfl (st_selT [true, true, true, true, true] h) (fun w_ hS => ov_fieldAddr _ ⟨b8, 1, none⟩ _ rfl fo41_1 rfl) ?_
        refine wa_take 3 rfl (by kernel_rfl) (by kernel_rfl) (by kernel_rfl) (fun _ _ _ h => h) rfl rfl (st_selT [true, true, true, true, true] h) (fun w_ hS => ov_loadb 1 _ hS rfl rfl sh3 rfl) ?_
        refine wa_take 4 rfl (by kernel_rfl) (by kernel_rfl) (by kernel_rfl) (fun _ _ _ h => h) rfl rfl (st_selT [true, true, true, true, true] h) (fun w_ hS => ov_bin _ rfl rfl (binR_add (r := ((findI x a).1) + ((((findI x (b - 1)).1) - ((findI x a).1)) + 1)) (Sx.w64 (by omega)))) ?_
        refine wa_take 5 rfl (by kernel_rfl) (by kernel_rfl) (by kernel_rfl) (fun _ _ _ h => h) rfl rfl (st_selT [true, true, true, true, true] h) (fun w_ hS => ov_move _ rfl) ?_
        refine wa_take 6 rfl (by kernel_rfl) (by kernel_rfl) (by kernel_rfl) (fun _ _ _ h => h) rfl rfl (st_selT [true, true, true, true, true] h) (fun w_ hS => ov_nilCheck _ rfl) ?_
        refine wa_take 7 rfl (by kernel_rfl) (by kernel_rfl) (by kernel_rfl) (fun _ _ _ h => h) rfl rfl (st_selT [true, true, true, true, true] h) (fun w_ hS => ov_fieldAddr _ ⟨g, 0, none⟩ _ rfl fo60_0 rfl) ?_
        refine wa_take 8 rfl (by kernel_rfl) (by kernel_rfl) (by kernel_rfl) (fun _ _ _ h => h) rfl rfl (st_selT [true, true, true, true, true] h) (fun w_ hS => ov_loadb 2 _ hS rfl rfl sh23 rfl) ?_
        refine wa_take 9 rfl (by kernel_rfl) (by kernel_rfl) (by kernel_rfl) (fun _ _ _ h => h) rfl rfl (st_selT [true, true, true, true, true] h) (fun w_ hS => ov_len _ _ _ _ _ rfl es23) ?_
        refine wa_take 10 rfl (by kernel_rfl) (by kernel_rfl) (by kernel_rfl) (fun _ _ _ h => h) rfl rfl (st_selT [true, true, true, true, true] h) (fun w_ hS => ov_bin _ rfl rfl (binR_lss)) ?_
        refine wa_take 11 rfl (by kernel_rfl) (by kernel_rfl) (by kernel_rfl) (fun _ _ _ h => h) rfl rfl (st_selT [true, true, true, true, true] h) (fun w_ hS => ov_assign _ rfl) ?_
        refine wa_done (by kernel_rfl) ?_
        refine qn_then ?_
        refine wc_cond (by rfl) (fun c26 => ?_) (fun c26 => ?_)
        ·
         have hnv := hnx (by omega)
         refine wc_skip ?_
         refine qn_block_normal ?_
         refine qn_then ?_
         refine wc_seq ?_
         refine wc_region ?_
         refine wl_v rfl rfl (ov_move _ rfl) ?_
         refine wl_v rfl rfl (ov_nilCheck _ rfl) ?_
         refine wl_v rfl rfl (ov_fieldAddr _ ⟨g, 1, none⟩ _ rfl fo60_1 rfl) ?_
         refine wl_v rfl rfl (ov_loadb 2 _ h rfl rfl sh3 rfl) ?_
         refine wl_v rfl rfl (ov_move _ rfl) ?_
         refine wl_v rfl rfl (ov_move _ rfl) ?_
         refine wl_v rfl rfl (ov_bin _ rfl rfl (binR_sub (r := b - a) (Sx.w64 (by omega)))) ?_
         refine wl_v rfl rfl (ov_bin _ rfl rfl (binR_sub (r := ((x).size) - (b - a)) (Sx.w64 (by omega)))) ?_
         refine wl_v rfl rfl (ov_nilCheck _ rfl) ?_
         refine wl_v rfl rfl (ov_fieldAddr _ ⟨g, 1, none⟩ _ rfl fo60_1 rfl) ?_
         refine wl_storeb 2 _ [.slice (A5) (((x).lens).length) (c6), .int .i64 (((x).size) - (b - a)), .bool ((x).open_)] h rfl rfl rfl rfl rfl rfl sh3 rfl rfl (fun _ h => ?_)
         refine wl_nil ?_
         refine qn_then ?_
         refine wc_seq ?_
         refine wc_region ?_
         refine wl_v rfl rfl (ov_move _ rfl) ?_
         refine wl_v rfl rfl (ov_loadbN 1 [.int .i64 ((findI x a).1), .int .i64 ((((findI x (b - 1)).1) - ((findI x a).1)) + 1), .int .i64 (1)] h rfl rfl sh41 rfl) ?_
         refine wl_v rfl rfl (ov_move _ rfl) ?_
         replace h := st_front 3 h
         replace h := st_front 3 h
         replace h := ixB_close ((x).lens) (((x).size) - (b - a)) (((x).open_)) (by first | rfl | simp) h
         refine wl_call _ rfl rfl rfl ent35 (change_calls2 (R := [Sx.row (Kd.int .i64) 3 (A24) (cp25) ([((a - ((spanI x ((findI x a).1)).1)) + ((spanI x ((findI x (b - 1)).1)).2.1)) - b]), Sx.blk b8 [.int .i64 ((findI x a).1), .int .i64 ((((findI x (b - 1)).1) - ((findI x a).1)) + 1), .int .i64 (1)] 41, Sx.blk b1 [.int .i64 (0), .int .i64 (0), .int .i64 (0)] 41] ++ R) g ((⟨(x).lens, ((x).size) - (b - a), ((x).open_)⟩ : IX)) ((findI x a).1) ((((findI x (b - 1)).1) - ((findI x a).1)) + 1) 1 ([((a - ((spanI x ((findI x a).1)).1)) + ((spanI x ((findI x (b - 1)).1)).2.1)) - b]) (A24) (cp25) (([((a - ((spanI x ((findI x a).1)).1)) + ((spanI x ((findI x (b - 1)).1)).2.1)) - b] : List _).length) (by first | with_reducible rfl | simp only [List.length_set, List.length_append] | rfl) (by first | omega | simp; omega) (by first | omega | simp; omega) (by first | omega | simp; omega) (by first | omega | simp; omega) (Sx.row_reads_at (R := [Sx.row (Kd.int .i64) 3 (A24) (cp25) ([((a - ((spanI x ((findI x a).1)).1)) + ((spanI x ((findI x (b - 1)).1)).2.1)) - b]), Sx.blk b8 [.int .i64 ((findI x a).1), .int .i64 ((((findI x (b - 1)).1) - ((findI x a).1)) + 1), .int .i64 (1)] 41, Sx.blk b1 [.int .i64 (0), .int .i64 (0), .int .i64 (0)] 41] ++ R) (j := 0) rfl) h) ?_
         rintro e_ w_ ⟨rfl, h⟩
         refine ⟨_, rfl, ?_⟩
         refine wl_nil ?_
         refine qn_then ?_
         refine wc_seq ?_
         refine wc_region ?_
         refine wl_v rfl rfl (ov_loadbN 2 [.int .i64 ((findI x a).1), .int .i64 ((((findI x (b - 1)).1) - ((findI x a).1)) + 1), .int .i64 (1)] h rfl rfl sh41 rfl) ?_
         refine wl_storebN 3 [.int .i64 ((findI x a).1), .int .i64 ((((findI x (b - 1)).1) - ((findI x a).1)) + 1), .int .i64 (1)] [.int .i64 ((findI x a).1), .int .i64 ((((findI x (b - 1)).1) - ((findI x a).1)) + 1), .int .i64 (1)] h rfl rfl rfl rfl (by simp [Value.oneCell']) sh41 rfl rfl (fun _ h => ?_)
         refine wl_v rfl rfl (ov_assign _ rfl) ?_
         refine wl_nil ?_
         refine qn_then ?_
         refine wc_ret ?_
         have hend_ := h
         have e1_ : oldD x a b = (((findI x (b - 1)).1) - ((findI x a).1)) + 1 := by omega
         have e3_ : newD x a b = [((a - ((spanI x ((findI x a).1)).1)) + ((spanI x ((findI x (b - 1)).1)).2.1)) - b] := by unfold newD; rw [show restD x a b = ((a - ((spanI x ((findI x a).1)).1)) + ((spanI x ((findI x (b - 1)).1)).2.1)) - b by omega, if_pos (by omega)]
         have e4_ : openD x a b = (((x).open_)) := by first | exact hO.1 (by omega) | exact hO.2.1 (by omega) (by omega) | exact hO.2.2.1 (by omega) (by omega) (by omega) | exact hO.2.2.2 (by omega) (by omega) (by omega)
         rw [del_fin (by assumption) c3 hfa.1 e1_ e3_ e4_ rfl]
         replace h := st_selT [true, false, false, false] h
         refine qn_ret [_, _] ⟨⟨_, rfl, Sx.loadVarN (vs := [.int .i64 ((findI x a).1), .int .i64 ((((findI x (b - 1)).1) - ((findI x a).1)) + 1), .int .i64 (1)]) sh41 (Sx.blk_cells (cells := [.int .i64 ((findI x a).1), .int .i64 ((((findI x (b - 1)).1) - ((findI x a).1)) + 1), .int .i64 (1)]) hend_ (i := 3) rfl 0 _ rfl)⟩, rfl, trivial⟩ ?_
         exact ⟨rfl, h⟩
        ·
         refine wc_seq ?_
         refine wc_region ?_
         refine wl_v rfl rfl (ov_move _ rfl) ?_
         refine wl_v rfl rfl (ov_bin _ rfl rfl (binR_eql)) ?_
         refine wl_v rfl rfl (ov_assign _ rfl) ?_
         refine wl_nil ?_
         refine qn_then ?_
         refine wc_cond (by rfl) (fun c27 => ?_) (fun c27 => ?_)
         ·
          exfalso
          have hnx2 := hnx
          omega
         ·
          refine wc_seq ?_
          refine wc_region ?_
          refine wl_v rfl rfl (ov_move _ rfl) ?_
          refine wl_v rfl rfl (ov_move _ rfl) ?_
          refine wl_v rfl rfl (ov_move _ rfl) ?_
          refine wl_v rfl rfl (ov_bin _ rfl rfl (binR_add (r := ((findI x (b - 1)).1) + 1) (Sx.w64 (by omega)))) ?_
          refine wl_v rfl rfl (ov_move _ rfl) ?_
          refine wl_v rfl rfl (ov_nilCheck _ rfl) ?_
          refine wl_v rfl rfl (ov_fieldAddr _ ⟨g, 0, none⟩ _ rfl fo60_0 rfl) ?_
          refine wl_v rfl rfl (ov_loadb 2 _ h rfl rfl sh23 rfl) ?_
          refine wl_v rfl rfl (ov_len _ _ _ _ _ rfl es23) ?_
          refine wl_v rfl rfl (ov_bin _ rfl rfl (binR_geq)) ?_
          refine wl_v rfl rfl (ov_pick_true _ rfl rfl) ?_
          refine wl_v rfl rfl (ov_assign _ rfl) ?_
          refine wl_nil ?_
          refine qn_then ?_
          refine wc_cond (by rfl) (fun c28 => ?_) (fun c28 => ?_)
          ·
           refine wc_region ?_
           refine wl_v rfl rfl (ov_move _ rfl) ?_
           refine wl_v rfl rfl (ov_nilCheck _ rfl) ?_
           refine wl_v rfl rfl (ov_fieldAddr _ ⟨g, 2, none⟩ _ rfl fo60_2 rfl) ?_
           refine wl_storeb 2 _ [.slice (A5) (((x).lens).length) (c6), .int .i64 ((x).size), .bool true] h rfl rfl rfl rfl rfl rfl sh4 rfl rfl (fun _ h => ?_)
           refine wl_nil ?_
           refine qn_block_normal ?_
           refine qn_then ?_
           refine wc_seq ?_
           refine wc_region ?_
           refine wl_v rfl rfl (ov_move _ rfl) ?_
           refine wl_v rfl rfl (ov_nilCheck _ rfl) ?_
           refine wl_v rfl rfl (ov_fieldAddr _ ⟨g, 1, none⟩ _ rfl fo60_1 rfl) ?_
           refine wl_v rfl rfl (ov_loadb 2 _ h rfl rfl sh3 rfl) ?_
           refine wl_v rfl rfl (ov_move _ rfl) ?_
           refine wl_v rfl rfl (ov_move _ rfl) ?_
           refine wl_v rfl rfl (ov_bin _ rfl rfl (binR_sub (r := b - a) (Sx.w64 (by omega)))) ?_
           refine wl_v rfl rfl (ov_bin _ rfl rfl (binR_sub (r := ((x).size) - (b - a)) (Sx.w64 (by omega)))) ?_
           refine wl_v rfl rfl (ov_nilCheck _ rfl) ?_
           refine wl_v rfl rfl (ov_fieldAddr _ ⟨g, 1, none⟩ _ rfl fo60_1 rfl) ?_
           refine wl_storeb 2 _ [.slice (A5) (((x).lens).length) (c6), .int .i64 (((x).size) - (b - a)), .bool true] h rfl rfl rfl rfl rfl rfl sh3 rfl rfl (fun _ h => ?_)
           refine wl_nil ?_
           refine qn_then ?_
           refine wc_seq ?_
           refine wc_region ?_
           refine wl_v rfl rfl (ov_move _ rfl) ?_
           refine wl_v rfl rfl (ov_loadbN 1 [.int .i64 ((findI x a).1), .int .i64 ((((findI x (b - 1)).1) - ((findI x a).1)) + 1), .int .i64 (1)] h rfl rfl sh41 rfl) ?_
           refine wl_v rfl rfl (ov_move _ rfl) ?_
           replace h := st_front 3 h
           replace h := st_front 3 h
           replace h := ixB_close ((x).lens) (((x).size) - (b - a)) (true) (by first | rfl | simp) h
           refine wl_call _ rfl rfl rfl ent35 (change_calls2 (R := [Sx.row (Kd.int .i64) 3 (A24) (cp25) ([((a - ((spanI x ((findI x a).1)).1)) + ((spanI x ((findI x (b - 1)).1)).2.1)) - b]), Sx.blk b8 [.int .i64 ((findI x a).1), .int .i64 ((((findI x (b - 1)).1) - ((findI x a).1)) + 1), .int .i64 (1)] 41, Sx.blk b1 [.int .i64 (0), .int .i64 (0), .int .i64 (0)] 41] ++ R) g ((⟨(x).lens, ((x).size) - (b - a), true⟩ : IX)) ((findI x a).1) ((((findI x (b - 1)).1) - ((findI x a).1)) + 1) 1 ([((a - ((spanI x ((findI x a).1)).1)) + ((spanI x ((findI x (b - 1)).1)).2.1)) - b]) (A24) (cp25) (([((a - ((spanI x ((findI x a).1)).1)) + ((spanI x ((findI x (b - 1)).1)).2.1)) - b] : List _).length) (by first | with_reducible rfl | simp only [List.length_set, List.length_append] | rfl) (by first | omega | simp; omega) (by first | omega | simp; omega) (by first | omega | simp; omega) (by first | omega | simp; omega) (Sx.row_reads_at (R := [Sx.row (Kd.int .i64) 3 (A24) (cp25) ([((a - ((spanI x ((findI x a).1)).1)) + ((spanI x ((findI x (b - 1)).1)).2.1)) - b]), Sx.blk b8 [.int .i64 ((findI x a).1), .int .i64 ((((findI x (b - 1)).1) - ((findI x a).1)) + 1), .int .i64 (1)] 41, Sx.blk b1 [.int .i64 (0), .int .i64 (0), .int .i64 (0)] 41] ++ R) (j := 0) rfl) h) ?_
           rintro e_ w_ ⟨rfl, h⟩
           refine ⟨_, rfl, ?_⟩
           refine wl_nil ?_
           refine qn_then ?_
           refine wc_seq ?_
           refine wc_region ?_
           refine wl_v rfl rfl (ov_loadbN 2 [.int .i64 ((findI x a).1), .int .i64 ((((findI x (b - 1)).1) - ((findI x a).1)) + 1), .int .i64 (1)] h rfl rfl sh41 rfl) ?_
           refine wl_storebN 3 [.int .i64 ((findI x a).1), .int .i64 ((((findI x (b - 1)).1) - ((findI x a).1)) + 1), .int .i64 (1)] [.int .i64 ((findI x a).1), .int .i64 ((((findI x (b - 1)).1) - ((findI x a).1)) + 1), .int .i64 (1)] h rfl rfl rfl rfl (by simp [Value.oneCell']) sh41 rfl rfl (fun _ h => ?_)
           refine wl_v rfl rfl (ov_assign _ rfl) ?_
           refine wl_nil ?_
           refine qn_then ?_
           refine wc_ret ?_
           have hend_ := h
           have e1_ : oldD x a b = (((findI x (b - 1)).1) - ((findI x a).1)) + 1 := by omega
           have e3_ : newD x a b = [((a - ((spanI x ((findI x a).1)).1)) + ((spanI x ((findI x (b - 1)).1)).2.1)) - b] := by unfold newD; rw [show restD x a b = ((a - ((spanI x ((findI x a).1)).1)) + ((spanI x ((findI x (b - 1)).1)).2.1)) - b by omega, if_pos (by omega)]
           have e4_ : openD x a b = (true) := by first | exact hO.1 (by omega) | exact hO.2.1 (by omega) (by omega) | exact hO.2.2.1 (by omega) (by omega) (by omega) | exact hO.2.2.2 (by omega) (by omega) (by omega)
           rw [del_fin (by assumption) c3 hfa.1 e1_ e3_ e4_ rfl]
           replace h := st_selT [true, false, false, false] h
           refine qn_ret [_, _] ⟨⟨_, rfl, Sx.loadVarN (vs := [.int .i64 ((findI x a).1), .int .i64 ((((findI x (b - 1)).1) - ((findI x a).1)) + 1), .int .i64 (1)]) sh41 (Sx.blk_cells (cells := [.int .i64 ((findI x a).1), .int .i64 ((((findI x (b - 1)).1) - ((findI x a).1)) + 1), .int .i64 (1)]) hend_ (i := 3) rfl 0 _ rfl)⟩, rfl, trivial⟩ ?_
           exact ⟨rfl, h⟩
          ·
           refine wc_skip ?_
           refine qn_block_normal ?_
           refine qn_then ?_
           refine wc_seq ?_
           refine wc_region ?_
           refine wl_v rfl rfl (ov_move _ rfl) ?_
           refine wl_v rfl rfl (ov_nilCheck _ rfl) ?_
           refine wl_v rfl rfl (ov_fieldAddr _ ⟨g, 1, none⟩ _ rfl fo60_1 rfl) ?_
           refine wl_v rfl rfl (ov_loadb 2 _ h rfl rfl sh3 rfl) ?_
           refine wl_v rfl rfl (ov_move _ rfl) ?_
           refine wl_v rfl rfl (ov_move _ rfl) ?_
           refine wl_v rfl rfl (ov_bin _ rfl rfl (binR_sub (r := b - a) (Sx.w64 (by omega)))) ?_
           refine wl_v rfl rfl (ov_bin _ rfl rfl (binR_sub (r := ((x).size) - (b - a)) (Sx.w64 (by omega)))) ?_
           refine wl_v rfl rfl (ov_nilCheck _ rfl) ?_
           refine wl_v rfl rfl (ov_fieldAddr _ ⟨g, 1, none⟩ _ rfl fo60_1 rfl) ?_
           refine wl_storeb 2 _ [.slice (A5) (((x).lens).length) (c6), .int .i64 (((x).size) - (b - a)), .bool ((x).open_)] h rfl rfl rfl rfl rfl rfl sh3 rfl rfl (fun _ h => ?_)
           refine wl_nil ?_
           refine qn_then ?_
           refine wc_seq ?_
           refine wc_region ?_
           refine wl_v rfl rfl (ov_move _ rfl) ?_
           refine wl_v rfl rfl (ov_loadbN 1 [.int .i64 ((findI x a).1), .int .i64 ((((findI x (b - 1)).1) - ((findI x a).1)) + 1), .int .i64 (1)] h rfl rfl sh41 rfl) ?_
           refine wl_v rfl rfl (ov_move _ rfl) ?_
           replace h := st_front 3 h
           replace h := st_front 3 h
           replace h := ixB_close ((x).lens) (((x).size) - (b - a)) (((x).open_)) (by first | rfl | simp) h
           refine wl_call _ rfl rfl rfl ent35 (change_calls2 (R := [Sx.row (Kd.int .i64) 3 (A24) (cp25) ([((a - ((spanI x ((findI x a).1)).1)) + ((spanI x ((findI x (b - 1)).1)).2.1)) - b]), Sx.blk b8 [.int .i64 ((findI x a).1), .int .i64 ((((findI x (b - 1)).1) - ((findI x a).1)) + 1), .int .i64 (1)] 41, Sx.blk b1 [.int .i64 (0), .int .i64 (0), .int .i64 (0)] 41] ++ R) g ((⟨(x).lens, ((x).size) - (b - a), ((x).open_)⟩ : IX)) ((findI x a).1) ((((findI x (b - 1)).1) - ((findI x a).1)) + 1) 1 ([((a - ((spanI x ((findI x a).1)).1)) + ((spanI x ((findI x (b - 1)).1)).2.1)) - b]) (A24) (cp25) (([((a - ((spanI x ((findI x a).1)).1)) + ((spanI x ((findI x (b - 1)).1)).2.1)) - b] : List _).length) (by first | with_reducible rfl | simp only [List.length_set, List.length_append] | rfl) (by first | omega | simp; omega) (by first | omega | simp; omega) (by first | omega | simp; omega) (by first | omega | simp; omega) (Sx.row_reads_at (R := [Sx.row (Kd.int .i64) 3 (A24) (cp25) ([((a - ((spanI x ((findI x a).1)).1)) + ((spanI x ((findI x (b - 1)).1)).2.1)) - b]), Sx.blk b8 [.int .i64 ((findI x a).1), .int .i64 ((((findI x (b - 1)).1) - ((findI x a).1)) + 1), .int .i64 (1)] 41, Sx.blk b1 [.int .i64 (0), .int .i64 (0), .int .i64 (0)] 41] ++ R) (j := 0) rfl) h) ?_
           rintro e_ w_ ⟨rfl, h⟩
           refine ⟨_, rfl, ?_⟩
           refine wl_nil ?_
           refine qn_then ?_
           refine wc_seq ?_
           refine wc_region ?_
           refine wl_v rfl rfl (ov_loadbN 2 [.int .i64 ((findI x a).1), .int .i64 ((((findI x (b - 1)).1) - ((findI x a).1)) + 1), .int .i64 (1)] h rfl rfl sh41 rfl) ?_
           refine wl_storebN 3 [.int .i64 ((findI x a).1), .int .i64 ((((findI x (b - 1)).1) - ((findI x a).1)) + 1), .int .i64 (1)] [.int .i64 ((findI x a).1), .int .i64 ((((findI x (b - 1)).1) - ((findI x a).1)) + 1), .int .i64 (1)] h rfl rfl rfl rfl (by simp [Value.oneCell']) sh41 rfl rfl (fun _ h => ?_)
           refine wl_v rfl rfl (ov_assign _ rfl) ?_
           refine wl_nil ?_
           refine qn_then ?_
           refine wc_ret ?_
           have hend_ := h
           have e1_ : oldD x a b = (((findI x (b - 1)).1) - ((findI x a).1)) + 1 := by omega
           have e3_ : newD x a b = [((a - ((spanI x ((findI x a).1)).1)) + ((spanI x ((findI x (b - 1)).1)).2.1)) - b] := by unfold newD; rw [show restD x a b = ((a - ((spanI x ((findI x a).1)).1)) + ((spanI x ((findI x (b - 1)).1)).2.1)) - b by omega, if_pos (by omega)]
           have e4_ : openD x a b = (((x).open_)) := by first | exact hO.1 (by omega) | exact hO.2.1 (by omega) (by omega) | exact hO.2.2.1 (by omega) (by omega) (by omega) | exact hO.2.2.2 (by omega) (by omega) (by omega)
           rw [del_fin (by assumption) c3 hfa.1 e1_ e3_ e4_ rfl]
           replace h := st_selT [true, false, false, false] h
           refine qn_ret [_, _] ⟨⟨_, rfl, Sx.loadVarN (vs := [.int .i64 ((findI x a).1), .int .i64 ((((findI x (b - 1)).1) - ((findI x a).1)) + 1), .int .i64 (1)]) sh41 (Sx.blk_cells (cells := [.int .i64 ((findI x a).1), .int .i64 ((((findI x (b - 1)).1) - ((findI x a).1)) + 1), .int .i64 (1)]) hend_ (i := 3) rfl 0 _ rfl)⟩, rfl, trivial⟩ ?_
           exact ⟨rfl, h⟩
       ·
        refine wc_skip ?_
        refine qn_then ?_
        refine wc_seq ?_
        refine wc_block ?_
        refine wc_seq ?_
        refine wc_draw (fun w => Sx.St w0 F0 ([Sx.blk b8 [.int .i64 ((findI x a).1), .int .i64 ((((findI x (b - 1)).1) - ((findI x a).1)) + 1), .int .i64 (0)] 41, Sx.blk g [.slice (A5) (((x).lens).length) (c6), .int .i64 ((x).size), .bool ((x).open_)] 60, Sx.row (Kd.int .i64) 3 (A5) (c6) ((x).lens), Sx.blk b1 [.int .i64 (0), .int .i64 (0), .int .i64 (0)] 41] ++ R) w) (by kernel_rfl) ?_
        replace h := st_drew h
        refine wa_take 0 rfl (by kernel_rfl) (by kernel_rfl) (by kernel_rfl) (fun _ _ _ h => h) rfl rfl (st_selT [true, true, true, true] h) (fun w_ hS => ov_fieldAddr _ ⟨b8, 0, none⟩ _ rfl fo41_0 rfl) ?_
        refine wa_take 1 rfl (by kernel_rfl) (by kernel_rfl) (by kernel_rfl) (fun _ _ _ h => h) rfl rfl (st_selT [true, true, true, true] h) (fun w_ hS => ov_loadb 0 _ hS rfl rfl sh3 rfl) ?_
        refine wa_take 2 rfl (by kernel_rfl) (by kernel_rfl) (by kernel_rfl) (fun _ _ _ h => h) rfl rfl (st_selT [true, true, true, true] h) (fun w_ hS => ov_fieldAddr _ ⟨b8, 1, none⟩ _ rfl fo41_1 rfl) ?_
        refine wa_take 3 rfl (by kernel_rfl) (by kernel_rfl) (by kernel_rfl) (fun _ _ _ h => h) rfl rfl (st_selT [true, true, true, true] h) (fun w_ hS => ov_loadb 0 _ hS rfl rfl sh3 rfl) ?_
        refine wa_take 4 rfl (by kernel_rfl) (by kernel_rfl) (by kernel_rfl) (fun _ _ _ h => h) rfl rfl (st_selT [true, true, true, true] h) (fun w_ hS => ov_bin _ rfl rfl (binR_add (r := ((findI x a).1) + ((((findI x (b - 1)).1) - ((findI x a).1)) + 1)) (Sx.w64 (by omega)))) ?_
        refine wa_take 5 rfl (by kernel_rfl) (by kernel_rfl) (by kernel_rfl) (fun _ _ _ h => h) rfl rfl (st_selT [true, true, true, true] h) (fun w_ hS => ov_move _ rfl) ?_
        refine wa_take 6 rfl (by kernel_rfl) (by kernel_rfl) (by kernel_rfl) (fun _ _ _ h => h) rfl rfl (st_selT [true, true, true, true] h) (fun w_ hS => ov_nilCheck _ rfl) ?_
        refine wa_take 7 rfl (by kernel_rfl) (by kernel_rfl) (by kernel_rfl) (fun _ _ _ h => h) rfl rfl (st_selT [true, true, true, true] h) (fun w_ hS => ov_fieldAddr _ ⟨g, 0, none⟩ _ rfl fo60_0 rfl) ?_
        refine wa_take 8 rfl (by kernel_rfl) (by kernel_rfl) (by kernel_rfl) (fun _ _ _ h => h) rfl rfl (st_selT [true, true, true, true] h) (fun w_ hS => ov_loadb 1 _ hS rfl rfl sh23 rfl) ?_
        refine wa_take 9 rfl (by kernel_rfl) (by kernel_rfl) (by kernel_rfl) (fun _ _ _ h => h) rfl rfl (st_selT [true, true, true, true] h) (fun w_ hS => ov_len _ _ _ _ _ rfl es23) ?_
        refine wa_take 10 rfl (by kernel_rfl) (by kernel_rfl) (by kernel_rfl) (fun _ _ _ h => h) rfl rfl (st_selT [true, true, true, true] h) (fun w_ hS => ov_bin _ rfl rfl (binR_lss)) ?_
        refine wa_take 11 rfl (by kernel_rfl) (by kernel_rfl) (by kernel_rfl) (fun _ _ _ h => h) rfl rfl (st_selT [true, true, true, true] h) (fun w_ hS => ov_assign _ rfl) ?_
        refine wa_done (by kernel_rfl) ?_
        refine qn_then ?_
        refine wc_cond (by rfl) (fun c29 => ?_) (fun c29 => ?_)
        ·
         have hnv := hnx (by omega)
         refine wc_skip ?_
         refine qn_block_normal ?_
         refine qn_then ?_
         refine wc_seq ?_
         refine wc_region ?_
         refine wl_v rfl rfl (ov_move _ rfl) ?_
         refine wl_v rfl rfl (ov_nilCheck _ rfl) ?_
         refine wl_v rfl rfl (ov_fieldAddr _ ⟨g, 1, none⟩ _ rfl fo60_1 rfl) ?_
         refine wl_v rfl rfl (ov_loadb 1 _ h rfl rfl sh3 rfl) ?_
         refine wl_v rfl rfl (ov_move _ rfl) ?_
         refine wl_v rfl rfl (ov_move _ rfl) ?_
         refine wl_v rfl rfl (ov_bin _ rfl rfl (binR_sub (r := b - a) (Sx.w64 (by omega)))) ?_
         refine wl_v rfl rfl (ov_bin _ rfl rfl (binR_sub (r := ((x).size) - (b - a)) (Sx.w64 (by omega)))) ?_
         refine wl_v rfl rfl (ov_nilCheck _ rfl) ?_
         refine wl_v rfl rfl (ov_fieldAddr _ ⟨g, 1, none⟩ _ rfl fo60_1 rfl) ?_
         refine wl_storeb 1 _ [.slice (A5) (((x).lens).length) (c6), .int .i64 (((x).size) - (b - a)), .bool ((x).open_)] h rfl rfl rfl rfl rfl rfl sh3 rfl rfl (fun _ h => ?_)
         refine wl_nil ?_
         refine qn_then ?_
         refine wc_seq ?_
         refine wc_region ?_
         refine wl_v rfl rfl (ov_move _ rfl) ?_
         refine wl_v rfl rfl (ov_loadbN 0 [.int .i64 ((findI x a).1), .int .i64 ((((findI x (b - 1)).1) - ((findI x a).1)) + 1), .int .i64 (0)] h rfl rfl sh41 rfl) ?_
         refine wl_v rfl rfl (ov_move _ rfl) ?_
         replace h := st_front 2 h
         replace h := st_front 2 h
         replace h := ixB_close ((x).lens) (((x).size) - (b - a)) (((x).open_)) (by first | rfl | simp) h
         refine wl_call _ rfl rfl rfl ent35 (change_calls2 (R := [Sx.blk b8 [.int .i64 ((findI x a).1), .int .i64 ((((findI x (b - 1)).1) - ((findI x a).1)) + 1), .int .i64 (0)] 41, Sx.blk b1 [.int .i64 (0), .int .i64 (0), .int .i64 (0)] 41] ++ R) g ((⟨(x).lens, ((x).size) - (b - a), ((x).open_)⟩ : IX)) ((findI x a).1) ((((findI x (b - 1)).1) - ((findI x a).1)) + 1) 0 ([]) (none) (0) (0) (by first | with_reducible rfl | simp only [List.length_set, List.length_append] | rfl) (by first | omega | simp; omega) (by first | omega | simp; omega) (by first | omega | simp; omega) (by first | omega | simp; omega) (fun _ _ _ => Kd.C_nil _ _) h) ?_
         rintro e_ w_ ⟨rfl, h⟩
         refine ⟨_, rfl, ?_⟩
         refine wl_nil ?_
         refine qn_then ?_
         refine wc_seq ?_
         refine wc_region ?_
         refine wl_v rfl rfl (ov_loadbN 1 [.int .i64 ((findI x a).1), .int .i64 ((((findI x (b - 1)).1) - ((findI x a).1)) + 1), .int .i64 (0)] h rfl rfl sh41 rfl) ?_
         refine wl_storebN 2 [.int .i64 ((findI x a).1), .int .i64 ((((findI x (b - 1)).1) - ((findI x a).1)) + 1), .int .i64 (0)] [.int .i64 ((findI x a).1), .int .i64 ((((findI x (b - 1)).1) - ((findI x a).1)) + 1), .int .i64 (0)] h rfl rfl rfl rfl (by simp [Value.oneCell']) sh41 rfl rfl (fun _ h => ?_)
         refine wl_v rfl rfl (ov_assign _ rfl) ?_
         refine wl_nil ?_
         refine qn_then ?_
         refine wc_ret ?_
         have hend_ := h
         have e1_ : oldD x a b = (((findI x (b - 1)).1) - ((findI x a).1)) + 1 := by omega
         have e3_ : newD x a b = [] := by unfold newD; rw [if_neg (by omega)]
         have e4_ : openD x a b = (((x).open_)) := by first | exact hO.1 (by omega) | exact hO.2.1 (by omega) (by omega) | exact hO.2.2.1 (by omega) (by omega) (by omega) | exact hO.2.2.2 (by omega) (by omega) (by omega)
         rw [del_fin (by assumption) c3 hfa.1 e1_ e3_ e4_ rfl]
         replace h := st_selT [true, false, false] h
         refine qn_ret [_, _] ⟨⟨_, rfl, Sx.loadVarN (vs := [.int .i64 ((findI x a).1), .int .i64 ((((findI x (b - 1)).1) - ((findI x a).1)) + 1), .int .i64 (0)]) sh41 (Sx.blk_cells (cells := [.int .i64 ((findI x a).1), .int .i64 ((((findI x (b - 1)).1) - ((findI x a).1)) + 1), .int .i64 (0)]) hend_ (i := 2) rfl 0 _ rfl)⟩, rfl, trivial⟩ ?_
         exact ⟨rfl, h⟩
        ·
         refine wc_seq ?_
         refine wc_region ?_
         refine wl_v rfl rfl (ov_move _ rfl) ?_
         refine wl_v rfl rfl (ov_bin _ rfl rfl (binR_eql)) ?_
         refine wl_v rfl rfl (ov_assign _ rfl) ?_
         refine wl_nil ?_
         refine qn_then ?_
         refine wc_cond (by rfl) (fun c30 => ?_) (fun c30 => ?_)
         ·
          refine wc_region ?_
          refine wl_v rfl rfl (ov_move _ rfl) ?_
          refine wl_v rfl rfl (ov_nilCheck _ rfl) ?_
          refine wl_v rfl rfl (ov_fieldAddr _ ⟨g, 2, none⟩ _ rfl fo60_2 rfl) ?_
          refine wl_storeb 1 _ [.slice (A5) (((x).lens).length) (c6), .int .i64 ((x).size), .bool false] h rfl rfl rfl rfl rfl rfl sh4 rfl rfl (fun _ h => ?_)
          refine wl_nil ?_
          refine qn_block_normal ?_
          refine qn_then ?_
          refine wc_seq ?_
          refine wc_region ?_
          refine wl_v rfl rfl (ov_move _ rfl) ?_
          refine wl_v rfl rfl (ov_nilCheck _ rfl) ?_
          refine wl_v rfl rfl (ov_fieldAddr _ ⟨g, 1, none⟩ _ rfl fo60_1 rfl) ?_
          refine wl_v rfl rfl (ov_loadb 1 _ h rfl rfl sh3 rfl) ?_
          refine wl_v rfl rfl (ov_move _ rfl) ?_
          refine wl_v rfl rfl (ov_move _ rfl) ?_
          refine wl_v rfl rfl (ov_bin _ rfl rfl (binR_sub (r := b - a) (Sx.w64 (by omega)))) ?_
          refine wl_v rfl rfl (ov_bin _ rfl rfl (binR_sub (r := ((x).size) - (b - a)) (Sx.w64 (by omega)))) ?_
          refine wl_v rfl rfl (ov_nilCheck _ rfl) ?_
          refine wl_v rfl rfl (ov_fieldAddr _ ⟨g, 1, none⟩ _ rfl fo60_1 rfl) ?_
          refine wl_storeb 1 _ [.slice (A5) (((x).lens).length) (c6), .int .i64 (((x).size) - (b - a)), .bool false] h rfl rfl rfl rfl rfl rfl sh3 rfl rfl (fun _ h => ?_)
          refine wl_nil ?_
          refine qn_then ?_
          refine wc_seq ?_
          refine wc_region ?_
          refine wl_v rfl rfl (ov_move _ rfl) ?_
          refine wl_v rfl rfl (ov_loadbN 0 [.int .i64 ((findI x a).1), .int .i64 ((((findI x (b - 1)).1) - ((findI x a).1)) + 1), .int .i64 (0)] h rfl rfl sh41 rfl) ?_
          refine wl_v rfl rfl (ov_move _ rfl) ?_
          replace h := st_front 2 h
          replace h := st_front 2 h
          replace h := ixB_close ((x).lens) (((x).size) - (b - a)) (false) (by first | rfl | simp) h
          refine wl_call _ rfl rfl rfl ent35 (change_calls2 (R := [Sx.blk b8 [.int .i64 ((findI x a).1), .int .i64 ((((findI x (b - 1)).1) - ((findI x a).1)) + 1), .int .i64 (0)] 41, Sx.blk b1 [.int .i64 (0), .int .i64 (0), .int .i64 (0)] 41] ++ R) g ((⟨(x).lens, ((x).size) - (b - a), false⟩ : IX)) ((findI x a).1) ((((findI x (b - 1)).1) - ((findI x a).1)) + 1) 0 ([]) (none) (0) (0) (by first | with_reducible rfl | simp only [List.length_set, List.length_append] | rfl) (by first | omega | simp; omega) (by first | omega | simp; omega) (by first | omega | simp; omega) (by first | omega | simp; omega) (fun _ _ _ => Kd.C_nil _ _) h) ?_
          rintro e_ w_ ⟨rfl, h⟩
          refine ⟨_, rfl, ?_⟩
          refine wl_nil ?_
          refine qn_then ?_
          refine wc_seq ?_
          refine wc_region ?_
          refine wl_v rfl rfl (ov_loadbN 1 [.int .i64 ((findI x a).1), .int .i64 ((((findI x (b - 1)).1) - ((findI x a).1)) + 1), .int .i64 (0)] h rfl rfl sh41 rfl) ?_
          refine wl_storebN 2 [.int .i64 ((findI x a).1), .int .i64 ((((findI x (b - 1)).1) - ((findI x a).1)) + 1), .int .i64 (0)] [.int .i64 ((findI x a).1), .int .i64 ((((findI x (b - 1)).1) - ((findI x a).1)) + 1), .int .i64 (0)] h rfl rfl rfl rfl (by simp [Value.oneCell']) sh41 rfl rfl (fun _ h => ?_)
          refine wl_v rfl rfl (ov_assign _ rfl) ?_
          refine wl_nil ?_
          refine qn_then ?_
          refine wc_ret ?_
          have hend_ := h
          have e1_ : oldD x a b = (((findI x (b - 1)).1) - ((findI x a).1)) + 1 := by omega
          have e3_ : newD x a b = [] := by unfold newD; rw [if_neg (by omega)]
          have e4_ : openD x a b = (false) := by first | exact hO.1 (by omega) | exact hO.2.1 (by omega) (by omega) | exact hO.2.2.1 (by omega) (by omega) (by omega) | exact hO.2.2.2 (by omega) (by omega) (by omega)
          rw [del_fin (by assumption) c3 hfa.1 e1_ e3_ e4_ rfl]
          replace h := st_selT [true, false, false] h
          refine qn_ret [_, _] ⟨⟨_, rfl, Sx.loadVarN (vs := [.int .i64 ((findI x a).1), .int .i64 ((((findI x (b - 1)).1) - ((findI x a).1)) + 1), .int .i64 (0)]) sh41 (Sx.blk_cells (cells := [.int .i64 ((findI x a).1), .int .i64 ((((findI x (b - 1)).1) - ((findI x a).1)) + 1), .int .i64 (0)]) hend_ (i := 2) rfl 0 _ rfl)⟩, rfl, trivial⟩ ?_
          exact ⟨rfl, h⟩
         ·
          exfalso
          have hnx2 := hnx
          omega
     ·
      refine wl_skip rfl rfl ?_
      refine wl_skip rfl rfl ?_
      refine wl_skip rfl rfl ?_
      refine wl_skip rfl rfl ?_
      refine wl_skip rfl rfl ?_
      refine wl_skip rfl rfl ?_
      refine wl_skip rfl rfl ?_
      refine wl_skip rfl rfl ?_
      refine wl_v rfl rfl (ov_pick_false _ rfl rfl) ?_
      refine wl_nil ?_
      refine qn_then ?_
      refine wc_cond_false rfl ?_
      refine wc_skip ?_
      refine qn_then ?_
      refine wc_seq ?_
      refine wc_region ?_
      refine wl_v rfl rfl (ov_assign _ rfl) ?_
      refine wl_nil ?_
      refine qn_then ?_
      refine wc_seq ?_
      refine wc_seq ?_
      refine wc_region ?_
      refine wl_v rfl rfl (ov_move _ rfl) ?_
      refine wl_v rfl rfl (ov_bin _ rfl rfl (binR_gtr)) ?_
      refine wl_nil ?_
      refine qn_then ?_
      refine wc_cond (by rfl) (fun c31 => ?_) (fun c31 => ?_)
      ·
       refine wc_seq ?_
       refine wc_region ?_
       refine wl_v rfl rfl (ov_move _ rfl) ?_
       refine wl_lit (d := (Kd.int .i64)) [(0, .int .i64 (((a - ((spanI x ((findI x a).1)).1)) + ((spanI x ((findI x (b - 1)).1)).2.1)) - b))] _ [.int .i64 (((a - ((spanI x ((findI x a).1)).1)) + ((spanI x ((findI x (b - 1)).1)).2.1)) - b)] ([((a - ((spanI x ((findI x a).1)).1)) + ((spanI x ((findI x (b - 1)).1)).2.1)) - b]) h rfl rfl rfl rfl Try.underlying23 infb3 rfl (by decide) (by kernel_rfl) rfl (fun _ _ _ => ((Reps.none _ _).snoc ((Sx.mkInt .i64 (((a - ((spanI x ((findI x a).1)).1)) + ((spanI x ((findI x (b - 1)).1)).2.1)) - b))) rfl)) (fun A32 cp33 _ h => ?_)
       refine wl_v rfl rfl (ov_assign _ rfl) ?_
       refine wl_nil ?_
       refine qn_then ?_
       refine wc_region ?_
       refine wl_v rfl rfl (ov_fieldAddr _ ⟨b8, 2, none⟩ _ rfl fo41_2 rfl) ?_
       refine wl_storeb 1 _ [.int .i64 ((findI x a).1), .int .i64 ((((findI x (b - 1)).1) - ((findI x a).1)) + 1), .int .i64 (1)] h rfl rfl rfl rfl rfl rfl sh3 rfl rfl (fun _ h => ?_)
       refine wl_nil ?_
       refine qn_then ?_
       refine wc_seq ?_
       refine wc_block ?_
       refine wc_seq ?_
       refine wc_draw (fun w => Sx.St w0 F0 ([Sx.row (Kd.int .i64) 3 (A32) (cp33) ([((a - ((spanI x ((findI x a).1)).1)) + ((spanI x ((findI x (b - 1)).1)).2.1)) - b]), Sx.blk b8 [.int .i64 ((findI x a).1), .int .i64 ((((findI x (b - 1)).1) - ((findI x a).1)) + 1), .int .i64 (1)] 41, Sx.blk g [.slice (A5) (((x).lens).length) (c6), .int .i64 ((x).size), .bool ((x).open_)] 60, Sx.row (Kd.int .i64) 3 (A5) (c6) ((x).lens), Sx.blk b1 [.int .i64 (0), .int .i64 (0), .int .i64 (0)] 41] ++ R) w) (by kernel_rfl) ?_
       replace h := st_drew h
       refine wa_take 0 rfl (by kernel_rfl) (by kernel_rfl) (by kernel_rfl) (fun _ _ _ h => h) rfl rfl (st_selT [true, true, true, true, true] h) (fun w_ hS => ov_fieldAddr _ ⟨b8, 0, none⟩ _ rfl fo41_0 rfl) ?_
       refine wa_take 1 rfl (by kernel_rfl) (by kernel_rfl) (by kernel_rfl) (fun _ _ _ h => h) rfl rfl (st_selT [true, true, true, true, true] h) (fun w_ hS => ov_loadb 1 _ hS rfl rfl sh3 rfl) ?_
       refine wa_take 2 rfl (by kernel_rfl) (by kernel_rfl) (by kernel_rfl) (fun _ _ _ h => h) rfl rfl (st_selT [true, true, true, true, true] h) (fun w_ hS => ov_fieldAddr _ ⟨b8, 1, none⟩ _ rfl fo41_1 rfl) ?_
       refine wa_take 3 rfl (by kernel_rfl) (by kernel_rfl) (by kernel_rfl) (fun _ _ _ h => h) rfl rfl (st_selT [true, true, true, true, true] h) (fun w_ hS => ov_loadb 1 _ hS rfl rfl sh3 rfl) ?_
       refine wa_take 4 rfl (by kernel_rfl) (by kernel_rfl) (by kernel_rfl) (fun _ _ _ h => h) rfl rfl (st_selT [true, true, true, true, true] h) (fun w_ hS => ov_bin _ rfl rfl (binR_add (r := ((findI x a).1) + ((((findI x (b - 1)).1) - ((findI x a).1)) + 1)) (Sx.w64 (by omega)))) ?_
       refine wa_take 5 rfl (by kernel_rfl) (by kernel_rfl) (by kernel_rfl) (fun _ _ _ h => h) rfl rfl (st_selT [true, true, true, true, true] h) (fun w_ hS => ov_move _ rfl) ?_
       refine wa_take 6 rfl (by kernel_rfl) (by kernel_rfl) (by kernel_rfl) (fun _ _ _ h => h) rfl rfl (st_selT [true, true, true, true, true] h) (fun w_ hS => ov_nilCheck _ rfl) ?_
       refine wa_take 7 rfl (by kernel_rfl) (by kernel_rfl) (by kernel_rfl) (fun _ _ _ h => h) rfl rfl (st_selT [true, true, true, true, true] h) (fun w_ hS => ov_fieldAddr _ ⟨g, 0, none⟩ _ rfl fo60_0 rfl) ?_
       refine wa_take 8 rfl (by kernel_rfl) (by kernel_rfl) (by kernel_rfl) (fun _ _ _ h => h) rfl rfl (st_selT [true, true, true, true, true] h) (fun w_ hS => ov_loadb 2 _ hS rfl rfl sh23 rfl) ?_
       refine wa_take 9 rfl (by kernel_rfl) (by kernel_rfl) (by kernel_rfl) (fun _ _ _ h => h) rfl rfl (st_selT [true, true, true, true, true] h) (fun w_ hS => ov_len _ _ _ _ _ rfl es23) ?_
       refine wa_take 10 rfl (by kernel_rfl) (by kernel_rfl) (by kernel_rfl) (fun _ _ _ h => h) rfl rfl (st_selT [true, true, true, true, true] h) (fun w_ hS => ov_bin _ rfl rfl (binR_lss)) ?_
       refine wa_take 11 rfl (by kernel_rfl) (by kernel_rfl) (by kernel_rfl) (fun _ _ _ h => h) rfl rfl (st_selT [true, true, true, true, true] h) (fun w_ hS => ov_assign _ rfl) ?_
       refine wa_done (by kernel_rfl) ?_
       refine qn_then ?_
       refine wc_cond (by rfl) (fun c34 => ?_) (fun c34 => ?_)
       ·
        have hnv := hnx (by omega)
        refine wc_skip ?_
        refine qn_block_normal ?_
        refine qn_then ?_
        refine wc_seq ?_
        refine wc_region ?_
        refine wl_v rfl rfl (ov_move _ rfl) ?_
        refine wl_v rfl rfl (ov_nilCheck _ rfl) ?_
        refine wl_v rfl rfl (ov_fieldAddr _ ⟨g, 1, none⟩ _ rfl fo60_1 rfl) ?_
        refine wl_v rfl rfl (ov_loadb 2 _ h rfl rfl sh3 rfl) ?_
        refine wl_v rfl rfl (ov_move _ rfl) ?_
        refine wl_v rfl rfl (ov_move _ rfl) ?_
        refine wl_v rfl rfl (ov_bin _ rfl rfl (binR_sub (r := b - a) (Sx.w64 (by omega)))) ?_
        refine wl_v rfl rfl (ov_bin _ rfl rfl (binR_sub (r := ((x).size) - (b - a)) (Sx.w64 (by omega)))) ?_
        refine wl_v rfl rfl (ov_nilCheck _ rfl) ?_
        refine wl_v rfl rfl (ov_fieldAddr _ ⟨g, 1, none⟩ _ rfl fo60_1 rfl) ?_
        refine wl_storeb 2 _ [.slice (A5) (((x).lens).length) (c6), .int .i64 (((x).size) - (b - a)), .bool ((x).open_)] h rfl rfl rfl rfl rfl rfl sh3 rfl rfl (fun _ h => ?_)
        refine wl_nil ?_
        refine qn_then ?_
        refine wc_seq ?_
        refine wc_region ?_
        refine wl_v rfl rfl (ov_move _ rfl) ?_
        refine wl_v rfl rfl (ov_loadbN 1 [.int .i64 ((findI x a).1), .int .i64 ((((findI x (b - 1)).1) - ((findI x a).1)) + 1), .int .i64 (1)] h rfl rfl sh41 rfl) ?_
        refine wl_v rfl rfl (ov_move _ rfl) ?_
        replace h := st_front 3 h
        replace h := st_front 3 h
        replace h := ixB_close ((x).lens) (((x).size) - (b - a)) (((x).open_)) (by first | rfl | simp) h
        refine wl_call _ rfl rfl rfl ent35 (change_calls2 (R := [Sx.row (Kd.int .i64) 3 (A32) (cp33) ([((a - ((spanI x ((findI x a).1)).1)) + ((spanI x ((findI x (b - 1)).1)).2.1)) - b]), Sx.blk b8 [.int .i64 ((findI x a).1), .int .i64 ((((findI x (b - 1)).1) - ((findI x a).1)) + 1), .int .i64 (1)] 41, Sx.blk b1 [.int .i64 (0), .int .i64 (0), .int .i64 (0)] 41] ++ R) g ((⟨(x).lens, ((x).size) - (b - a), ((x).open_)⟩ : IX)) ((findI x a).1) ((((findI x (b - 1)).1) - ((findI x a).1)) + 1) 1 ([((a - ((spanI x ((findI x a).1)).1)) + ((spanI x ((findI x (b - 1)).1)).2.1)) - b]) (A32) (cp33) (([((a - ((spanI x ((findI x a).1)).1)) + ((spanI x ((findI x (b - 1)).1)).2.1)) - b] : List _).length) (by first | with_reducible rfl | simp only [List.length_set, List.length_append] | rfl) (by first | omega | simp; omega) (by first | omega | simp; omega) (by first | omega | simp; omega) (by first | omega | simp; omega) (Sx.row_reads_at (R := [Sx.row (Kd.int .i64) 3 (A32) (cp33) ([((a - ((spanI x ((findI x a).1)).1)) + ((spanI x ((findI x (b - 1)).1)).2.1)) - b]), Sx.blk b8 [.int .i64 ((findI x a).1), .int .i64 ((((findI x (b - 1)).1) - ((findI x a).1)) + 1), .int .i64 (1)] 41, Sx.blk b1 [.int .i64 (0), .int .i64 (0), .int .i64 (0)] 41] ++ R) (j := 0) rfl) h) ?_
        rintro e_ w_ ⟨rfl, h⟩
        refine ⟨_, rfl, ?_⟩
        refine wl_nil ?_
        refine qn_then ?_
        refine wc_seq ?_
        refine wc_region ?_
        refine wl_v rfl rfl (ov_loadbN 2 [.int .i64 ((findI x a).1), .int .i64 ((((findI x (b - 1)).1) - ((findI x a).1)) + 1), .int .i64 (1)] h rfl rfl sh41 rfl) ?_
        refine wl_storebN 3 [.int .i64 ((findI x a).1), .int .i64 ((((findI x (b - 1)).1) - ((findI x a).1)) + 1), .int .i64 (1)] [.int .i64 ((findI x a).1), .int .i64 ((((findI x (b - 1)).1) - ((findI x a).1)) + 1), .int .i64 (1)] h rfl rfl rfl rfl (by simp [Value.oneCell']) sh41 rfl rfl (fun _ h => ?_)
        refine wl_v rfl rfl (ov_assign _ rfl) ?_
        refine wl_nil ?_
        refine qn_then ?_
        refine wc_ret ?_
        have hend_ := h
        have e1_ : oldD x a b = (((findI x (b - 1)).1) - ((findI x a).1)) + 1 := by omega
        have e3_ : newD x a b = [((a - ((spanI x ((findI x a).1)).1)) + ((spanI x ((findI x (b - 1)).1)).2.1)) - b] := by unfold newD; rw [show restD x a b = ((a - ((spanI x ((findI x a).1)).1)) + ((spanI x ((findI x (b - 1)).1)).2.1)) - b by omega, if_pos (by omega)]
        have e4_ : openD x a b = (((x).open_)) := by first | exact hO.1 (by omega) | exact hO.2.1 (by omega) (by omega) | exact hO.2.2.1 (by omega) (by omega) (by omega) | exact hO.2.2.2 (by omega) (by omega) (by omega)
        rw [del_fin (by assumption) c3 hfa.1 e1_ e3_ e4_ rfl]
        replace h := st_selT [true, false, false, false] h
        refine qn_ret [_, _] ⟨⟨_, rfl, Sx.loadVarN (vs := [.int .i64 ((findI x a).1), .int .i64 ((((findI x (b - 1)).1) - ((findI x a).1)) + 1), .int .i64 (1)]) sh41 (Sx.blk_cells (cells := [.int .i64 ((findI x a).1), .int .i64 ((((findI x (b - 1)).1) - ((findI x a).1)) + 1), .int .i64 (1)]) hend_ (i := 3) rfl 0 _ rfl)⟩, rfl, trivial⟩ ?_
        exact ⟨rfl, h⟩
       ·
        refine wc_seq ?_
        refine wc_region ?_
        refine wl_v rfl rfl (ov_move _ rfl) ?_
        refine wl_v rfl rfl (ov_bin _ rfl rfl (binR_eql)) ?_
        refine wl_v rfl rfl (ov_assign _ rfl) ?_
        refine wl_nil ?_
        refine qn_then ?_
        refine wc_cond (by rfl) (fun c35 => ?_) (fun c35 => ?_)
        ·
         exfalso
         have hnx2 := hnx
         omega
        ·
         refine wc_seq ?_
         refine wc_region ?_
         refine wl_v rfl rfl (ov_move _ rfl) ?_
         refine wl_v rfl rfl (ov_move _ rfl) ?_
         refine wl_v rfl rfl (ov_move _ rfl) ?_
         refine wl_v rfl rfl (ov_bin _ rfl rfl (binR_add (r := ((findI x (b - 1)).1) + 1) (Sx.w64 (by omega)))) ?_
         refine wl_v rfl rfl (ov_move _ rfl) ?_
         refine wl_v rfl rfl (ov_nilCheck _ rfl) ?_
         refine wl_v rfl rfl (ov_fieldAddr _ ⟨g, 0, none⟩ _ rfl fo60_0 rfl) ?_
         refine wl_v rfl rfl (ov_loadb 2 _ h rfl rfl sh23 rfl) ?_
         refine wl_v rfl rfl (ov_len _ _ _ _ _ rfl es23) ?_
         refine wl_v rfl rfl (ov_bin _ rfl rfl (binR_geq)) ?_
         refine wl_v rfl rfl (ov_pick_true _ rfl rfl) ?_
         refine wl_v rfl rfl (ov_assign _ rfl) ?_
         refine wl_nil ?_
         refine qn_then ?_
         refine wc_cond (by rfl) (fun c36 => ?_) (fun c36 => ?_)
         ·
          refine wc_region ?_
          refine wl_v rfl rfl (ov_move _ rfl) ?_
          refine wl_v rfl rfl (ov_nilCheck _ rfl) ?_
          refine wl_v rfl rfl (ov_fieldAddr _ ⟨g, 2, none⟩ _ rfl fo60_2 rfl) ?_
          refine wl_storeb 2 _ [.slice (A5) (((x).lens).length) (c6), .int .i64 ((x).size), .bool true] h rfl rfl rfl rfl rfl rfl sh4 rfl rfl (fun _ h => ?_)
          refine wl_nil ?_
          refine qn_block_normal ?_
          refine qn_then ?_
          refine wc_seq ?_
          refine wc_region ?_
          refine wl_v rfl rfl (ov_move _ rfl) ?_
          refine wl_v rfl rfl (ov_nilCheck _ rfl) ?_
          refine wl_v rfl rfl (ov_fieldAddr _ ⟨g, 1, none⟩ _ rfl fo60_1 rfl) ?_
          refine wl_v rfl rfl (ov_loadb 2 _ h rfl rfl sh3 rfl) ?_
          refine wl_v rfl rfl (ov_move _ rfl) ?_
          refine wl_v rfl rfl (ov_move _ rfl) ?_
          refine wl_v rfl rfl (ov_bin _ rfl rfl (binR_sub (r := b - a) (Sx.w64 (by omega)))) ?_
          refine wl_v rfl rfl (ov_bin _ rfl rfl (binR_sub (r := ((x).size) - (b - a)) (Sx.w64 (by omega)))) ?_
          refine wl_v rfl rfl (ov_nilCheck _ rfl) ?_
          refine wl_v rfl rfl (ov_fieldAddr _ ⟨g, 1, none⟩ _ rfl fo60_1 rfl) ?_
          refine wl_storeb 2 _ [.slice (A5) (((x).lens).length) (c6), .int .i64 (((x).size) - (b - a)), .bool true] h rfl rfl rfl rfl rfl rfl sh3 rfl rfl (fun _ h => ?_)
          refine wl_nil ?_
          refine qn_then ?_
          refine wc_seq ?_
          refine wc_region ?_
          refine wl_v rfl rfl (ov_move _ rfl) ?_
          refine wl_v rfl rfl (ov_loadbN 1 [.int .i64 ((findI x a).1), .int .i64 ((((findI x (b - 1)).1) - ((findI x a).1)) + 1), .int .i64 (1)] h rfl rfl sh41 rfl) ?_
          refine wl_v rfl rfl (ov_move _ rfl) ?_
          replace h := st_front 3 h
          replace h := st_front 3 h
          replace h := ixB_close ((x).lens) (((x).size) - (b - a)) (true) (by first | rfl | simp) h
          refine wl_call _ rfl rfl rfl ent35 (change_calls2 (R := [Sx.row (Kd.int .i64) 3 (A32) (cp33) ([((a - ((spanI x ((findI x a).1)).1)) + ((spanI x ((findI x (b - 1)).1)).2.1)) - b]), Sx.blk b8 [.int .i64 ((findI x a).1), .int .i64 ((((findI x (b - 1)).1) - ((findI x a).1)) + 1), .int .i64 (1)] 41, Sx.blk b1 [.int .i64 (0), .int .i64 (0), .int .i64 (0)] 41] ++ R) g ((⟨(x).lens, ((x).size) - (b - a), true⟩ : IX)) ((findI x a).1) ((((findI x (b - 1)).1) - ((findI x a).1)) + 1) 1 ([((a - ((spanI x ((findI x a).1)).1)) + ((spanI x ((findI x (b - 1)).1)).2.1)) - b]) (A32) (cp33) (([((a - ((spanI x ((findI x a).1)).1)) + ((spanI x ((findI x (b - 1)).1)).2.1)) - b] : List _).length) (by first | with_reducible rfl | simp only [List.length_set, List.length_append] | rfl) (by first | omega | simp; omega) (by first | omega | simp; omega) (by first | omega | simp; omega) (by first | omega | simp; omega) (Sx.row_reads_at (R := [Sx.row (Kd.int .i64) 3 (A32) (cp33) ([((a - ((spanI x ((findI x a).1)).1)) + ((spanI x ((findI x (b - 1)).1)).2.1)) - b]), Sx.blk b8 [.int .i64 ((findI x a).1), .int .i64 ((((findI x (b - 1)).1) - ((findI x a).1)) + 1), .int .i64 (1)] 41, Sx.blk b1 [.int .i64 (0), .int .i64 (0), .int .i64 (0)] 41] ++ R) (j := 0) rfl) h) ?_
          rintro e_ w_ ⟨rfl, h⟩
          refine ⟨_, rfl, ?_⟩
          refine wl_nil ?_
          refine qn_then ?_
          refine wc_seq ?_
          refine wc_region ?_
          refine wl_v rfl rfl (ov_loadbN 2 [.int .i64 ((findI x a).1), .int .i64 ((((findI x (b - 1)).1) - ((findI x a).1)) + 1), .int .i64 (1)] h rfl rfl sh41 rfl) ?_
          refine wl_storebN 3 [.int .i64 ((findI x a).1), .int .i64 ((((findI x (b - 1)).1) - ((findI x a).1)) + 1), .int .i64 (1)] [.int .i64 ((findI x a).1), .int .i64 ((((findI x (b - 1)).1) - ((findI x a).1)) + 1), .int .i64 (1)] h rfl rfl rfl rfl (by simp [Value.oneCell']) sh41 rfl rfl (fun _ h => ?_)
          refine wl_v rfl rfl (ov_assign _ rfl) ?_
          refine wl_nil ?_
          refine qn_then ?_
          refine wc_ret ?_
          have hend_ := h
          have e1_ : oldD x a b = (((findI x (b - 1)).1) - ((findI x a).1)) + 1 := by omega
          have e3_ : newD x a b = [((a - ((spanI x ((findI x a).1)).1)) + ((spanI x ((findI x (b - 1)).1)).2.1)) - b] := by unfold newD; rw [show restD x a b = ((a - ((spanI x ((findI x a).1)).1)) + ((spanI x ((findI x (b - 1)).1)).2.1)) - b by omega, if_pos (by omega)]
          have e4_ : openD x a b = (true) := by first | exact hO.1 (by omega) | exact hO.2.1 (by omega) (by omega) | exact hO.2.2.1 (by omega) (by omega) (by omega) | exact hO.2.2.2 (by omega) (by omega) (by omega)
          rw [del_fin (by assumption) c3 hfa.1 e1_ e3_ e4_ rfl]
          replace h := st_selT [true, false, false, false] h
          refine qn_ret [_, _] ⟨⟨_, rfl, Sx.loadVarN (vs := [.int .i64 ((findI x a).1), .int .i64 ((((findI x (b - 1)).1) - ((findI x a).1)) + 1), .int .i64 (1)]) sh41 (Sx.blk_cells (cells := [.int .i64 ((findI x a).1), .int .i64 ((((findI x (b - 1)).1) - ((findI x a).1)) + 1), .int .i64 (1)]) hend_ (i := 3) rfl 0 _ rfl)⟩, rfl, trivial⟩ ?_
          exact ⟨rfl, h⟩
         ·
          refine wc_skip ?_
          refine qn_block_normal ?_
          refine qn_then ?_
          refine wc_seq ?_
          refine wc_region ?_
          refine wl_v rfl rfl (ov_move _ rfl) ?_
          refine wl_v rfl rfl (ov_nilCheck _ rfl) ?_
          refine wl_v rfl rfl (ov_fieldAddr _ ⟨g, 1, none⟩ _ rfl fo60_1 rfl) ?_
          refine wl_v rfl rfl (ov_loadb 2 _ h rfl rfl sh3 rfl) ?_
          refine wl_v rfl rfl (ov_move _ rfl) ?_
          refine wl_v rfl rfl (ov_move _ rfl) ?_
          refine wl_v rfl rfl (ov_bin _ rfl rfl (binR_sub (r := b - a) (Sx.w64 (by omega)))) ?_
          refine wl_v rfl rfl (ov_bin _ rfl rfl (binR_sub (r := ((x).size) - (b - a)) (Sx.w64 (by omega)))) ?_
          refine wl_v rfl rfl (ov_nilCheck _ rfl) ?_
          refine wl_v rfl rfl (ov_fieldAddr _ ⟨g, 1, none⟩ _ rfl fo60_1 rfl) ?_
          refine wl_storeb 2 _ [.slice (A5) (((x).lens).length) (c6), .int .i64 (((x).size) - (b - a)), .bool ((x).open_)] h rfl rfl rfl rfl rfl rfl sh3 rfl rfl (fun _ h => ?_)
          refine wl_nil ?_
          refine qn_then ?_
          refine wc_seq ?_
          refine wc_region ?_
          refine wl_v rfl rfl (ov_move _ rfl) ?_
          refine wl_v rfl rfl (ov_loadbN 1 [.int .i64 ((findI x a).1), .int .i64 ((((findI x (b - 1)).1) - ((findI x a).1)) + 1), .int .i64 (1)] h rfl rfl sh41 rfl) ?_
          refine wl_v rfl rfl (ov_move _ rfl) ?_
          replace h := st_front 3 h
          replace h := st_front 3 h
          replace h := ixB_close ((x).lens) (((x).size) - (b - a)) (((x).open_)) (by first | rfl | simp) h
          refine wl_call _ rfl rfl rfl ent35 (change_calls2 (R := [Sx.row (Kd.int .i64) 3 (A32) (cp33) ([((a - ((spanI x ((findI x a).1)).1)) + ((spanI x ((findI x (b - 1)).1)).2.1)) - b]), Sx.blk b8 [.int .i64 ((findI x a).1), .int .i64 ((((findI x (b - 1)).1) - ((findI x a).1)) + 1), .int .i64 (1)] 41, Sx.blk b1 [.int .i64 (0), .int .i64 (0), .int .i64 (0)] 41] ++ R) g ((⟨(x).lens, ((x).size) - (b - a), ((x).open_)⟩ : IX)) ((findI x a).1) ((((findI x (b - 1)).1) - ((findI x a).1)) + 1) 1 ([((a - ((spanI x ((findI x a).1)).1)) + ((spanI x ((findI x (b - 1)).1)).2.1)) - b]) (A32) (cp33) (([((a - ((spanI x ((findI x a).1)).1)) + ((spanI x ((findI x (b - 1)).1)).2.1)) - b] : List _).length) (by first | with_reducible rfl | simp only [List.length_set, List.length_append] | rfl) (by first | omega | simp; omega) (by first | omega | simp; omega) (by first | omega | simp; omega) (by first | omega | simp; omega) (Sx.row_reads_at (R := [Sx.row (Kd.int .i64) 3 (A32) (cp33) ([((a - ((spanI x ((findI x a).1)).1)) + ((spanI x ((findI x (b - 1)).1)).2.1)) - b]), Sx.blk b8 [.int .i64 ((findI x a).1), .int .i64 ((((findI x (b - 1)).1) - ((findI x a).1)) + 1), .int .i64 (1)] 41, Sx.blk b1 [.int .i64 (0), .int .i64 (0), .int .i64 (0)] 41] ++ R) (j := 0) rfl) h) ?_
          rintro e_ w_ ⟨rfl, h⟩
          refine ⟨_, rfl, ?_⟩
          refine wl_nil ?_
          refine qn_then ?_
          refine wc_seq ?_
          refine wc_region ?_
          refine wl_v rfl rfl (ov_loadbN 2 [.int .i64 ((findI x a).1), .int .i64 ((((findI x (b - 1)).1) - ((findI x a).1)) + 1), .int .i64 (1)] h rfl rfl sh41 rfl) ?_
          refine wl_storebN 3 [.int .i64 ((findI x a).1), .int .i64 ((((findI x (b - 1)).1) - ((findI x a).1)) + 1), .int .i64 (1)] [.int .i64 ((findI x a).1), .int .i64 ((((findI x (b - 1)).1) - ((findI x a).1)) + 1), .int .i64 (1)] h rfl rfl rfl rfl (by simp [Value.oneCell']) sh41 rfl rfl (fun _ h => ?_)
          refine wl_v rfl rfl (ov_assign _ rfl) ?_
          refine wl_nil ?_
          refine qn_then ?_
          refine wc_ret ?_
          have hend_ := h
          have e1_ : oldD x a b = (((findI x (b - 1)).1) - ((findI x a).1)) + 1 := by omega
          have e3_ : newD x a b = [((a - ((spanI x ((findI x a).1)).1)) + ((spanI x ((findI x (b - 1)).1)).2.1)) - b] := by unfold newD; rw [show restD x a b = ((a - ((spanI x ((findI x a).1)).1)) + ((spanI x ((findI x (b - 1)).1)).2.1)) - b by omega, if_pos (by omega)]
          have e4_ : openD x a b = (((x).open_)) := by first | exact hO.1 (by omega) | exact hO.2.1 (by omega) (by omega) | exact hO.2.2.1 (by omega) (by omega) (by omega) | exact hO.2.2.2 (by omega) (by omega) (by omega)
          rw [del_fin (by assumption) c3 hfa.1 e1_ e3_ e4_ rfl]
          replace h := st_selT [true, false, false, false] h
          refine qn_ret [_, _] ⟨⟨_, rfl, Sx.loadVarN (vs := [.int .i64 ((findI x a).1), .int .i64 ((((findI x (b - 1)).1) - ((findI x a).1)) + 1), .int .i64 (1)]) sh41 (Sx.blk_cells (cells := [.int .i64 ((findI x a).1), .int .i64 ((((findI x (b - 1)).1) - ((findI x a).1)) + 1), .int .i64 (1)]) hend_ (i := 3) rfl 0 _ rfl)⟩, rfl, trivial⟩ ?_
          exact ⟨rfl, h⟩
      ·
       refine wc_skip ?_
       refine qn_then ?_
       refine wc_seq ?_
       refine wc_block ?_
       refine wc_seq ?_
       refine wc_draw (fun w => Sx.St w0 F0 ([Sx.blk b8 [.int .i64 ((findI x a).1), .int .i64 ((((findI x (b - 1)).1) - ((findI x a).1)) + 1), .int .i64 (0)] 41, Sx.blk g [.slice (A5) (((x).lens).length) (c6), .int .i64 ((x).size), .bool ((x).open_)] 60, Sx.row (Kd.int .i64) 3 (A5) (c6) ((x).lens), Sx.blk b1 [.int .i64 (0), .int .i64 (0), .int .i64 (0)] 41] ++ R) w) (by kernel_rfl) ?_
       replace h := st_drew h
       refine wa_take 0 rfl (by kernel_rfl) (by kernel_rfl) (by kernel_rfl) (fun _ _ _ h => h) rfl rfl (st_selT [true, true, true, true] h) (fun w_ hS => ov_fieldAddr _ ⟨b8, 0, none⟩ _ rfl fo41_0 rfl) ?_
       refine wa_take 1 rfl (by kernel_rfl) (by kernel_rfl) (by kernel_rfl) (fun _ _ _ h => h) rfl rfl (st_selT [true, true, true, true] h) (fun w_ hS => ov_loadb 0 _ hS rfl rfl sh3 rfl) ?_
       refine wa_take 2 rfl (by kernel_rfl) (by kernel_rfl) (by kernel_rfl) (fun _ _ _ h => h) rfl rfl (st_selT [true, true, true, true] h) (fun w_ hS => ov_fieldAddr _ ⟨b8, 1, none⟩ _ rfl fo41_1 rfl) ?_
       refine wa_take 3 rfl (by kernel_rfl) (by kernel_rfl) (by kernel_rfl) (fun _ _ _ h => h) rfl rfl (st_selT [true, true, true, true] h) (fun w_ hS => ov_loadb 0 _ hS rfl rfl sh3 rfl) ?_
       refine wa_take 4 rfl (by kernel_rfl) (by kernel_rfl) (by kernel_rfl) (fun _ _ _ h => h) rfl rfl (st_selT [true, true, true, true] h) (fun w_ hS => ov_bin _ rfl rfl (binR_add (r := ((findI x a).1) + ((((findI x (b - 1)).1) - ((findI x a).1)) + 1)) (Sx.w64 (by omega)))) ?_
       refine wa_take 5 rfl (by kernel_rfl) (by kernel_rfl) (by kernel_rfl) (fun _ _ _ h => h) rfl rfl (st_selT [true, true, true, true] h) (fun w_ hS => ov_move _ rfl) ?_
       refine wa_take 6 rfl (by kernel_rfl) (by kernel_rfl) (by kernel_rfl) (fun _ _ _ h => h) rfl rfl (st_selT [true, true, true, true] h) (fun w_ hS => ov_nilCheck _ rfl) ?_
       refine wa_take 7 rfl (by kernel_rfl) (by kernel_rfl) (by kernel_rfl) (fun _ _ _ h => h) rfl rfl (st_selT [true, true, true, true] h) (fun w_ hS => ov_fieldAddr _ ⟨g, 0, none⟩ _ rfl fo60_0 rfl) ?_
       refine wa_take 8 rfl (by kernel_rfl) (by kernel_rfl) (by kernel_rfl) (fun _ _ _ h => h) rfl rfl (st_selT [true, true, true, true] h) (fun w_ hS => ov_loadb 1 _ hS rfl rfl sh23 rfl) ?_
       refine wa_take 9 rfl (by kernel_rfl) (by kernel_rfl) (by kernel_rfl) (fun _ _ _ h => h) rfl rfl (st_selT [true, true, true, true] h) (fun w_ hS => ov_len _ _ _ _ _ rfl es23) ?_
       refine wa_take 10 rfl (by kernel_rfl) (by kernel_rfl) (by kernel_rfl) (fun _ _ _ h => h) rfl rfl (st_selT [true, true, true, true] h) (fun w_ hS => ov_bin _ rfl rfl (binR_lss)) ?_
       refine wa_take 11 rfl (by kernel_rfl) (by kernel_rfl) (by kernel_rfl) (fun _ _ _ h => h) rfl rfl (st_selT [true, true, true, true] h) (fun w_ hS => ov_assign _ rfl) ?_
       refine wa_done (by kernel_rfl) ?_
       refine qn_then ?_
       refine wc_cond (by rfl) (fun c37 => ?_) (fun c37 => ?_)
       ·
        have hnv := hnx (by omega)
        refine wc_skip ?_
        refine qn_block_normal ?_
        refine qn_then ?_
        refine wc_seq ?_
        refine wc_region ?_
        refine wl_v rfl rfl (ov_move _ rfl) ?_
        refine wl_v rfl rfl (ov_nilCheck _ rfl) ?_
        refine wl_v rfl rfl (ov_fieldAddr _ ⟨g, 1, none⟩ _ rfl fo60_1 rfl) ?_
        refine wl_v rfl rfl (ov_loadb 1 _ h rfl rfl sh3 rfl) ?_
        refine wl_v rfl rfl (ov_move _ rfl) ?_
        refine wl_v rfl rfl (ov_move _ rfl) ?_
        refine wl_v rfl rfl (ov_bin _ rfl rfl (binR_sub (r := b - a) (Sx.w64 (by omega)))) ?_
        refine wl_v rfl rfl (ov_bin _ rfl rfl (binR_sub (r := ((x).size) - (b - a)) (Sx.w64 (by omega)))) ?_
        refine wl_v rfl rfl (ov_nilCheck _ rfl) ?_
        refine wl_v rfl rfl (ov_fieldAddr _ ⟨g, 1, none⟩ _ rfl fo60_1 rfl) ?_
        refine wl_storeb 1 _ [.slice (A5) (((x).lens).length) (c6), .int .i64 (((x).size) - (b - a)), .bool ((x).open_)] h rfl rfl rfl rfl rfl rfl sh3 rfl rfl (fun _ h => ?_)
        refine wl_nil ?_
        refine qn_then ?_
        refine wc_seq ?_
        refine wc_region ?_
        refine wl_v rfl rfl (ov_move _ rfl) ?_
        refine wl_v rfl rfl (ov_loadbN 0 [.int .i64 ((findI x a).1), .int .i64 ((((findI x (b - 1)).1) - ((findI x a).1)) + 1), .int .i64 (0)] h rfl rfl sh41 rfl) ?_
        refine wl_v rfl rfl (ov_move _ rfl) ?_
        replace h := st_front 2 h
        replace h := st_front 2 h
        replace h := ixB_close ((x).lens) (((x).size) - (b - a)) (((x).open_)) (by first | rfl | simp) h
        refine wl_call _ rfl rfl rfl ent35 (change_calls2 (R := [Sx.blk b8 [.int .i64 ((findI x a).1), .int .i64 ((((findI x (b - 1)).1) - ((findI x a).1)) + 1), .int .i64 (0)] 41, Sx.blk b1 [.int .i64 (0), .int .i64 (0), .int .i64 (0)] 41] ++ R) g ((⟨(x).lens, ((x).size) - (b - a), ((x).open_)⟩ : IX)) ((findI x a).1) ((((findI x (b - 1)).1) - ((findI x a).1)) + 1) 0 ([]) (none) (0) (0) (by first | with_reducible rfl | simp only [List.length_set, List.length_append] | rfl) (by first | omega | simp; omega) (by first | omega | simp; omega) (by first | omega | simp; omega) (by first | omega | simp; omega) (fun _ _ _ => Kd.C_nil _ _) h) ?_
        rintro e_ w_ ⟨rfl, h⟩
        refine ⟨_, rfl, ?_⟩
        refine wl_nil ?_
        refine qn_then ?_
        refine wc_seq ?_
        refine wc_region ?_
        refine wl_v rfl rfl (ov_loadbN 1 [.int .i64 ((findI x a).1), .int .i64 ((((findI x (b - 1)).1) - ((findI x a).1)) + 1), .int .i64 (0)] h rfl rfl sh41 rfl) ?_
        refine wl_storebN 2 [.int .i64 ((findI x a).1), .int .i64 ((((findI x (b - 1)).1) - ((findI x a).1)) + 1), .int .i64 (0)] [.int .i64 ((findI x a).1), .int .i64 ((((findI x (b - 1)).1) - ((findI x a).1)) + 1), .int .i64 (0)] h rfl rfl rfl rfl (by simp [Value.oneCell']) sh41 rfl rfl (fun _ h => ?_)
        refine wl_v rfl rfl (ov_assign _ rfl) ?_
        refine wl_nil ?_
        refine qn_then ?_
        refine wc_ret ?_
        have hend_ := h
        have e1_ : oldD x a b = (((findI x (b - 1)).1) - ((findI x a).1)) + 1 := by omega
        have e3_ : newD x a b = [] := by unfold newD; rw [if_neg (by omega)]
        have e4_ : openD x a b = (((x).open_)) := by first | exact hO.1 (by omega) | exact hO.2.1 (by omega) (by omega) | exact hO.2.2.1 (by omega) (by omega) (by omega) | exact hO.2.2.2 (by omega) (by omega) (by omega)
        rw [del_fin (by assumption) c3 hfa.1 e1_ e3_ e4_ rfl]
        replace h := st_selT [true, false, false] h
        refine qn_ret [_, _] ⟨⟨_, rfl, Sx.loadVarN (vs := [.int .i64 ((findI x a).1), .int .i64 ((((findI x (b - 1)).1) - ((findI x a).1)) + 1), .int .i64 (0)]) sh41 (Sx.blk_cells (cells := [.int .i64 ((findI x a).1), .int .i64 ((((findI x (b - 1)).1) - ((findI x a).1)) + 1), .int .i64 (0)]) hend_ (i := 2) rfl 0 _ rfl)⟩, rfl, trivial⟩ ?_
        exact ⟨rfl, h⟩
       ·
        refine wc_seq ?_
        refine wc_region ?_
        refine wl_v rfl rfl (ov_move _ rfl) ?_
        refine wl_v rfl rfl (ov_bin _ rfl rfl (binR_eql)) ?_
        refine wl_v rfl rfl (ov_assign _ rfl) ?_
        refine wl_nil ?_
        refine qn_then ?_
        refine wc_cond (by rfl) (fun c38 => ?_) (fun c38 => ?_)
        ·
         refine wc_region ?_
         refine wl_v rfl rfl (ov_move _ rfl) ?_
         refine wl_v rfl rfl (ov_nilCheck _ rfl) ?_
         refine wl_v rfl rfl (ov_fieldAddr _ ⟨g, 2, none⟩ _ rfl fo60_2 rfl) ?_
         refine wl_storeb 1 _ [.slice (A5) (((x).lens).length) (c6), .int .i64 ((x).size), .bool false] h rfl rfl rfl rfl rfl rfl sh4 rfl rfl (fun _ h => ?_)
         refine wl_nil ?_
         refine qn_block_normal ?_
         refine qn_then ?_
         refine wc_seq ?_
         refine wc_region ?_
         refine wl_v rfl rfl (ov_move _ rfl) ?_
         refine wl_v rfl rfl (ov_nilCheck _ rfl) ?_
         refine wl_v rfl rfl (ov_fieldAddr _ ⟨g, 1, none⟩ _ rfl fo60_1 rfl) ?_
         refine wl_v rfl rfl (ov_loadb 1 _ h rfl rfl sh3 rfl) ?_
         refine wl_v rfl rfl (ov_move _ rfl) ?_
         refine wl_v rfl rfl (ov_move _ rfl) ?_
         refine wl_v rfl rfl (ov_bin _ rfl rfl (binR_sub (r := b - a) (Sx.w64 (by omega)))) ?_
         refine wl_v rfl rfl (ov_bin _ rfl rfl (binR_sub (r := ((x).size) - (b - a)) (Sx.w64 (by omega)))) ?_
         refine wl_v rfl rfl (ov_nilCheck _ rfl) ?_
         refine wl_v rfl rfl (ov_fieldAddr _ ⟨g, 1, none⟩ _ rfl fo60_1 rfl) ?_
         refine wl_storeb 1 _ [.slice (A5) (((x).lens).length) (c6), .int .i64 (((x).size) - (b - a)), .bool false] h rfl rfl rfl rfl rfl rfl sh3 rfl rfl (fun _ h => ?_)
         refine wl_nil ?_
         refine qn_then ?_
         refine wc_seq ?_
         refine wc_region ?_
         refine wl_v rfl rfl (ov_move _ rfl) ?_
         refine wl_v rfl rfl (ov_loadbN 0 [.int .i64 ((findI x a).1), .int .i64 ((((findI x (b - 1)).1) - ((findI x a).1)) + 1), .int .i64 (0)] h rfl rfl sh41 rfl) ?_
         refine wl_v rfl rfl (ov_move _ rfl) ?_
         replace h := st_front 2 h
         replace h := st_front 2 h
         replace h := ixB_close ((x).lens) (((x).size) - (b - a)) (false) (by first | rfl | simp) h
         refine wl_call _ rfl rfl rfl ent35 (change_calls2 (R := [Sx.blk b8 [.int .i64 ((findI x a).1), .int .i64 ((((findI x (b - 1)).1) - ((findI x a).1)) + 1), .int .i64 (0)] 41, Sx.blk b1 [.int .i64 (0), .int .i64 (0), .int .i64 (0)] 41] ++ R) g ((⟨(x).lens, ((x).size) - (b - a), false⟩ : IX)) ((findI x a).1) ((((findI x (b - 1)).1) - ((findI x a).1)) + 1) 0 ([]) (none) (0) (0) (by first | with_reducible rfl | simp only [List.length_set, List.length_append] | rfl) (by first | omega | simp; omega) (by first | omega | simp; omega) (by first | omega | simp; omega) (by first | omega | simp; omega) (fun _ _ _ => Kd.C_nil _ _) h) ?_
         rintro e_ w_ ⟨rfl, h⟩
         refine ⟨_, rfl, ?_⟩
         refine wl_nil ?_
         refine qn_then ?_
         refine wc_seq ?_
         refine wc_region ?_
         refine wl_v rfl rfl (ov_loadbN 1 [.int .i64 ((findI x a).1), .int .i64 ((((findI x (b - 1)).1) - ((findI x a).1)) + 1), .int .i64 (0)] h rfl rfl sh41 rfl) ?_
         refine wl_storebN 2 [.int .i64 ((findI x a).1), .int .i64 ((((findI x (b - 1)).1) - ((findI x a).1)) + 1), .int .i64 (0)] [.int .i64 ((findI x a).1), .int .i64 ((((findI x (b - 1)).1) - ((findI x a).1)) + 1), .int .i64 (0)] h rfl rfl rfl rfl (by simp [Value.oneCell']) sh41 rfl rfl (fun _ h => ?_)
         refine wl_v rfl rfl (ov_assign _ rfl) ?_
         refine wl_nil ?_
         refine qn_then ?_
         refine wc_ret ?_
         have hend_ := h
         have e1_ : oldD x a b = (((findI x (b - 1)).1) - ((findI x a).1)) + 1 := by omega
         have e3_ : newD x a b = [] := by unfold newD; rw [if_neg (by omega)]
         have e4_ : openD x a b = (false) := by first | exact hO.1 (by omega) | exact hO.2.1 (by omega) (by omega) | exact hO.2.2.1 (by omega) (by omega) (by omega) | exact hO.2.2.2 (by omega) (by omega) (by omega)
         rw [del_fin (by assumption) c3 hfa.1 e1_ e3_ e4_ rfl]
         replace h := st_selT [true, false, false] h
         refine qn_ret [_, _] ⟨⟨_, rfl, Sx.loadVarN (vs := [.int .i64 ((findI x a).1), .int .i64 ((((findI x (b - 1)).1) - ((findI x a).1)) + 1), .int .i64 (0)]) sh41 (Sx.blk_cells (cells := [.int .i64 ((findI x a).1), .int .i64 ((((findI x (b - 1)).1) - ((findI x a).1)) + 1), .int .i64 (0)]) hend_ (i := 2) rfl 0 _ rfl)⟩, rfl, trivial⟩ ?_
         exact ⟨rfl, h⟩
        ·
         exfalso
         have hnx2 := hnx
         omega
    ·
     refine wl_v rfl rfl (ov_move _ rfl) ?_
     refine wl_v rfl rfl (ov_nilCheck _ rfl) ?_
     refine wl_v rfl rfl (ov_fieldAddr _ ⟨g, 2, none⟩ _ rfl fo60_2 rfl) ?_
     refine wl_v rfl rfl (ov_loadb 0 _ h rfl rfl sh4 rfl) ?_
     refine wl_v rfl rfl (ov_notb _ rfl) ?_
     refine wl_v rfl rfl (ov_pick_false _ rfl rfl) ?_
     refine wl_v rfl rfl (ov_pick_true _ rfl rfl) ?_
     refine wl_v rfl rfl (ov_assign _ rfl) ?_
     refine wl_nil ?_
     refine qn_then ?_
     refine wc_seq ?_
     refine wc_region ?_
     refine wl_v rfl rfl (ov_move _ rfl) ?_
     refine wl_v rfl rfl (ov_move _ rfl) ?_
     refine wl_v rfl rfl (ov_move _ rfl) ?_
     refine wl_v rfl rfl (ov_bin _ rfl rfl (binR_sub (r := ((findI x (b - 1)).1) - ((findI x a).1)) (Sx.w64 (by omega)))) ?_
     refine wl_v rfl rfl (ov_bin _ rfl rfl (binR_add (r := (((findI x (b - 1)).1) - ((findI x a).1)) + 1) (Sx.w64 (by omega)))) ?_
     refine wl_v rfl rfl (ov_build [(0, .int .i64 ((findI x a).1)), (1, .int .i64 ((((findI x (b - 1)).1) - ((findI x a).1)) + 1))] [.int .i64 ((findI x a).1), .int .i64 ((((findI x (b - 1)).1) - ((findI x a).1)) + 1), .int .i64 (0)] rfl rfl (by kernel_rfl)) ?_
     refine wl_alloc _ h rfl rfl zo41 (fun b39 _ h => ?_)
     replace h : Sx.St _ _ (Sx.blk b39 [.int .i64 (0), .int .i64 (0), .int .i64 (0)] 41 :: _) _ := h
     refine wl_storebN 0 [.int .i64 ((findI x a).1), .int .i64 ((((findI x (b - 1)).1) - ((findI x a).1)) + 1), .int .i64 (0)] [.int .i64 ((findI x a).1), .int .i64 ((((findI x (b - 1)).1) - ((findI x a).1)) + 1), .int .i64 (0)] h rfl rfl rfl rfl (by simp [Value.oneCell']) sh41 rfl rfl (fun _ h => ?_)
     refine wl_nil ?_
     refine qn_then ?_
     refine wc_seq ?_
     refine wc_region ?_
     refine wl_v rfl rfl (ov_move _ rfl) ?_
     refine wl_v rfl rfl (ov_move _ rfl) ?_
     refine wl_v rfl rfl (ov_bin _ rfl rfl (binR_sub (r := a - ((spanI x ((findI x a).1)).1)) (Sx.w64 (by omega)))) ?_
     refine wl_v rfl rfl (ov_move _ rfl) ?_
     refine wl_v rfl rfl (ov_bin _ rfl rfl (binR_add (r := (a - ((spanI x ((findI x a).1)).1)) + ((spanI x ((findI x (b - 1)).1)).2.1)) (Sx.w64 (by omega)))) ?_
     refine wl_v rfl rfl (ov_move _ rfl) ?_
     refine wl_v rfl rfl (ov_bin _ rfl rfl (binR_sub (r := ((a - ((spanI x ((findI x a).1)).1)) + ((spanI x ((findI x (b - 1)).1)).2.1)) - b) (Sx.w64 (by omega)))) ?_
     refine wl_v rfl rfl (ov_assign _ rfl) ?_
     refine wl_nil ?_
     refine qn_then ?_
     refine wc_seq ?_
     refine wc_seq ?_
     refine wc_region ?_
     refine wl_v rfl rfl (ov_move _ rfl) ?_
     refine wl_v rfl rfl (ov_move _ rfl) ?_
     refine wl_splitb 96 rfl (fun c40 => ?_) (fun c40 => ?_)
     ·
      have hon := opN_0 (x := x) (by simpa using c40)
      refine wl_v rfl rfl (ov_move _ rfl) ?_
      refine wl_v rfl rfl (ov_move _ rfl) ?_
      refine wl_v rfl rfl (ov_bin _ rfl rfl (binR_gtr)) ?_
      refine wl_v rfl rfl (ov_pick_true _ rfl rfl) ?_
      refine wl_v rfl rfl (ov_move _ rfl) ?_
      refine wl_split 101 rfl (fun c41 => ?_) (fun c41 => ?_)
      ·
       refine wl_v rfl rfl (ov_move _ rfl) ?_
       refine wl_v rfl rfl (ov_bin _ rfl rfl (binR_add (r := ((findI x (b - 1)).1) + 1) (Sx.w64 (by omega)))) ?_
       refine wl_v rfl rfl (ov_move _ rfl) ?_
       refine wl_v rfl rfl (ov_nilCheck _ rfl) ?_
       refine wl_v rfl rfl (ov_fieldAddr _ ⟨g, 0, none⟩ _ rfl fo60_0 rfl) ?_
       refine wl_v rfl rfl (ov_loadb 1 _ h rfl rfl sh23 rfl) ?_
       refine wl_v rfl rfl (ov_len _ _ _ _ _ rfl es23) ?_
       refine wl_v rfl rfl (ov_bin _ rfl rfl (binR_lss)) ?_
       refine wl_v rfl rfl (ov_pick_true _ rfl rfl) ?_
       refine wl_nil ?_
       refine qn_then ?_
       refine wc_cond (by rfl) (fun c42 => ?_) (fun c42 => ?_)
       ·
        have hnv := hnx (by omega)
        refine wc_seq ?_
        refine wc_region ?_
        refine wl_v rfl rfl (ov_fieldAddr _ ⟨b39, 1, none⟩ _ rfl fo41_1 rfl) ?_
        refine wl_v rfl rfl (ov_loadb 0 _ h rfl rfl sh3 rfl) ?_
        refine wl_v rfl rfl (ov_bin _ rfl rfl (binR_add (r := ((((findI x (b - 1)).1) - ((findI x a).1)) + 1) + 1) (Sx.w64 (by omega)))) ?_
        refine wl_v rfl rfl (ov_fieldAddr _ ⟨b39, 1, none⟩ _ rfl fo41_1 rfl) ?_
        refine wl_storeb 0 _ [.int .i64 ((findI x a).1), .int .i64 (((((findI x (b - 1)).1) - ((findI x a).1)) + 1) + 1), .int .i64 (0)] h rfl rfl rfl rfl rfl rfl sh3 rfl rfl (fun _ h => ?_)
        refine wl_nil ?_
        refine qn_then ?_
        refine wc_region ?_
        refine wl_v rfl rfl (ov_move _ rfl) ?_
        refine wl_v rfl rfl (ov_move _ rfl) ?_
        refine wl_v rfl rfl (ov_nilCheck _ rfl) ?_
        refine wl_v rfl rfl (ov_fieldAddr _ ⟨g, 0, none⟩ _ rfl fo60_0 rfl) ?_
        refine wl_v rfl rfl (ov_loadb 1 _ h rfl rfl sh23 rfl) ?_
        refine wl_v rfl rfl (ov_move _ rfl) ?_
        refine wl_v rfl rfl (ov_bin _ rfl rfl (binR_add (r := ((findI x (b - 1)).1) + 1) (Sx.w64 (by omega)))) ?_
        obtain ⟨ad43, rfl⟩ := Sx.C_some ((Sx.row_reads h (i := 2) rfl).2) (k := (((findI x (b - 1)).1) + 1 : Int).toNat) (by first | assumption | omega)
        refine wl_v rfl rfl (ov_indexAddrN _ _ _ _ _ (((findI x (b - 1)).1) + 1 : Int).toNat rfl rfl es23 (by omega) (by first | assumption | omega | (simp only [List.length_take, List.length_drop, List.length_set]; omega))) ?_
        obtain ⟨cl46, _, hk45, hc44⟩ := Sx.C_cells ((Sx.row_reads h (i := 2) rfl).2) (z := (0 : Int)) (k := (((findI x (b - 1)).1) + 1 : Int).toNat) (by first | assumption | omega)
        obtain rfl : cl46 = [.int .i64 _] := hk45
        refine wl_v rfl rfl (ov_load1 _ _ rfl sh3 ((hc44 0 _ rfl))) ?_
        refine wl_v rfl rfl (ov_bin _ rfl rfl (binR_add (r := (((a - ((spanI x ((findI x a).1)).1)) + ((spanI x ((findI x (b - 1)).1)).2.1)) - b) + (((x).lens).getD (((findI x (b - 1)).1) + 1 : Int).toNat (0 : Int))) (Sx.w64 (by omega)))) ?_
        refine wl_v rfl rfl (ov_assign _ rfl) ?_
        refine wl_nil ?_
        refine qn_then ?_
        refine wc_seq ?_
        refine wc_region ?_
        refine wl_v rfl rfl (ov_assign _ rfl) ?_
        refine wl_nil ?_
        refine qn_then ?_
        refine wc_seq ?_
        refine wc_seq ?_
        refine wc_region ?_
        refine wl_v rfl rfl (ov_move _ rfl) ?_
        refine wl_v rfl rfl (ov_bin _ rfl rfl (binR_gtr)) ?_
        refine wl_nil ?_
        refine qn_then ?_
        refine wc_cond (by rfl) (fun c47 => ?_) (fun c47 => ?_)
        ·
         have hnv := hnx (by omega)
         refine wc_seq ?_
         refine wc_region ?_
         refine wl_v rfl rfl (ov_move _ rfl) ?_
         refine wl_lit (d := (Kd.int .i64)) [(0, .int .i64 ((((a - ((spanI x ((findI x a).1)).1)) + ((spanI x ((findI x (b - 1)).1)).2.1)) - b) + (((x).lens).getD (((findI x (b - 1)).1) + 1 : Int).toNat (0 : Int))))] _ [.int .i64 ((((a - ((spanI x ((findI x a).1)).1)) + ((spanI x ((findI x (b - 1)).1)).2.1)) - b) + (((x).lens).getD (((findI x (b - 1)).1) + 1 : Int).toNat (0 : Int)))] ([(((a - ((spanI x ((findI x a).1)).1)) + ((spanI x ((findI x (b - 1)).1)).2.1)) - b) + (((x).lens).getD (((findI x (b - 1)).1) + 1 : Int).toNat (0 : Int))]) h rfl rfl rfl rfl Try.underlying23 infb3 rfl (by decide) (by kernel_rfl) rfl (fun _ _ _ => ((Reps.none _ _).snoc ((Sx.mkInt .i64 ((((a - ((spanI x ((findI x a).1)).1)) + ((spanI x ((findI x (b - 1)).1)).2.1)) - b) + (((x).lens).getD (((findI x (b - 1)).1) + 1 : Int).toNat (0 : Int))))) rfl)) (fun A48 cp49 _ h => ?_)
         refine wl_v rfl rfl (ov_assign _ rfl) ?_
         refine wl_nil ?_
         refine qn_then ?_
         refine wc_region ?_
         refine wl_v rfl rfl (ov_fieldAddr _ ⟨b39, 2, none⟩ _ rfl fo41_2 rfl) ?_
         refine wl_storeb 1 _ [.int .i64 ((findI x a).1), .int .i64 (((((findI x (b - 1)).1) - ((findI x a).1)) + 1) + 1), .int .i64 (1)] h rfl rfl rfl rfl rfl rfl sh3 rfl rfl (fun _ h => ?_)
         refine wl_nil ?_
         refine qn_then ?_
         refine wc_seq ?_
         refine wc_block ?_
         refine wc_seq ?_
         refine wc_draw (fun w => Sx.St w0 F0 ([Sx.row (Kd.int .i64) 3 (A48) (cp49) ([(((a - ((spanI x ((findI x a).1)).1)) + ((spanI x ((findI x (b - 1)).1)).2.1)) - b) + (((x).lens).getD (((findI x (b - 1)).1) + 1 : Int).toNat (0 : Int))]), Sx.blk b39 [.int .i64 ((findI x a).1), .int .i64 (((((findI x (b - 1)).1) - ((findI x a).1)) + 1) + 1), .int .i64 (1)] 41, Sx.blk g [.slice (some ad43) (((x).lens).length) (c6), .int .i64 ((x).size), .bool ((x).open_)] 60, Sx.row (Kd.int .i64) 3 (some ad43) (c6) ((x).lens), Sx.blk b1 [.int .i64 (0), .int .i64 (0), .int .i64 (0)] 41] ++ R) w) (by kernel_rfl) ?_
         replace h := st_drew h
         refine wa_take 0 rfl (by kernel_rfl) (by kernel_rfl) (by kernel_rfl) (fun _ _ _ h => h) rfl rfl (st_selT [true, true, true, true, true] h) (fun w_ hS => ov_fieldAddr _ ⟨b39, 0, none⟩ _ rfl fo41_0 rfl) ?_
         refine wa_take 1 rfl (by kernel_rfl) (by kernel_rfl) (by kernel_rfl) (fun _ _ _ h => h) rfl rfl (st_selT [true, true, true, true, true] h) (fun w_ hS => ov_loadb 1 _ hS rfl rfl sh3 rfl) ?_
         refine wa_take 2 rfl (by kernel_rfl) (by kernel_rfl) (by kernel_rfl) (fun _ _ _ h => h) rfl rfl (st_selT [true, true, true, true, true] h) (fun w_ hS => ov_fieldAddr _ ⟨b39, 1, none⟩ _ rfl fo41_1 rfl) ?_
         refine wa_take 3 rfl (by kernel_rfl) (by kernel_rfl) (by kernel_rfl) (fun _ _ _ h => h) rfl rfl (st_selT [true, true, true, true, true] h) (fun w_ hS => ov_loadb 1 _ hS rfl rfl sh3 rfl) ?_
         refine wa_take 4 rfl (by kernel_rfl) (by kernel_rfl) (by kernel_rfl) (fun _ _ _ h => h) rfl rfl (st_selT [true, true, true, true, true] h) (fun w_ hS => ov_bin _ rfl rfl (binR_add (r := ((findI x a).1) + (((((findI x (b - 1)).1) - ((findI x a).1)) + 1) + 1)) (Sx.w64 (by omega)))) ?_
         refine wa_take 5 rfl (by kernel_rfl) (by kernel_rfl) (by kernel_rfl) (fun _ _ _ h => h) rfl rfl (st_selT [true, true, true, true, true] h) (fun w_ hS => ov_move _ rfl) ?_
         refine wa_take 6 rfl (by kernel_rfl) (by kernel_rfl) (by kernel_rfl) (fun _ _ _ h => h) rfl rfl (st_selT [true, true, true, true, true] h) (fun w_ hS => ov_nilCheck _ rfl) ?_
         refine wa_take 7 rfl (by kernel_rfl) (by kernel_rfl) (by kernel_rfl) (fun _ _ _ h => h) rfl rfl (st_selT [true, true, true, true, true] h) (fun w_ hS => ov_fieldAddr _ ⟨g, 0, none⟩ _ rfl fo60_0 rfl) ?_
         refine wa_take 8 rfl (by kernel_rfl) (by kernel_rfl) (by kernel_rfl) (fun _ _ _ h => h) rfl rfl (st_selT [true, true, true, true, true] h) (fun w_ hS => ov_loadb 2 _ hS rfl rfl sh23 rfl) ?_
         refine wa_take 9 rfl (by kernel_rfl) (by kernel_rfl) (by kernel_rfl) (fun _ _ _ h => h) rfl rfl (st_selT [true, true, true, true, true] h) (fun w_ hS => ov_len _ _ _ _ _ rfl es23) ?_
         refine wa_take 10 rfl (by kernel_rfl) (by kernel_rfl) (by kernel_rfl) (fun _ _ _ h => h) rfl rfl (st_selT [true, true, true, true, true] h) (fun w_ hS => ov_bin _ rfl rfl (binR_lss)) ?_
         refine wa_take 11 rfl (by kernel_rfl) (by kernel_rfl) (by kernel_rfl) (fun _ _ _ h => h) rfl rfl (st_selT [true, true, true, true, true] h) (fun w_ hS => ov_assign _ rfl) ?_
         refine wa_done (by kernel_rfl) ?_
         refine qn_then ?_
         refine wc_cond (by rfl) (fun c50 => ?_) (fun c50 => ?_)
         ·
          have hnv := hnx (by omega)
          refine wc_skip ?_
          refine qn_block_normal ?_
          refine qn_then ?_
          refine wc_seq ?_
          refine wc_region ?_
          refine wl_v rfl rfl (ov_move _ rfl) ?_
          refine wl_v rfl rfl (ov_nilCheck _ rfl) ?_
          refine wl_v rfl rfl (ov_fieldAddr _ ⟨g, 1, none⟩ _ rfl fo60_1 rfl) ?_
          refine wl_v rfl rfl (ov_loadb 2 _ h rfl rfl sh3 rfl) ?_
          refine wl_v rfl rfl (ov_move _ rfl) ?_
          refine wl_v rfl rfl (ov_move _ rfl) ?_
          refine wl_v rfl rfl (ov_bin _ rfl rfl (binR_sub (r := b - a) (Sx.w64 (by omega)))) ?_
          refine wl_v rfl rfl (ov_bin _ rfl rfl (binR_sub (r := ((x).size) - (b - a)) (Sx.w64 (by omega)))) ?_
          refine wl_v rfl rfl (ov_nilCheck _ rfl) ?_
          refine wl_v rfl rfl (ov_fieldAddr _ ⟨g, 1, none⟩ _ rfl fo60_1 rfl) ?_
          refine wl_storeb 2 _ [.slice (some ad43) (((x).lens).length) (c6), .int .i64 (((x).size) - (b - a)), .bool ((x).open_)] h rfl rfl rfl rfl rfl rfl sh3 rfl rfl (fun _ h => ?_)
          refine wl_nil ?_
          refine qn_then ?_
          refine wc_seq ?_
          refine wc_region ?_
          refine wl_v rfl rfl (ov_move _ rfl) ?_
          refine wl_v rfl rfl (ov_loadbN 1 [.int .i64 ((findI x a).1), .int .i64 (((((findI x (b - 1)).1) - ((findI x a).1)) + 1) + 1), .int .i64 (1)] h rfl rfl sh41 rfl) ?_
          refine wl_v rfl rfl (ov_move _ rfl) ?_
          replace h := st_front 3 h
          replace h := st_front 3 h
          replace h := ixB_close ((x).lens) (((x).size) - (b - a)) (((x).open_)) (by first | rfl | simp) h
          refine wl_call _ rfl rfl rfl ent35 (change_calls2 (R := [Sx.row (Kd.int .i64) 3 (A48) (cp49) ([(((a - ((spanI x ((findI x a).1)).1)) + ((spanI x ((findI x (b - 1)).1)).2.1)) - b) + (((x).lens).getD (((findI x (b - 1)).1) + 1 : Int).toNat (0 : Int))]), Sx.blk b39 [.int .i64 ((findI x a).1), .int .i64 (((((findI x (b - 1)).1) - ((findI x a).1)) + 1) + 1), .int .i64 (1)] 41, Sx.blk b1 [.int .i64 (0), .int .i64 (0), .int .i64 (0)] 41] ++ R) g ((⟨(x).lens, ((x).size) - (b - a), ((x).open_)⟩ : IX)) ((findI x a).1) (((((findI x (b - 1)).1) - ((findI x a).1)) + 1) + 1) 1 ([(((a - ((spanI x ((findI x a).1)).1)) + ((spanI x ((findI x (b - 1)).1)).2.1)) - b) + (((x).lens).getD (((findI x (b - 1)).1) + 1 : Int).toNat (0 : Int))]) (A48) (cp49) (([(((a - ((spanI x ((findI x a).1)).1)) + ((spanI x ((findI x (b - 1)).1)).2.1)) - b) + (((x).lens).getD (((findI x (b - 1)).1) + 1 : Int).toNat (0 : Int))] : List _).length) (by first | with_reducible rfl | simp only [List.length_set, List.length_append] | rfl) (by first | omega | simp; omega) (by first | omega | simp; omega) (by first | omega | simp; omega) (by first | omega | simp; omega) (Sx.row_reads_at (R := [Sx.row (Kd.int .i64) 3 (A48) (cp49) ([(((a - ((spanI x ((findI x a).1)).1)) + ((spanI x ((findI x (b - 1)).1)).2.1)) - b) + (((x).lens).getD (((findI x (b - 1)).1) + 1 : Int).toNat (0 : Int))]), Sx.blk b39 [.int .i64 ((findI x a).1), .int .i64 (((((findI x (b - 1)).1) - ((findI x a).1)) + 1) + 1), .int .i64 (1)] 41, Sx.blk b1 [.int .i64 (0), .int .i64 (0), .int .i64 (0)] 41] ++ R) (j := 0) rfl) h) ?_
          rintro e_ w_ ⟨rfl, h⟩
          refine ⟨_, rfl, ?_⟩
          refine wl_nil ?_
          refine qn_then ?_
          refine wc_seq ?_
          refine wc_region ?_
          refine wl_v rfl rfl (ov_loadbN 2 [.int .i64 ((findI x a).1), .int .i64 (((((findI x (b - 1)).1) - ((findI x a).1)) + 1) + 1), .int .i64 (1)] h rfl rfl sh41 rfl) ?_
          refine wl_storebN 3 [.int .i64 ((findI x a).1), .int .i64 (((((findI x (b - 1)).1) - ((findI x a).1)) + 1) + 1), .int .i64 (1)] [.int .i64 ((findI x a).1), .int .i64 (((((findI x (b - 1)).1) - ((findI x a).1)) + 1) + 1), .int .i64 (1)] h rfl rfl rfl rfl (by simp [Value.oneCell']) sh41 rfl rfl (fun _ h => ?_)
          refine wl_v rfl rfl (ov_assign _ rfl) ?_
          refine wl_nil ?_
          refine qn_then ?_
          refine wc_ret ?_
          have hend_ := h
          have e1_ : oldD x a b = ((((findI x (b - 1)).1) - ((findI x a).1)) + 1) + 1 := by omega
          have e3_ : newD x a b = [(((a - ((spanI x ((findI x a).1)).1)) + ((spanI x ((findI x (b - 1)).1)).2.1)) - b) + (((x).lens).getD (((findI x (b - 1)).1) + 1 : Int).toNat (0 : Int))] := by unfold newD; rw [show restD x a b = (((a - ((spanI x ((findI x a).1)).1)) + ((spanI x ((findI x (b - 1)).1)).2.1)) - b) + (((x).lens).getD (((findI x (b - 1)).1) + 1 : Int).toNat (0 : Int)) by omega, if_pos (by omega)]
          have e4_ : openD x a b = (((x).open_)) := by first | exact hO.1 (by omega) | exact hO.2.1 (by omega) (by omega) | exact hO.2.2.1 (by omega) (by omega) (by omega) | exact hO.2.2.2 (by omega) (by omega) (by omega)
          rw [del_fin (by assumption) c3 hfa.1 e1_ e3_ e4_ rfl]
          replace h := st_selT [true, false, false, false] h
          refine qn_ret [_, _] ⟨⟨_, rfl, Sx.loadVarN (vs := [.int .i64 ((findI x a).1), .int .i64 (((((findI x (b - 1)).1) - ((findI x a).1)) + 1) + 1), .int .i64 (1)]) sh41 (Sx.blk_cells (cells := [.int .i64 ((findI x a).1), .int .i64 (((((findI x (b - 1)).1) - ((findI x a).1)) + 1) + 1), .int .i64 (1)]) hend_ (i := 3) rfl 0 _ rfl)⟩, rfl, trivial⟩ ?_
          exact ⟨rfl, h⟩
         ·
          refine wc_seq ?_
          refine wc_region ?_
          refine wl_v rfl rfl (ov_move _ rfl) ?_
          refine wl_v rfl rfl (ov_bin _ rfl rfl (binR_eql)) ?_
          refine wl_v rfl rfl (ov_assign _ rfl) ?_
          refine wl_nil ?_
          refine qn_then ?_
          refine wc_cond (by rfl) (fun c51 => ?_) (fun c51 => ?_)
          ·
           exfalso
           have hnx2 := hnx
           omega
          ·
           refine wc_seq ?_
           refine wc_region ?_
           refine wl_v rfl rfl (ov_move _ rfl) ?_
           refine wl_v rfl rfl (ov_move _ rfl) ?_
           refine wl_splitb 150 rfl (fun c52 => ?_) (fun c52 => ?_)
           ·
            have hon := opN_0 (x := x) (by simpa using c52)
            refine wl_v rfl rfl (ov_move _ rfl) ?_
            refine wl_v rfl rfl (ov_bin _ rfl rfl (binR_add (r := ((findI x (b - 1)).1) + 1) (Sx.w64 (by omega)))) ?_
            refine wl_v rfl rfl (ov_move _ rfl) ?_
            refine wl_v rfl rfl (ov_nilCheck _ rfl) ?_
            refine wl_v rfl rfl (ov_fieldAddr _ ⟨g, 0, none⟩ _ rfl fo60_0 rfl) ?_
            refine wl_v rfl rfl (ov_loadb 2 _ h rfl rfl sh23 rfl) ?_
            refine wl_v rfl rfl (ov_len _ _ _ _ _ rfl es23) ?_
            refine wl_v rfl rfl (ov_bin _ rfl rfl (binR_geq)) ?_
            refine wl_v rfl rfl (ov_pick_true _ rfl rfl) ?_
            refine wl_v rfl rfl (ov_assign _ rfl) ?_
            refine wl_nil ?_
            refine qn_then ?_
            refine wc_cond (by rfl) (fun c53 => ?_) (fun c53 => ?_)
            ·
             exfalso
             omega
            ·
             refine wc_skip ?_
             refine qn_block_normal ?_
             refine qn_then ?_
             refine wc_seq ?_
             refine wc_region ?_
             refine wl_v rfl rfl (ov_move _ rfl) ?_
             refine wl_v rfl rfl (ov_nilCheck _ rfl) ?_
             refine wl_v rfl rfl (ov_fieldAddr _ ⟨g, 1, none⟩ _ rfl fo60_1 rfl) ?_
             refine wl_v rfl rfl (ov_loadb 2 _ h rfl rfl sh3 rfl) ?_
             refine wl_v rfl rfl (ov_move _ rfl) ?_
             refine wl_v rfl rfl (ov_move _ rfl) ?_
             refine wl_v rfl rfl (ov_bin _ rfl rfl (binR_sub (r := b - a) (Sx.w64 (by omega)))) ?_
             refine wl_v rfl rfl (ov_bin _ rfl rfl (binR_sub (r := ((x).size) - (b - a)) (Sx.w64 (by omega)))) ?_
             refine wl_v rfl rfl (ov_nilCheck _ rfl) ?_
             refine wl_v rfl rfl (ov_fieldAddr _ ⟨g, 1, none⟩ _ rfl fo60_1 rfl) ?_
             refine wl_storeb 2 _ [.slice (some ad43) (((x).lens).length) (c6), .int .i64 (((x).size) - (b - a)), .bool ((x).open_)] h rfl rfl rfl rfl rfl rfl sh3 rfl rfl (fun _ h => ?_)
             refine wl_nil ?_
             refine qn_then ?_
             refine wc_seq ?_
             refine wc_region ?_
             refine wl_v rfl rfl (ov_move _ rfl) ?_
             refine wl_v rfl rfl (ov_loadbN 1 [.int .i64 ((findI x a).1), .int .i64 (((((findI x (b - 1)).1) - ((findI x a).1)) + 1) + 1), .int .i64 (1)] h rfl rfl sh41 rfl) ?_
             refine wl_v rfl rfl (ov_move _ rfl) ?_
             replace h := st_front 3 h
             replace h := st_front 3 h
             replace h := ixB_close ((x).lens) (((x).size) - (b - a)) (((x).open_)) (by first | rfl | simp) h
             refine wl_call _ rfl rfl rfl ent35 (change_calls2 (R := [Sx.row (Kd.int .i64) 3 (A48) (cp49) ([(((a - ((spanI x ((findI x a).1)).1)) + ((spanI x ((findI x (b - 1)).1)).2.1)) - b) + (((x).lens).getD (((findI x (b - 1)).1) + 1 : Int).toNat (0 : Int))]), Sx.blk b39 [.int .i64 ((findI x a).1), .int .i64 (((((findI x (b - 1)).1) - ((findI x a).1)) + 1) + 1), .int .i64 (1)] 41, Sx.blk b1 [.int .i64 (0), .int .i64 (0), .int .i64 (0)] 41] ++ R) g ((⟨(x).lens, ((x).size) - (b - a), ((x).open_)⟩ : IX)) ((findI x a).1) (((((findI x (b - 1)).1) - ((findI x a).1)) + 1) + 1) 1 ([(((a - ((spanI x ((findI x a).1)).1)) + ((spanI x ((findI x (b - 1)).1)).2.1)) - b) + (((x).lens).getD (((findI x (b - 1)).1) + 1 : Int).toNat (0 : Int))]) (A48) (cp49) (([(((a - ((spanI x ((findI x a).1)).1)) + ((spanI x ((findI x (b - 1)).1)).2.1)) - b) + (((x).lens).getD (((findI x (b - 1)).1) + 1 : Int).toNat (0 : Int))] : List _).length) (by first | with_reducible rfl | simp only [List.length_set, List.length_append] | rfl) (by first | omega | simp; omega) (by first | omega | simp; omega) (by first | omega | simp; omega) (by first | omega | simp; omega) (Sx.row_reads_at (R := [Sx.row (Kd.int .i64) 3 (A48) (cp49) ([(((a - ((spanI x ((findI x a).1)).1)) + ((spanI x ((findI x (b - 1)).1)).2.1)) - b) + (((x).lens).getD (((findI x (b - 1)).1) + 1 : Int).toNat (0 : Int))]), Sx.blk b39 [.int .i64 ((findI x a).1), .int .i64 (((((findI x (b - 1)).1) - ((findI x a).1)) + 1) + 1), .int .i64 (1)] 41, Sx.blk b1 [.int .i64 (0), .int .i64 (0), .int .i64 (0)] 41] ++ R) (j := 0) rfl) h) ?_
             rintro e_ w_ ⟨rfl, h⟩
             refine ⟨_, rfl, ?_⟩
             refine wl_nil ?_
             refine qn_then ?_
             refine wc_seq ?_
             refine wc_region ?_
             refine wl_v rfl rfl (ov_loadbN 2 [.int .i64 ((findI x a).1), .int .i64 (((((findI x (b - 1)).1) - ((findI x a).1)) + 1) + 1), .int .i64 (1)] h rfl rfl sh41 rfl) ?_
             refine wl_storebN 3 [.int .i64 ((findI x a).1), .int .i64 (((((findI x (b - 1)).1) - ((findI x a).1)) + 1) + 1), .int .i64 (1)] [.int .i64 ((findI x a).1), .int .i64 (((((findI x (b - 1)).1) - ((findI x a).1)) + 1) + 1), .int .i64 (1)] h rfl rfl rfl rfl (by simp [Value.oneCell']) sh41 rfl rfl (fun _ h => ?_)
             refine wl_v rfl rfl (ov_assign _ rfl) ?_
             refine wl_nil ?_
             refine qn_then ?_
             refine wc_ret ?_
             have hend_ := h
             have e1_ : oldD x a b = ((((findI x (b - 1)).1) - ((findI x a).1)) + 1) + 1 := by omega
             have e3_ : newD x a b = [(((a - ((spanI x ((findI x a).1)).1)) + ((spanI x ((findI x (b - 1)).1)).2.1)) - b) + (((x).lens).getD (((findI x (b - 1)).1) + 1 : Int).toNat (0 : Int))] := by unfold newD; rw [show restD x a b = (((a - ((spanI x ((findI x a).1)).1)) + ((spanI x ((findI x (b - 1)).1)).2.1)) - b) + (((x).lens).getD (((findI x (b - 1)).1) + 1 : Int).toNat (0 : Int)) by omega, if_pos (by omega)]
             have e4_ : openD x a b = (((x).open_)) := by first | exact hO.1 (by omega) | exact hO.2.1 (by omega) (by omega) | exact hO.2.2.1 (by omega) (by omega) (by omega) | exact hO.2.2.2 (by omega) (by omega) (by omega)
             rw [del_fin (by assumption) c3 hfa.1 e1_ e3_ e4_ rfl]
             replace h := st_selT [true, false, false, false] h
             refine qn_ret [_, _] ⟨⟨_, rfl, Sx.loadVarN (vs := [.int .i64 ((findI x a).1), .int .i64 (((((findI x (b - 1)).1) - ((findI x a).1)) + 1) + 1), .int .i64 (1)]) sh41 (Sx.blk_cells (cells := [.int .i64 ((findI x a).1), .int .i64 (((((findI x (b - 1)).1) - ((findI x a).1)) + 1) + 1), .int .i64 (1)]) hend_ (i := 3) rfl 0 _ rfl)⟩, rfl, trivial⟩ ?_
             exact ⟨rfl, h⟩
           ·
            exact absurd (c40.symm.trans c52) (by decide)
        ·
         refine wc_skip ?_
         refine qn_then ?_
         refine wc_seq ?_
         refine wc_block ?_
         refine wc_seq ?_
         refine wc_draw (fun w => Sx.St w0 F0 ([Sx.blk b39 [.int .i64 ((findI x a).1), .int .i64 (((((findI x (b - 1)).1) - ((findI x a).1)) + 1) + 1), .int .i64 (0)] 41, Sx.blk g [.slice (some ad43) (((x).lens).length) (c6), .int .i64 ((x).size), .bool ((x).open_)] 60, Sx.row (Kd.int .i64) 3 (some ad43) (c6) ((x).lens), Sx.blk b1 [.int .i64 (0), .int .i64 (0), .int .i64 (0)] 41] ++ R) w) (by kernel_rfl) ?_
         replace h := st_drew h
         refine wa_take 0 rfl (by kernel_rfl) (by kernel_rfl) (by kernel_rfl) (fun _ _ _ h => h) rfl rfl (st_selT [true, true, true, true] h) (fun w_ hS => ov_fieldAddr _ ⟨b39, 0, none⟩ _ rfl fo41_0 rfl) ?_
         refine wa_take 1 rfl (by kernel_rfl) (by kernel_rfl) (by kernel_rfl) (fun _ _ _ h => h) rfl rfl (st_selT [true, true, true, true] h) (fun w_ hS => ov_loadb 0 _ hS rfl rfl sh3 rfl) ?_
         refine wa_take 2 rfl (by kernel_rfl) (by kernel_rfl) (by kernel_rfl) (fun _ _ _ h => h) rfl rfl (st_selT [true, true, true, true] h) (fun w_ hS => ov_fieldAddr _ ⟨b39, 1, none⟩ _ rfl fo41_1 rfl) ?_
         refine wa_take 3 rfl (by kernel_rfl) (by kernel_rfl) (by kernel_rfl) (fun _ _ _ h => h) rfl rfl (st_selT [true, true, true, true] h) (fun w_ hS => ov_loadb 0 _ hS rfl rfl sh3 rfl) ?_
         refine wa_take 4 rfl (by kernel_rfl) (by kernel_rfl) (by kernel_rfl) (fun _ _ _ h => h) rfl rfl (st_selT [true, true, true, true] h) (fun w_ hS => ov_bin _ rfl rfl (binR_add (r := ((findI x a).1) + (((((findI x (b - 1)).1) - ((findI x a).1)) + 1) + 1)) (Sx.w64 (by omega)))) ?_
         refine wa_take 5 rfl (by kernel_rfl) (by kernel_rfl) (by kernel_rfl) (fun _ _ _ h => h) rfl rfl (st_selT [true, true, true, true] h) (fun w_ hS => ov_move _ rfl) ?_
         refine wa_take 6 rfl (by kernel_rfl) (by kernel_rfl) (by kernel_rfl) (fun _ _ _ h => h) rfl rfl (st_selT [true, true, true, true] h) (fun w_ hS => ov_nilCheck _ rfl) ?_
         refine wa_take 7 rfl (by kernel_rfl) (by kernel_rfl) (by kernel_rfl) (fun _ _ _ h => h) rfl rfl (st_selT [true, true, true, true] h) (fun w_ hS => ov_fieldAddr _ ⟨g, 0, none⟩ _ rfl fo60_0 rfl) ?_
         refine wa_take 8 rfl (by kernel_rfl) (by kernel_rfl) (by kernel_rfl) (fun _ _ _ h => h) rfl rfl (st_selT [true, true, true, true] h) (fun w_ hS => ov_loadb 1 _ hS rfl rfl sh23 rfl) ?_
         refine wa_take 9 rfl (by kernel_rfl) (by kernel_rfl) (by kernel_rfl) (fun _ _ _ h => h) rfl rfl (st_selT [true, true, true, true] h) (fun w_ hS => ov_len _ _ _ _ _ rfl es23) ?_
         refine wa_take 10 rfl (by kernel_rfl) (by kernel_rfl) (by kernel_rfl) (fun _ _ _ h => h) rfl rfl (st_selT [true, true, true, true] h) (fun w_ hS => ov_bin _ rfl rfl (binR_lss)) ?_
         refine wa_take 11 rfl (by kernel_rfl) (by kernel_rfl) (by kernel_rfl) (fun _ _ _ h => h) rfl rfl (st_selT [true, true, true, true] h) (fun w_ hS => ov_assign _ rfl) ?_
         refine wa_done (by kernel_rfl) ?_
         refine qn_then ?_
         refine wc_cond (by rfl) (fun c54 => ?_) (fun c54 => ?_)
         ·
          have hnv := hnx (by omega)
          refine wc_skip ?_
          refine qn_block_normal ?_
          refine qn_then ?_
          refine wc_seq ?_
          refine wc_region ?_
          refine wl_v rfl rfl (ov_move _ rfl) ?_
          refine wl_v rfl rfl (ov_nilCheck _ rfl) ?_
          refine wl_v rfl rfl (ov_fieldAddr _ ⟨g, 1, none⟩ _ rfl fo60_1 rfl) ?_
          refine wl_v rfl rfl (ov_loadb 1 _ h rfl rfl sh3 rfl) ?_
          refine wl_v rfl rfl (ov_move _ rfl) ?_
          refine wl_v rfl rfl (ov_move _ rfl) ?_
          refine wl_v rfl rfl (ov_bin _ rfl rfl (binR_sub (r := b - a) (Sx.w64 (by omega)))) ?_
          refine wl_v rfl rfl (ov_bin _ rfl rfl (binR_sub (r := ((x).size) - (b - a)) (Sx.w64 (by omega)))) ?_
          refine wl_v rfl rfl (ov_nilCheck _ rfl) ?_
          refine wl_v rfl rfl (ov_fieldAddr _ ⟨g, 1, none⟩ _ rfl fo60_1 rfl) ?_
          refine wl_storeb 1 _ [.slice (some ad43) (((x).lens).length) (c6), .int .i64 (((x).size) - (b - a)), .bool ((x).open_)] h rfl rfl rfl rfl rfl rfl sh3 rfl rfl (fun _ h => ?_)
          refine wl_nil ?_
          refine qn_then ?_
          refine wc_seq ?_
          refine wc_region ?_
          refine wl_v rfl rfl (ov_move _ rfl) ?_
          refine wl_v rfl rfl (ov_loadbN 0 [.int .i64 ((findI x a).1), .int .i64 (((((findI x (b - 1)).1) - ((findI x a).1)) + 1) + 1), .int .i64 (0)] h rfl rfl sh41 rfl) ?_
          refine wl_v rfl rfl (ov_move _ rfl) ?_
          replace h := st_front 2 h
          replace h := st_front 2 h
          replace h := ixB_close ((x).lens) (((x).size) - (b - a)) (((x).open_)) (by first | rfl | simp) h
          refine wl_call _ rfl rfl rfl ent35 (change_calls2 (R := [Sx.blk b39 [.int .i64 ((findI x a).1), .int .i64 (((((findI x (b - 1)).1) - ((findI x a).1)) + 1) + 1), .int .i64 (0)] 41, Sx.blk b1 [.int .i64 (0), .int .i64 (0), .int .i64 (0)] 41] ++ R) g ((⟨(x).lens, ((x).size) - (b - a), ((x).open_)⟩ : IX)) ((findI x a).1) (((((findI x (b - 1)).1) - ((findI x a).1)) + 1) + 1) 0 ([]) (none) (0) (0) (by first | with_reducible rfl | simp only [List.length_set, List.length_append] | rfl) (by first | omega | simp; omega) (by first | omega | simp; omega) (by first | omega | simp; omega) (by first | omega | simp; omega) (fun _ _ _ => Kd.C_nil _ _) h) ?_
          rintro e_ w_ ⟨rfl, h⟩
          refine ⟨_, rfl, ?_⟩
          refine wl_nil ?_
          refine qn_then ?_
          refine wc_seq ?_
          refine wc_region ?_
          refine wl_v rfl rfl (ov_loadbN 1 [.int .i64 ((findI x a).1), .int .i64 (((((findI x (b - 1)).1) - ((findI x a).1)) + 1) + 1), .int .i64 (0)] h rfl rfl sh41 rfl) ?_
          refine wl_storebN 2 [.int .i64 ((findI x a).1), .int .i64 (((((findI x (b - 1)).1) - ((findI x a).1)) + 1) + 1), .int .i64 (0)] [.int .i64 ((findI x a).1), .int .i64 (((((findI x (b - 1)).1) - ((findI x a).1)) + 1) + 1), .int .i64 (0)] h rfl rfl rfl rfl (by simp [Value.oneCell']) sh41 rfl rfl (fun _ h => ?_)
          refine wl_v rfl rfl (ov_assign _ rfl) ?_
          refine wl_nil ?_
          refine qn_then ?_
          refine wc_ret ?_
          have hend_ := h
          have e1_ : oldD x a b = ((((findI x (b - 1)).1) - ((findI x a).1)) + 1) + 1 := by omega
          have e3_ : newD x a b = [] := by unfold newD; rw [if_neg (by omega)]
          have e4_ : openD x a b = (((x).open_)) := by first | exact hO.1 (by omega) | exact hO.2.1 (by omega) (by omega) | exact hO.2.2.1 (by omega) (by omega) (by omega) | exact hO.2.2.2 (by omega) (by omega) (by omega)
          rw [del_fin (by assumption) c3 hfa.1 e1_ e3_ e4_ rfl]
          replace h := st_selT [true, false, false] h
          refine qn_ret [_, _] ⟨⟨_, rfl, Sx.loadVarN (vs := [.int .i64 ((findI x a).1), .int .i64 (((((findI x (b - 1)).1) - ((findI x a).1)) + 1) + 1), .int .i64 (0)]) sh41 (Sx.blk_cells (cells := [.int .i64 ((findI x a).1), .int .i64 (((((findI x (b - 1)).1) - ((findI x a).1)) + 1) + 1), .int .i64 (0)]) hend_ (i := 2) rfl 0 _ rfl)⟩, rfl, trivial⟩ ?_
          exact ⟨rfl, h⟩
         ·
          refine wc_seq ?_
          refine wc_region ?_
          refine wl_v rfl rfl (ov_move _ rfl) ?_
          refine wl_v rfl rfl (ov_bin _ rfl rfl (binR_eql)) ?_
          refine wl_v rfl rfl (ov_assign _ rfl) ?_
          refine wl_nil ?_
          refine qn_then ?_
          refine wc_cond (by rfl) (fun c55 => ?_) (fun c55 => ?_)
          ·
           refine wc_region ?_
           refine wl_v rfl rfl (ov_move _ rfl) ?_
           refine wl_v rfl rfl (ov_nilCheck _ rfl) ?_
           refine wl_v rfl rfl (ov_fieldAddr _ ⟨g, 2, none⟩ _ rfl fo60_2 rfl) ?_
           refine wl_storeb 1 _ [.slice (some ad43) (((x).lens).length) (c6), .int .i64 ((x).size), .bool false] h rfl rfl rfl rfl rfl rfl sh4 rfl rfl (fun _ h => ?_)
           refine wl_nil ?_
           refine qn_block_normal ?_
           refine qn_then ?_
           refine wc_seq ?_
           refine wc_region ?_
           refine wl_v rfl rfl (ov_move _ rfl) ?_
           refine wl_v rfl rfl (ov_nilCheck _ rfl) ?_
           refine wl_v rfl rfl (ov_fieldAddr _ ⟨g, 1, none⟩ _ rfl fo60_1 rfl) ?_
           refine wl_v rfl rfl (ov_loadb 1 _ h rfl rfl sh3 rfl) ?_
           refine wl_v rfl rfl (ov_move _ rfl) ?_
           refine wl_v rfl rfl (ov_move _ rfl) ?_
           refine wl_v rfl rfl (ov_bin _ rfl rfl (binR_sub (r := b - a) (Sx.w64 (by omega)))) ?_
           refine wl_v rfl rfl (ov_bin _ rfl rfl (binR_sub (r := ((x).size) - (b - a)) (Sx.w64 (by omega)))) ?_
           refine wl_v rfl rfl (ov_nilCheck _ rfl) ?_
           refine wl_v rfl rfl (ov_fieldAddr _ ⟨g, 1, none⟩ _ rfl fo60_1 rfl) ?_
           refine wl_storeb 1 _ [.slice (some ad43) (((x).lens).length) (c6), .int .i64 (((x).size) - (b - a)), .bool false] h rfl rfl rfl rfl rfl rfl sh3 rfl rfl (fun _ h => ?_)
           refine wl_nil ?_
           refine qn_then ?_
           refine wc_seq ?_
           refine wc_region ?_
           refine wl_v rfl rfl (ov_move _ rfl) ?_
           refine wl_v rfl rfl (ov_loadbN 0 [.int .i64 ((findI x a).1), .int .i64 (((((findI x (b - 1)).1) - ((findI x a).1)) + 1) + 1), .int .i64 (0)] h rfl rfl sh41 rfl) ?_
           refine wl_v rfl rfl (ov_move _ rfl) ?_
           replace h := st_front 2 h
           replace h := st_front 2 h
           replace h := ixB_close ((x).lens) (((x).size) - (b - a)) (false) (by first | rfl | simp) h
           refine wl_call _ rfl rfl rfl ent35 (change_calls2 (R := [Sx.blk b39 [.int .i64 ((findI x a).1), .int .i64 (((((findI x (b - 1)).1) - ((findI x a).1)) + 1) + 1), .int .i64 (0)] 41, Sx.blk b1 [.int .i64 (0), .int .i64 (0), .int .i64 (0)] 41] ++ R) g ((⟨(x).lens, ((x).size) - (b - a), false⟩ : IX)) ((findI x a).1) (((((findI x (b - 1)).1) - ((findI x a).1)) + 1) + 1) 0 ([]) (none) (0) (0) (by first | with_reducible rfl | simp only [List.length_set, List.length_append] | rfl) (by first | omega | simp; omega) (by first | omega | simp; omega) (by first | omega | simp; omega) (by first | omega | simp; omega) (fun _ _ _ => Kd.C_nil _ _) h) ?_
           rintro e_ w_ ⟨rfl, h⟩
           refine ⟨_, rfl, ?_⟩
           refine wl_nil ?_
           refine qn_then ?_
           refine wc_seq ?_
           refine wc_region ?_
           refine wl_v rfl rfl (ov_loadbN 1 [.int .i64 ((findI x a).1), .int .i64 (((((findI x (b - 1)).1) - ((findI x a).1)) + 1) + 1), .int .i64 (0)] h rfl rfl sh41 rfl) ?_
           refine wl_storebN 2 [.int .i64 ((findI x a).1), .int .i64 (((((findI x (b - 1)).1) - ((findI x a).1)) + 1) + 1), .int .i64 (0)] [.int .i64 ((findI x a).1), .int .i64 (((((findI x (b - 1)).1) - ((findI x a).1)) + 1) + 1), .int .i64 (0)] h rfl rfl rfl rfl (by simp [Value.oneCell']) sh41 rfl rfl (fun _ h => ?_)
           refine wl_v rfl rfl (ov_assign _ rfl) ?_
           refine wl_nil ?_
           refine qn_then ?_
           refine wc_ret ?_
           have hend_ := h
           have e1_ : oldD x a b = ((((findI x (b - 1)).1) - ((findI x a).1)) + 1) + 1 := by omega
           have e3_ : newD x a b = [] := by unfold newD; rw [if_neg (by omega)]
           have e4_ : openD x a b = (false) := by first | exact hO.1 (by omega) | exact hO.2.1 (by omega) (by omega) | exact hO.2.2.1 (by omega) (by omega) (by omega) | exact hO.2.2.2 (by omega) (by omega) (by omega)
           rw [del_fin (by assumption) c3 hfa.1 e1_ e3_ e4_ rfl]
           replace h := st_selT [true, false, false] h
           refine qn_ret [_, _] ⟨⟨_, rfl, Sx.loadVarN (vs := [.int .i64 ((findI x a).1), .int .i64 (((((findI x (b - 1)).1) - ((findI x a).1)) + 1) + 1), .int .i64 (0)]) sh41 (Sx.blk_cells (cells := [.int .i64 ((findI x a).1), .int .i64 (((((findI x (b - 1)).1) - ((findI x a).1)) + 1) + 1), .int .i64 (0)]) hend_ (i := 2) rfl 0 _ rfl)⟩, rfl, trivial⟩ ?_
           exact ⟨rfl, h⟩
          ·
           exfalso
           have hnx2 := hnx
           omega
       ·
        refine wc_skip ?_
        refine qn_then ?_
        refine wc_seq ?_
        refine wc_region ?_
        refine wl_v rfl rfl (ov_assign _ rfl) ?_
        refine wl_nil ?_
        refine qn_then ?_
        refine wc_seq ?_
        refine wc_seq ?_
        refine wc_region ?_
        refine wl_v rfl rfl (ov_move _ rfl) ?_
        refine wl_v rfl rfl (ov_bin _ rfl rfl (binR_gtr)) ?_
        refine wl_nil ?_
        refine qn_then ?_
        refine wc_cond (by rfl) (fun c56 => ?_) (fun c56 => ?_)
        ·
         refine wc_seq ?_
         refine wc_region ?_
         refine wl_v rfl rfl (ov_move _ rfl) ?_
         refine wl_lit (d := (Kd.int .i64)) [(0, .int .i64 (((a - ((spanI x ((findI x a).1)).1)) + ((spanI x ((findI x (b - 1)).1)).2.1)) - b))] _ [.int .i64 (((a - ((spanI x ((findI x a).1)).1)) + ((spanI x ((findI x (b - 1)).1)).2.1)) - b)] ([((a - ((spanI x ((findI x a).1)).1)) + ((spanI x ((findI x (b - 1)).1)).2.1)) - b]) h rfl rfl rfl rfl Try.underlying23 infb3 rfl (by decide) (by kernel_rfl) rfl (fun _ _ _ => ((Reps.none _ _).snoc ((Sx.mkInt .i64 (((a - ((spanI x ((findI x a).1)).1)) + ((spanI x ((findI x (b - 1)).1)).2.1)) - b))) rfl)) (fun A57 cp58 _ h => ?_)
         refine wl_v rfl rfl (ov_assign _ rfl) ?_
         refine wl_nil ?_
         refine qn_then ?_
         refine wc_region ?_
         refine wl_v rfl rfl (ov_fieldAddr _ ⟨b39, 2, none⟩ _ rfl fo41_2 rfl) ?_
         refine wl_storeb 1 _ [.int .i64 ((findI x a).1), .int .i64 ((((findI x (b - 1)).1) - ((findI x a).1)) + 1), .int .i64 (1)] h rfl rfl rfl rfl rfl rfl sh3 rfl rfl (fun _ h => ?_)
         refine wl_nil ?_
         refine qn_then ?_
         refine wc_seq ?_
         refine wc_block ?_
         refine wc_seq ?_
         refine wc_draw (fun w => Sx.St w0 F0 ([Sx.row (Kd.int .i64) 3 (A57) (cp58) ([((a - ((spanI x ((findI x a).1)).1)) + ((spanI x ((findI x (b - 1)).1)).2.1)) - b]), Sx.blk b39 [.int .i64 ((findI x a).1), .int .i64 ((((findI x (b - 1)).1) - ((findI x a).1)) + 1), .int .i64 (1)] 41, Sx.blk g [.slice (A5) (((x).lens).length) (c6), .int .i64 ((x).size), .bool ((x).open_)] 60, Sx.row (Kd.int .i64) 3 (A5) (c6) ((x).lens), Sx.blk b1 [.int .i64 (0), .int .i64 (0), .int .i64 (0)] 41] ++ R) w) (by kernel_rfl) ?_
         replace h := st_drew h
         refine wa_take 0 rfl (by kernel_rfl) (by kernel_rfl) (by kernel_rfl) (fun _ _ _ h => h) rfl rfl (st_selT [true, true, true, true, true] h) (fun w_ hS => ov_fieldAddr _ ⟨b39, 0, none⟩ _ rfl fo41_0 rfl) ?_
         refine wa_take 1 rfl (by kernel_rfl) (by kernel_rfl) (by kernel_rfl) (fun _ _ _ h => h) rfl rfl (st_selT [true, true, true, true, true] h) (fun w_ hS => ov_loadb 1 _ hS rfl rfl sh3 rfl) ?_
         refine wa_take 2 rfl (by kernel_rfl) (by kernel_rfl) (by kernel_rfl) (fun _ _ _ h => h) rfl rfl (st_selT [true, true, true, true, true] h) (fun w_ hS => ov_fieldAddr _ ⟨b39, 1, none⟩ _ rfl fo41_1 rfl) ?_
         refine wa_take 3 rfl (by kernel_rfl) (by kernel_rfl) (by kernel_rfl) (fun _ _ _ h => h) rfl rfl (st_selT [true, true, true, true, true] h) (fun w_ hS => ov_loadb 1 _ hS rfl rfl sh3 rfl) ?_
         refine wa_take 4 rfl (by kernel_rfl) (by kernel_rfl) (by kernel_rfl) (fun _ _ _ h => h) rfl rfl (st_selT [true, true, true, true, true] h) (fun w_ hS => ov_bin _ rfl rfl (binR_add (r := ((findI x a).1) + ((((findI x (b - 1)).1) - ((findI x a).1)) + 1)) (Sx.w64 (by omega)))) ?_
         refine wa_take 5 rfl (by kernel_rfl) (by kernel_rfl) (by kernel_rfl) (fun _ _ _ h => h) rfl rfl (st_selT [true, true, true, true, true] h) (fun w_ hS => ov_move _ rfl) ?_
         refine wa_take 6 rfl (by kernel_rfl) (by kernel_rfl) (by kernel_rfl) (fun _ _ _ h => h) rfl rfl (st_selT [true, true, true, true, true] h) (fun w_ hS => ov_nilCheck _ rfl) ?_
         refine wa_take 7 rfl (by kernel_rfl) (by kernel_rfl) (by kernel_rfl) (fun _ _ _ h => h) rfl rfl (st_selT [true, true, true, true, true] h) (fun w_ hS => ov_fieldAddr _ ⟨g, 0, none⟩ _ rfl fo60_0 rfl) ?_
         refine wa_take 8 rfl (by kernel_rfl) (by kernel_rfl) (by kernel_rfl) (fun _ _ _ h => h) rfl rfl (st_selT [true, true, true, true, true] h) (fun w_ hS => ov_loadb 2 _ hS rfl rfl sh23 rfl) ?_
         refine wa_take 9 rfl (by kernel_rfl) (by kernel_rfl) (by kernel_rfl) (fun _ _ _ h => h) rfl rfl (st_selT [true, true, true, true, true] h) (fun w_ hS => ov_len _ _ _ _ _ rfl es23) ?_
         refine wa_take 10 rfl (by kernel_rfl) (by kernel_rfl) (by kernel_rfl) (fun _ _ _ h => h) rfl rfl (st_selT [true, true, true, true, true] h) (fun w_ hS => ov_bin _ rfl rfl (binR_lss)) ?_
         refine wa_take 11 rfl (by kernel_rfl) (by kernel_rfl) (by kernel_rfl) (fun _ _ _ h => h) rfl rfl (st_selT [true, true, true, true, true] h) (fun w_ hS => ov_assign _ rfl) ?_
         refine wa_done (by kernel_rfl) ?_
         refine qn_then ?_
         refine wc_cond (by rfl) (fun c59 => ?_) (fun c59 => ?_)
         ·
          have hnv := hnx (by omega)
          refine wc_skip ?_
          refine qn_block_normal ?_
          refine qn_then ?_
          refine wc_seq ?_
          refine wc_region ?_
          refine wl_v rfl rfl (ov_move _ rfl) ?_
          refine wl_v rfl rfl (ov_nilCheck _ rfl) ?_
          refine wl_v rfl rfl (ov_fieldAddr _ ⟨g, 1, none⟩ _ rfl fo60_1 rfl) ?_
          refine wl_v rfl rfl (ov_loadb 2 _ h rfl rfl sh3 rfl) ?_
          refine wl_v rfl rfl (ov_move _ rfl) ?_
          refine wl_v rfl rfl (ov_move _ rfl) ?_
          refine wl_v rfl rfl (ov_bin _ rfl rfl (binR_sub (r := b - a) (Sx.w64 (by omega)))) ?_
          refine wl_v rfl rfl (ov_bin _ rfl rfl (binR_sub (r := ((x).size) - (b - a)) (Sx.w64 (by omega)))) ?_
          refine wl_v rfl rfl (ov_nilCheck _ rfl) ?_
          refine wl_v rfl rfl (ov_fieldAddr _ ⟨g, 1, none⟩ _ rfl fo60_1 rfl) ?_
          refine wl_storeb 2 _ [.slice (A5) (((x).lens).length) (c6), .int .i64 (((x).size) - (b - a)), .bool ((x).open_)] h rfl rfl rfl rfl rfl rfl sh3 rfl rfl (fun _ h => ?_)
          refine wl_nil ?_
          refine qn_then ?_
          refine wc_seq ?_
          refine wc_region ?_
          refine wl_v rfl rfl (ov_move _ rfl) ?_
          refine wl_v rfl rfl (ov_loadbN 1 [.int .i64 ((findI x a).1), .int .i64 ((((findI x (b - 1)).1) - ((findI x a).1)) + 1), .int .i64 (1)] h rfl rfl sh41 rfl) ?_
          refine wl_v rfl rfl (ov_move _ rfl) ?_
          replace h := st_front 3 h
          replace h := st_front 3 h
          replace h := ixB_close ((x).lens) (((x).size) - (b - a)) (((x).open_)) (by first | rfl | simp) h
          refine wl_call _ rfl rfl rfl ent35 (change_calls2 (R := [Sx.row (Kd.int .i64) 3 (A57) (cp58) ([((a - ((spanI x ((findI x a).1)).1)) + ((spanI x ((findI x (b - 1)).1)).2.1)) - b]), Sx.blk b39 [.int .i64 ((findI x a).1), .int .i64 ((((findI x (b - 1)).1) - ((findI x a).1)) + 1), .int .i64 (1)] 41, Sx.blk b1 [.int .i64 (0), .int .i64 (0), .int .i64 (0)] 41] ++ R) g ((⟨(x).lens, ((x).size) - (b - a), ((x).open_)⟩ : IX)) ((findI x a).1) ((((findI x (b - 1)).1) - ((findI x a).1)) + 1) 1 ([((a - ((spanI x ((findI x a).1)).1)) + ((spanI x ((findI x (b - 1)).1)).2.1)) - b]) (A57) (cp58) (([((a - ((spanI x ((findI x a).1)).1)) + ((spanI x ((findI x (b - 1)).1)).2.1)) - b] : List _).length) (by first | with_reducible rfl | simp only [List.length_set, List.length_append] | rfl) (by first | omega | simp; omega) (by first | omega | simp; omega) (by first | omega | simp; omega) (by first | omega | simp; omega) (Sx.row_reads_at (R := [Sx.row (Kd.int .i64) 3 (A57) (cp58) ([((a - ((spanI x ((findI x a).1)).1)) + ((spanI x ((findI x (b - 1)).1)).2.1)) - b]), Sx.blk b39 [.int .i64 ((findI x a).1), .int .i64 ((((findI x (b - 1)).1) - ((findI x a).1)) + 1), .int .i64 (1)] 41, Sx.blk b1 [.int .i64 (0), .int .i64 (0), .int .i64 (0)] 41] ++ R) (j := 0) rfl) h) ?_
          rintro e_ w_ ⟨rfl, h⟩
          refine ⟨_, rfl, ?_⟩
          refine wl_nil ?_
          refine qn_then ?_
          refine wc_seq ?_
          refine wc_region ?_
          refine wl_v rfl rfl (ov_loadbN 2 [.int .i64 ((findI x a).1), .int .i64 ((((findI x (b - 1)).1) - ((findI x a).1)) + 1), .int .i64 (1)] h rfl rfl sh41 rfl) ?_
          refine wl_storebN 3 [.int .i64 ((findI x a).1), .int .i64 ((((findI x (b - 1)).1) - ((findI x a).1)) + 1), .int .i64 (1)] [.int .i64 ((findI x a).1), .int .i64 ((((findI x (b - 1)).1) - ((findI x a).1)) + 1), .int .i64 (1)] h rfl rfl rfl rfl (by simp [Value.oneCell']) sh41 rfl rfl (fun _ h => ?_)
          refine wl_v rfl rfl (ov_assign _ rfl) ?_
          refine wl_nil ?_
          refine qn_then ?_
          refine wc_ret ?_
          have hend_ := h
          have e1_ : oldD x a b = (((findI x (b - 1)).1) - ((findI x a).1)) + 1 := by omega
          have e3_ : newD x a b = [((a - ((spanI x ((findI x a).1)).1)) + ((spanI x ((findI x (b - 1)).1)).2.1)) - b] := by unfold newD; rw [show restD x a b = ((a - ((spanI x ((findI x a).1)).1)) + ((spanI x ((findI x (b - 1)).1)).2.1)) - b by omega, if_pos (by omega)]
          have e4_ : openD x a b = (((x).open_)) := by first | exact hO.1 (by omega) | exact hO.2.1 (by omega) (by omega) | exact hO.2.2.1 (by omega) (by omega) (by omega) | exact hO.2.2.2 (by omega) (by omega) (by omega)
          rw [del_fin (by assumption) c3 hfa.1 e1_ e3_ e4_ rfl]
          replace h := st_selT [true, false, false, false] h
          refine qn_ret [_, _] ⟨⟨_, rfl, Sx.loadVarN (vs := [.int .i64 ((findI x a).1), .int .i64 ((((findI x (b - 1)).1) - ((findI x a).1)) + 1), .int .i64 (1)]) sh41 (Sx.blk_cells (cells := [.int .i64 ((findI x a).1), .int .i64 ((((findI x (b - 1)).1) - ((findI x a).1)) + 1), .int .i64 (1)]) hend_ (i := 3) rfl 0 _ rfl)⟩, rfl, trivial⟩ ?_
          exact ⟨rfl, h⟩
         ·
          refine wc_seq ?_
          refine wc_region ?_
          refine wl_v rfl rfl (ov_move _ rfl) ?_
          refine wl_v rfl rfl (ov_bin _ rfl rfl (binR_eql)) ?_
          refine wl_v rfl rfl (ov_assign _ rfl) ?_
          refine wl_nil ?_
          refine qn_then ?_
          refine wc_cond (by rfl) (fun c60 => ?_) (fun c60 => ?_)
          ·
           exfalso
           have hnx2 := hnx
           omega
          ·
           refine wc_seq ?_
           refine wc_region ?_
           refine wl_v rfl rfl (ov_move _ rfl) ?_
           refine wl_v rfl rfl (ov_move _ rfl) ?_
           refine wl_splitb 150 rfl (fun c61 => ?_) (fun c61 => ?_)
           ·
            have hon := opN_0 (x := x) (by simpa using c61)
            refine wl_v rfl rfl (ov_move _ rfl) ?_
            refine wl_v rfl rfl (ov_bin _ rfl rfl (binR_add (r := ((findI x (b - 1)).1) + 1) (Sx.w64 (by omega)))) ?_
            refine wl_v rfl rfl (ov_move _ rfl) ?_
            refine wl_v rfl rfl (ov_nilCheck _ rfl) ?_
            refine wl_v rfl rfl (ov_fieldAddr _ ⟨g, 0, none⟩ _ rfl fo60_0 rfl) ?_
            refine wl_v rfl rfl (ov_loadb 2 _ h rfl rfl sh23 rfl) ?_
            refine wl_v rfl rfl (ov_len _ _ _ _ _ rfl es23) ?_
            refine wl_v rfl rfl (ov_bin _ rfl rfl (binR_geq)) ?_
            refine wl_v rfl rfl (ov_pick_true _ rfl rfl) ?_
            refine wl_v rfl rfl (ov_assign _ rfl) ?_
            refine wl_nil ?_
            refine qn_then ?_
            refine wc_cond (by rfl) (fun c62 => ?_) (fun c62 => ?_)
            ·
             refine wc_region ?_
             refine wl_v rfl rfl (ov_move _ rfl) ?_
             refine wl_v rfl rfl (ov_nilCheck _ rfl) ?_
             refine wl_v rfl rfl (ov_fieldAddr _ ⟨g, 2, none⟩ _ rfl fo60_2 rfl) ?_
             refine wl_storeb 2 _ [.slice (A5) (((x).lens).length) (c6), .int .i64 ((x).size), .bool true] h rfl rfl rfl rfl rfl rfl sh4 rfl rfl (fun _ h => ?_)
             refine wl_nil ?_
             refine qn_block_normal ?_
             refine qn_then ?_
             refine wc_seq ?_
             refine wc_region ?_
             refine wl_v rfl rfl (ov_move _ rfl) ?_
             refine wl_v rfl rfl (ov_nilCheck _ rfl) ?_
             refine wl_v rfl rfl (ov_fieldAddr _ ⟨g, 1, none⟩ _ rfl fo60_1 rfl) ?_
             refine wl_v rfl rfl (ov_loadb 2 _ h rfl rfl sh3 rfl) ?_
             refine wl_v rfl rfl (ov_move _ rfl) ?_
             refine wl_v rfl rfl (ov_move _ rfl) ?_
             refine wl_v rfl rfl (ov_bin _ rfl rfl (binR_sub (r := b - a) (Sx.w64 (by omega)))) ?_
             refine wl_v rfl rfl (ov_bin _ rfl rfl (binR_sub (r := ((x).size) - (b - a)) (Sx.w64 (by omega)))) ?_
             refine wl_v rfl rfl (ov_nilCheck _ rfl) ?_
             refine wl_v rfl rfl (ov_fieldAddr _ ⟨g, 1, none⟩ _ rfl fo60_1 rfl) ?_
             refine wl_storeb 2 _ [.slice (A5) (((x).lens).length) (c6), .int .i64 (((x).size) - (b - a)), .bool true] h rfl rfl rfl rfl rfl rfl sh3 rfl rfl (fun _ h => ?_)
             refine wl_nil ?_
             refine qn_then ?_
             refine wc_seq ?_
             refine wc_region ?_
             refine wl_v rfl rfl (ov_move _ rfl) ?_
             refine wl_v rfl rfl (ov_loadbN 1 [.int .i64 ((findI x a).1), .int .i64 ((((findI x (b - 1)).1) - ((findI x a).1)) + 1), .int .i64 (1)] h rfl rfl sh41 rfl) ?_
             refine wl_v rfl rfl (ov_move _ rfl) ?_
             replace h := st_front 3 h
             replace h := st_front 3 h
             replace h := ixB_close ((x).lens) (((x).size) - (b - a)) (true) (by first | rfl | simp) h
             refine wl_call _ rfl rfl rfl ent35 (change_calls2 (R := [Sx.row (Kd.int .i64) 3 (A57) (cp58) ([((a - ((spanI x ((findI x a).1)).1)) + ((spanI x ((findI x (b - 1)).1)).2.1)) - b]), Sx.blk b39 [.int .i64 ((findI x a).1), .int .i64 ((((findI x (b - 1)).1) - ((findI x a).1)) + 1), .int .i64 (1)] 41, Sx.blk b1 [.int .i64 (0), .int .i64 (0), .int .i64 (0)] 41] ++ R) g ((⟨(x).lens, ((x).size) - (b - a), true⟩ : IX)) ((findI x a).1) ((((findI x (b - 1)).1) - ((findI x a).1)) + 1) 1 ([((a - ((spanI x ((findI x a).1)).1)) + ((spanI x ((findI x (b - 1)).1)).2.1)) - b]) (A57) (cp58) (([((a - ((spanI x ((findI x a).1)).1)) + ((spanI x ((findI x (b - 1)).1)).2.1)) - b] : List _).length) (by first | with_reducible rfl | simp only [List.length_set, List.length_append] | rfl) (by first | omega | simp; omega) (by first | omega | simp; omega) (by first | omega | simp; omega) (by first | omega | simp; omega) (Sx.row_reads_at (R := [Sx.row (Kd.int .i64) 3 (A57) (cp58) ([((a - ((spanI x ((findI x a).1)).1)) + ((spanI x ((findI x (b - 1)).1)).2.1)) - b]), Sx.blk b39 [.int .i64 ((findI x a).1), .int .i64 ((((findI x (b - 1)).1) - ((findI x a).1)) + 1), .int .i64 (1)] 41, Sx.blk b1 [.int .i64 (0), .int .i64 (0), .int .i64 (0)] 41] ++ R) (j := 0) rfl) h) ?_
             rintro e_ w_ ⟨rfl, h⟩
             refine ⟨_, rfl, ?_⟩
             refine wl_nil ?_
             refine qn_then ?_
             refine wc_seq ?_
             refine wc_region ?_
             refine wl_v rfl rfl (ov_loadbN 2 [.int .i64 ((findI x a).1), .int .i64 ((((findI x (b - 1)).1) - ((findI x a).1)) + 1), .int .i64 (1)] h rfl rfl sh41 rfl) ?_
             refine wl_storebN 3 [.int .i64 ((findI x a).1), .int .i64 ((((findI x (b - 1)).1) - ((findI x a).1)) + 1), .int .i64 (1)] [.int .i64 ((findI x a).1), .int .i64 ((((findI x (b - 1)).1) - ((findI x a).1)) + 1), .int .i64 (1)] h rfl rfl rfl rfl (by simp [Value.oneCell']) sh41 rfl rfl (fun _ h => ?_)
             refine wl_v rfl rfl (ov_assign _ rfl) ?_
             refine wl_nil ?_
             refine qn_then ?_
             refine wc_ret ?_
             have hend_ := h
             have e1_ : oldD x a b = (((findI x (b - 1)).1) - ((findI x a).1)) + 1 := by omega
             have e3_ : newD x a b = [((a - ((spanI x ((findI x a).1)).1)) + ((spanI x ((findI x (b - 1)).1)).2.1)) - b] := by unfold newD; rw [show restD x a b = ((a - ((spanI x ((findI x a).1)).1)) + ((spanI x ((findI x (b - 1)).1)).2.1)) - b by omega, if_pos (by omega)]
             have e4_ : openD x a b = (true) := by first | exact hO.1 (by omega) | exact hO.2.1 (by omega) (by omega) | exact hO.2.2.1 (by omega) (by omega) (by omega) | exact hO.2.2.2 (by omega) (by omega) (by omega)
             rw [del_fin (by assumption) c3 hfa.1 e1_ e3_ e4_ rfl]
             replace h := st_selT [true, false, false, false] h
             refine qn_ret [_, _] ⟨⟨_, rfl, Sx.loadVarN (vs := [.int .i64 ((findI x a).1), .int .i64 ((((findI x (b - 1)).1) - ((findI x a).1)) + 1), .int .i64 (1)]) sh41 (Sx.blk_cells (cells := [.int .i64 ((findI x a).1), .int .i64 ((((findI x (b - 1)).1) - ((findI x a).1)) + 1), .int .i64 (1)]) hend_ (i := 3) rfl 0 _ rfl)⟩, rfl, trivial⟩ ?_
             exact ⟨rfl, h⟩
            ·
             refine wc_skip ?_
             refine qn_block_normal ?_
             refine qn_then ?_
             refine wc_seq ?_
             refine wc_region ?_
             refine wl_v rfl rfl (ov_move _ rfl) ?_
             refine wl_v rfl rfl (ov_nilCheck _ rfl) ?_
             refine wl_v rfl rfl (ov_fieldAddr _ ⟨g, 1, none⟩ _ rfl fo60_1 rfl) ?_
             refine wl_v rfl rfl (ov_loadb 2 _ h rfl rfl sh3 rfl) ?_
             refine wl_v rfl rfl (ov_move _ rfl) ?_
             refine wl_v rfl rfl (ov_move _ rfl) ?_
             refine wl_v rfl rfl (ov_bin _ rfl rfl (binR_sub (r := b - a) (Sx.w64 (by omega)))) ?_
             refine wl_v rfl rfl (ov_bin _ rfl rfl (binR_sub (r := ((x).size) - (b - a)) (Sx.w64 (by omega)))) ?_
             refine wl_v rfl rfl (ov_nilCheck _ rfl) ?_
             refine wl_v rfl rfl (ov_fieldAddr _ ⟨g, 1, none⟩ _ rfl fo60_1 rfl) ?_
             refine wl_storeb 2 _ [.slice (A5) (((x).lens).length) (c6), .int .i64 (((x).size) - (b - a)), .bool ((x).open_)] h rfl rfl rfl rfl rfl rfl sh3 rfl rfl (fun _ h => ?_)
             refine wl_nil ?_
             refine qn_then ?_
             refine wc_seq ?_
             refine wc_region ?_
             refine wl_v rfl rfl (ov_move _ rfl) ?_
             refine wl_v rfl rfl (ov_loadbN 1 [.int .i64 ((findI x a).1), .int .i64 ((((findI x (b - 1)).1) - ((findI x a).1)) + 1), .int .i64 (1)] h rfl rfl sh41 rfl) ?_
             refine wl_v rfl rfl (ov_move _ rfl) ?_
             replace h := st_front 3 h
             replace h := st_front 3 h
             replace h := ixB_close ((x).lens) (((x).size) - (b - a)) (((x).open_)) (by first | rfl | simp) h
             refine wl_call _ rfl rfl rfl ent35 (change_calls2 (R := [Sx.row (Kd.int .i64) 3 (A57) (cp58) ([((a - ((spanI x ((findI x a).1)).1)) + ((spanI x ((findI x (b - 1)).1)).2.1)) - b]), Sx.blk b39 [.int .i64 ((findI x a).1), .int .i64 ((((findI x (b - 1)).1) - ((findI x a).1)) + 1), .int .i64 (1)] 41, Sx.blk b1 [.int .i64 (0), .int .i64 (0), .int .i64 (0)] 41] ++ R) g ((⟨(x).lens, ((x).size) - (b - a), ((x).open_)⟩ : IX)) ((findI x a).1) ((((findI x (b - 1)).1) - ((findI x a).1)) + 1) 1 ([((a - ((spanI x ((findI x a).1)).1)) + ((spanI x ((findI x (b - 1)).1)).2.1)) - b]) (A57) (cp58) (([((a - ((spanI x ((findI x a).1)).1)) + ((spanI x ((findI x (b - 1)).1)).2.1)) - b] : List _).length) (by first | with_reducible rfl | simp only [List.length_set, List.length_append] | rfl) (by first | omega | simp; omega) (by first | omega | simp; omega) (by first | omega | simp; omega) (by first | omega | simp; omega) (Sx.row_reads_at (R := [Sx.row (Kd.int .i64) 3 (A57) (cp58) ([((a - ((spanI x ((findI x a).1)).1)) + ((spanI x ((findI x (b - 1)).1)).2.1)) - b]), Sx.blk b39 [.int .i64 ((findI x a).1), .int .i64 ((((findI x (b - 1)).1) - ((findI x a).1)) + 1), .int .i64 (1)] 41, Sx.blk b1 [.int .i64 (0), .int .i64 (0), .int .i64 (0)] 41] ++ R) (j := 0) rfl) h) ?_
             rintro e_ w_ ⟨rfl, h⟩
             refine ⟨_, rfl, ?_⟩
             refine wl_nil ?_
             refine qn_then ?_
             refine wc_seq ?_
             refine wc_region ?_
             refine wl_v rfl rfl (ov_loadbN 2 [.int .i64 ((findI x a).1), .int .i64 ((((findI x (b - 1)).1) - ((findI x a).1)) + 1), .int .i64 (1)] h rfl rfl sh41 rfl) ?_
             refine wl_storebN 3 [.int .i64 ((findI x a).1), .int .i64 ((((findI x (b - 1)).1) - ((findI x a).1)) + 1), .int .i64 (1)] [.int .i64 ((findI x a).1), .int .i64 ((((findI x (b - 1)).1) - ((findI x a).1)) + 1), .int .i64 (1)] h rfl rfl rfl rfl (by simp [Value.oneCell']) sh41 rfl rfl (fun _ h => ?_)
             refine wl_v rfl rfl (ov_assign _ rfl) ?_
             refine wl_nil ?_
             refine qn_then ?_
             refine wc_ret ?_
             have hend_ := h
             have e1_ : oldD x a b = (((findI x (b - 1)).1) - ((findI x a).1)) + 1 := by omega
             have e3_ : newD x a b = [((a - ((spanI x ((findI x a).1)).1)) + ((spanI x ((findI x (b - 1)).1)).2.1)) - b] := by unfold newD; rw [show restD x a b = ((a - ((spanI x ((findI x a).1)).1)) + ((spanI x ((findI x (b - 1)).1)).2.1)) - b by omega, if_pos (by omega)]
             have e4_ : openD x a b = (((x).open_)) := by first | exact hO.1 (by omega) | exact hO.2.1 (by omega) (by omega) | exact hO.2.2.1 (by omega) (by omega) (by omega) | exact hO.2.2.2 (by omega) (by omega) (by omega)
             rw [del_fin (by assumption) c3 hfa.1 e1_ e3_ e4_ rfl]
             replace h := st_selT [true, false, false, false] h
             refine qn_ret [_, _] ⟨⟨_, rfl, Sx.loadVarN (vs := [.int .i64 ((findI x a).1), .int .i64 ((((findI x (b - 1)).1) - ((findI x a).1)) + 1), .int .i64 (1)]) sh41 (Sx.blk_cells (cells := [.int .i64 ((findI x a).1), .int .i64 ((((findI x (b - 1)).1) - ((findI x a).1)) + 1), .int .i64 (1)]) hend_ (i := 3) rfl 0 _ rfl)⟩, rfl, trivial⟩ ?_
             exact ⟨rfl, h⟩
           ·
            exact absurd (c40.symm.trans c61) (by decide)
        ·
         refine wc_skip ?_
         refine qn_then ?_
         refine wc_seq ?_
         refine wc_block ?_
         refine wc_seq ?_
         refine wc_draw (fun w => Sx.St w0 F0 ([Sx.blk b39 [.int .i64 ((findI x a).1), .int .i64 ((((findI x (b - 1)).1) - ((findI x a).1)) + 1), .int .i64 (0)] 41, Sx.blk g [.slice (A5) (((x).lens).length) (c6), .int .i64 ((x).size), .bool ((x).open_)] 60, Sx.row (Kd.int .i64) 3 (A5) (c6) ((x).lens), Sx.blk b1 [.int .i64 (0), .int .i64 (0), .int .i64 (0)] 41] ++ R) w) (by kernel_rfl) ?_
         replace h := st_drew h
         refine wa_take 0 rfl (by kernel_rfl) (by kernel_rfl) (by kernel_rfl) (fun _ _ _ h => h) rfl rfl (st_selT [true, true, true, true] h) (fun w_ hS => ov_fieldAddr _ ⟨b39, 0, none⟩ _ rfl fo41_0 rfl) ?_
         refine wa_take 1 rfl (by kernel_rfl) (by kernel_rfl) (by kernel_rfl) (fun _ _ _ h => h) rfl rfl (st_selT [true, true, true, true] h) (fun w_ hS => ov_loadb 0 _ hS rfl rfl sh3 rfl) ?_
         refine wa_take 2 rfl (by kernel_rfl) (by kernel_rfl) (by kernel_rfl) (fun _ _ _ h => h) rfl rfl (st_selT [true, true, true, true] h) (fun w_ hS => ov_fieldAddr _ ⟨b39, 1, none⟩ _ rfl fo41_1 rfl) ?_
         refine wa_take 3 rfl (by kernel_rfl) (by kernel_rfl) (by kernel_rfl) (fun _ _ _ h => h) rfl rfl (st_selT [true, true, true, true] h) (fun w_ hS => ov_loadb 0 _ hS rfl rfl sh3 rfl) ?_
         refine wa_take 4 rfl (by kernel_rfl) (by kernel_rfl) (by kernel_rfl) (fun _ _ _ h => h) rfl rfl (st_selT [true, true, true, true] h) (fun w_ hS => ov_bin _ rfl rfl (binR_add (r := ((findI x a).1) + ((((findI x (b - 1)).1) - ((findI x a).1)) + 1)) (Sx.w64 (by omega)))) ?_
         refine wa_take 5 rfl (by kernel_rfl) (by kernel_rfl) (by kernel_rfl) (fun _ _ _ h => h) rfl rfl (st_selT [true, true, true, true] h) (fun w_ hS => ov_move _ rfl) ?_
         refine wa_take 6 rfl (by kernel_rfl) (by kernel_rfl) (by kernel_rfl) (fun _ _ _ h => h) rfl rfl (st_selT [true, true, true, true] h) (fun w_ hS => ov_nilCheck _ rfl) ?_
         refine wa_take 7 rfl (by kernel_rfl) (by kernel_rfl) (by kernel_rfl) (fun _ _ _ h => h) rfl rfl (st_selT [true, true, true, true] h) (fun w_ hS => ov_fieldAddr _ ⟨g, 0, none⟩ _ rfl fo60_0 rfl) ?_
         refine wa_take 8 rfl (by kernel_rfl) (by kernel_rfl) (by kernel_rfl) (fun _ _ _ h => h) rfl rfl (st_selT [true, true, true, true] h) (fun w_ hS => ov_loadb 1 _ hS rfl rfl sh23 rfl) ?_
         refine wa_take 9 rfl (by kernel_rfl) (by kernel_rfl) (by kernel_rfl) (fun _ _ _ h => h) rfl rfl (st_selT [true, true, true, true] h) (fun w_ hS => ov_len _ _ _ _ _ rfl es23) ?_
         refine wa_take 10 rfl (by kernel_rfl) (by kernel_rfl) (by kernel_rfl) (fun _ _ _ h => h) rfl rfl (st_selT [true, true, true, true] h) (fun w_ hS => ov_bin _ rfl rfl (binR_lss)) ?_
         refine wa_take 11 rfl (by kernel_rfl) (by kernel_rfl) (by kernel_rfl) (fun _ _ _ h => h) rfl rfl (st_selT [true, true, true, true] h) (fun w_ hS => ov_assign _ rfl) ?_
         refine wa_done (by kernel_rfl) ?_
         refine qn_then ?_
         refine wc_cond (by rfl) (fun c63 => ?_) (fun c63 => ?_)
         ·
          have hnv := hnx (by omega)
          refine wc_skip ?_
          refine qn_block_normal ?_
          refine qn_then ?_
          refine wc_seq ?_
          refine wc_region ?_
          refine wl_v rfl rfl (ov_move _ rfl) ?_
          refine wl_v rfl rfl (ov_nilCheck _ rfl) ?_
          refine wl_v rfl rfl (ov_fieldAddr _ ⟨g, 1, none⟩ _ rfl fo60_1 rfl) ?_
          refine wl_v rfl rfl (ov_loadb 1 _ h rfl rfl sh3 rfl) ?_
          refine wl_v rfl rfl (ov_move _ rfl) ?_
          refine wl_v rfl rfl (ov_move _ rfl) ?_
          refine wl_v rfl rfl (ov_bin _ rfl rfl (binR_sub (r := b - a) (Sx.w64 (by omega)))) ?_
          refine wl_v rfl rfl (ov_bin _ rfl rfl (binR_sub (r := ((x).size) - (b - a)) (Sx.w64 (by omega)))) ?_
          refine wl_v rfl rfl (ov_nilCheck _ rfl) ?_
          refine wl_v rfl rfl (ov_fieldAddr _ ⟨g, 1, none⟩ _ rfl fo60_1 rfl) ?_
          refine wl_storeb 1 _ [.slice (A5) (((x).lens).length) (c6), .int .i64 (((x).size) - (b - a)), .bool ((x).open_)] h rfl rfl rfl rfl rfl rfl sh3 rfl rfl (fun _ h => ?_)
          refine wl_nil ?_
          refine qn_then ?_
          refine wc_seq ?_
          refine wc_region ?_
          refine wl_v rfl rfl (ov_move _ rfl) ?_
          refine wl_v rfl rfl (ov_loadbN 0 [.int .i64 ((findI x a).1), .int .i64 ((((findI x (b - 1)).1) - ((findI x a).1)) + 1), .int .i64 (0)] h rfl rfl sh41 rfl) ?_
          refine wl_v rfl rfl (ov_move _ rfl) ?_
          replace h := st_front 2 h
          replace h := st_front 2 h
          replace h := ixB_close ((x).lens) (((x).size) - (b - a)) (((x).open_)) (by first | rfl | simp) h
          refine wl_call _ rfl rfl rfl ent35 (change_calls2 (R := [Sx.blk b39 [.int .i64 ((findI x a).1), .int .i64 ((((findI x (b - 1)).1) - ((findI x a).1)) + 1), .int .i64 (0)] 41, Sx.blk b1 [.int .i64 (0), .int .i64 (0), .int .i64 (0)] 41] ++ R) g ((⟨(x).lens, ((x).size) - (b - a), ((x).open_)⟩ : IX)) ((findI x a).1) ((((findI x (b - 1)).1) - ((findI x a).1)) + 1) 0 ([]) (none) (0) (0) (by first | with_reducible rfl | simp only [List.length_set, List.length_append] | rfl) (by first | omega | simp; omega) (by first | omega | simp; omega) (by first | omega | simp; omega) (by first | omega | simp; omega) (fun _ _ _ => Kd.C_nil _ _) h) ?_
          rintro e_ w_ ⟨rfl, h⟩
          refine ⟨_, rfl, ?_⟩
          refine wl_nil ?_
          refine qn_then ?_
          refine wc_seq ?_
          refine wc_region ?_
          refine wl_v rfl rfl (ov_loadbN 1 [.int .i64 ((findI x a).1), .int .i64 ((((findI x (b - 1)).1) - ((findI x a).1)) + 1), .int .i64 (0)] h rfl rfl sh41 rfl) ?_
          refine wl_storebN 2 [.int .i64 ((findI x a).1), .int .i64 ((((findI x (b - 1)).1) - ((findI x a).1)) + 1), .int .i64 (0)] [.int .i64 ((findI x a).1), .int .i64 ((((findI x (b - 1)).1) - ((findI x a).1)) + 1), .int .i64 (0)] h rfl rfl rfl rfl (by simp [Value.oneCell']) sh41 rfl rfl (fun _ h => ?_)
          refine wl_v rfl rfl (ov_assign _ rfl) ?_
          refine wl_nil ?_
          refine qn_then ?_
          refine wc_ret ?_
          have hend_ := h
          have e1_ : oldD x a b = (((findI x (b - 1)).1) - ((findI x a).1)) + 1 := by omega
          have e3_ : newD x a b = [] := by unfold newD; rw [if_neg (by omega)]
          have e4_ : openD x a b = (((x).open_)) := by first | exact hO.1 (by omega) | exact hO.2.1 (by omega) (by omega) | exact hO.2.2.1 (by omega) (by omega) (by omega) | exact hO.2.2.2 (by omega) (by omega) (by omega)
          rw [del_fin (by assumption) c3 hfa.1 e1_ e3_ e4_ rfl]
          replace h := st_selT [true, false, false] h
          refine qn_ret [_, _] ⟨⟨_, rfl, Sx.loadVarN (vs := [.int .i64 ((findI x a).1), .int .i64 ((((findI x (b - 1)).1) - ((findI x a).1)) + 1), .int .i64 (0)]) sh41 (Sx.blk_cells (cells := [.int .i64 ((findI x a).1), .int .i64 ((((findI x (b - 1)).1) - ((findI x a).1)) + 1), .int .i64 (0)]) hend_ (i := 2) rfl 0 _ rfl)⟩, rfl, trivial⟩ ?_
          exact ⟨rfl, h⟩
         ·
          refine wc_seq ?_
          refine wc_region ?_
          refine wl_v rfl rfl (ov_move _ rfl) ?_
          refine wl_v rfl rfl (ov_bin _ rfl rfl (binR_eql)) ?_
          refine wl_v rfl rfl (ov_assign _ rfl) ?_
          refine wl_nil ?_
          refine qn_then ?_
          refine wc_cond (by rfl) (fun c64 => ?_) (fun c64 => ?_)
          ·
           refine wc_region ?_
           refine wl_v rfl rfl (ov_move _ rfl) ?_
           refine wl_v rfl rfl (ov_nilCheck _ rfl) ?_
           refine wl_v rfl rfl (ov_fieldAddr _ ⟨g, 2, none⟩ _ rfl fo60_2 rfl) ?_
           refine wl_storeb 1 _ [.slice (A5) (((x).lens).length) (c6), .int .i64 ((x).size), .bool false] h rfl rfl rfl rfl rfl rfl sh4 rfl rfl (fun _ h => ?_)
           refine wl_nil ?_
           refine qn_block_normal ?_
           refine qn_then ?_
           refine wc_seq ?_
           refine wc_region ?_
           refine wl_v rfl rfl (ov_move _ rfl) ?_
           refine wl_v rfl rfl (ov_nilCheck _ rfl) ?_
           refine wl_v rfl rfl (ov_fieldAddr _ ⟨g, 1, none⟩ _ rfl fo60_1 rfl) ?_
           refine wl_v rfl rfl (ov_loadb 1 _ h rfl rfl sh3 rfl) ?_
           refine wl_v rfl rfl (ov_move _ rfl) ?_
           refine wl_v rfl rfl (ov_move _ rfl) ?_
           refine wl_v rfl rfl (ov_bin _ rfl rfl (binR_sub (r := b - a) (Sx.w64 (by omega)))) ?_
           refine wl_v rfl rfl (ov_bin _ rfl rfl (binR_sub (r := ((x).size) - (b - a)) (Sx.w64 (by omega)))) ?_
           refine wl_v rfl rfl (ov_nilCheck _ rfl) ?_
           refine wl_v rfl rfl (ov_fieldAddr _ ⟨g, 1, none⟩ _ rfl fo60_1 rfl) ?_
           refine wl_storeb 1 _ [.slice (A5) (((x).lens).length) (c6), .int .i64 (((x).size) - (b - a)), .bool false] h rfl rfl rfl rfl rfl rfl sh3 rfl rfl (fun _ h => ?_)
           refine wl_nil ?_
           refine qn_then ?_
           refine wc_seq ?_
           refine wc_region ?_
           refine wl_v rfl rfl (ov_move _ rfl) ?_
           refine wl_v rfl rfl (ov_loadbN 0 [.int .i64 ((findI x a).1), .int .i64 ((((findI x (b - 1)).1) - ((findI x a).1)) + 1), .int .i64 (0)] h rfl rfl sh41 rfl) ?_
           refine wl_v rfl rfl (ov_move _ rfl) ?_
           replace h := st_front 2 h
           replace h := st_front 2 h
           replace h := ixB_close ((x).lens) (((x).size) - (b - a)) (false) (by first | rfl | simp) h
           refine wl_call _ rfl rfl rfl ent35 (change_calls2 (R := [Sx.blk b39 [.int .i64 ((findI x a).1), .int .i64 ((((findI x (b - 1)).1) - ((findI x a).1)) + 1), .int .i64 (0)] 41, Sx.blk b1 [.int .i64 (0), .int .i64 (0), .int .i64 (0)] 41] ++ R) g ((⟨(x).lens, ((x).size) - (b - a), false⟩ : IX)) ((findI x a).1) ((((findI x (b - 1)).1) - ((findI x a).1)) + 1) 0 ([]) (none) (0) (0) (by first | with_reducible rfl | simp only [List.length_set, List.length_append] | rfl) (by first | omega | simp; omega) (by first | omega | simp; omega) (by first | omega | simp; omega) (by first | omega | simp; omega) (fun _ _ _ => Kd.C_nil _ _) h) ?_
           rintro e_ w_ ⟨rfl, h⟩
           refine ⟨_, rfl, ?_⟩
           refine wl_nil ?_
           refine qn_then ?_
           refine wc_seq ?_
           refine wc_region ?_
           refine wl_v rfl rfl (ov_loadbN 1 [.int .i64 ((findI x a).1), .int .i64 ((((findI x (b - 1)).1) - ((findI x a).1)) + 1), .int .i64 (0)] h rfl rfl sh41 rfl) ?_
           refine wl_storebN 2 [.int .i64 ((findI x a).1), .int .i64 ((((findI x (b - 1)).1) - ((findI x a).1)) + 1), .int .i64 (0)] [.int .i64 ((findI x a).1), .int .i64 ((((findI x (b - 1)).1) - ((findI x a).1)) + 1), .int .i64 (0)] h rfl rfl rfl rfl (by simp [Value.oneCell']) sh41 rfl rfl (fun _ h => ?_)
           refine wl_v rfl rfl (ov_assign _ rfl) ?_
           refine wl_nil ?_
           refine qn_then ?_
           refine wc_ret ?_
           have hend_ := h
           have e1_ : oldD x a b = (((findI x (b - 1)).1) - ((findI x a).1)) + 1 := by omega
           have e3_ : newD x a b = [] := by unfold newD; rw [if_neg (by omega)]
           have e4_ : openD x a b = (false) := by first | exact hO.1 (by omega) | exact hO.2.1 (by omega) (by omega) | exact hO.2.2.1 (by omega) (by omega) (by omega) | exact hO.2.2.2 (by omega) (by omega) (by omega)
           rw [del_fin (by assumption) c3 hfa.1 e1_ e3_ e4_ rfl]
           replace h := st_selT [true, false, false] h
           refine qn_ret [_, _] ⟨⟨_, rfl, Sx.loadVarN (vs := [.int .i64 ((findI x a).1), .int .i64 ((((findI x (b - 1)).1) - ((findI x a).1)) + 1), .int .i64 (0)]) sh41 (Sx.blk_cells (cells := [.int .i64 ((findI x a).1), .int .i64 ((((findI x (b - 1)).1) - ((findI x a).1)) + 1), .int .i64 (0)]) hend_ (i := 2) rfl 0 _ rfl)⟩, rfl, trivial⟩ ?_
           exact ⟨rfl, h⟩
          ·
           exfalso
           have hnx2 := hnx
           omega
      ·
       refine wl_skip rfl rfl ?_
       refine wl_skip rfl rfl ?_
       refine wl_skip rfl rfl ?_
       refine wl_skip rfl rfl ?_
       refine wl_skip rfl rfl ?_
       refine wl_skip rfl rfl ?_
       refine wl_skip rfl rfl ?_
       refine wl_skip rfl rfl ?_
       refine wl_v rfl rfl (ov_pick_false _ rfl rfl) ?_
       refine wl_nil ?_
       refine qn_then ?_
       refine wc_cond_false rfl ?_
       refine wc_skip ?_
       refine qn_then ?_
       refine wc_seq ?_
       refine wc_region ?_
       refine wl_v rfl rfl (ov_assign _ rfl) ?_
       refine wl_nil ?_
       refine qn_then ?_
       refine wc_seq ?_
       refine wc_seq ?_
       refine wc_region ?_
       refine wl_v rfl rfl (ov_move _ rfl) ?_
       refine wl_v rfl rfl (ov_bin _ rfl rfl (binR_gtr)) ?_
       refine wl_nil ?_
       refine qn_then ?_
       refine wc_cond (by rfl) (fun c65 => ?_) (fun c65 => ?_)
       ·
        refine wc_seq ?_
        refine wc_region ?_
        refine wl_v rfl rfl (ov_move _ rfl) ?_
        refine wl_lit (d := (Kd.int .i64)) [(0, .int .i64 (((a - ((spanI x ((findI x a).1)).1)) + ((spanI x ((findI x (b - 1)).1)).2.1)) - b))] _ [.int .i64 (((a - ((spanI x ((findI x a).1)).1)) + ((spanI x ((findI x (b - 1)).1)).2.1)) - b)] ([((a - ((spanI x ((findI x a).1)).1)) + ((spanI x ((findI x (b - 1)).1)).2.1)) - b]) h rfl rfl rfl rfl Try.underlying23 infb3 rfl (by decide) (by kernel_rfl) rfl (fun _ _ _ => ((Reps.none _ _).snoc ((Sx.mkInt .i64 (((a - ((spanI x ((findI x a).1)).1)) + ((spanI x ((findI x (b - 1)).1)).2.1)) - b))) rfl)) (fun A66 cp67 _ h => ?_)
        refine wl_v rfl rfl (ov_assign _ rfl) ?_
        refine wl_nil ?_
        refine qn_then ?_
        refine wc_region ?_
        refine wl_v rfl rfl (ov_fieldAddr _ ⟨b39, 2, none⟩ _ rfl fo41_2 rfl) ?_
        refine wl_storeb 1 _ [.int .i64 ((findI x a).1), .int .i64 ((((findI x (b - 1)).1) - ((findI x a).1)) + 1), .int .i64 (1)] h rfl rfl rfl rfl rfl rfl sh3 rfl rfl (fun _ h => ?_)
        refine wl_nil ?_
        refine qn_then ?_
        refine wc_seq ?_
        refine wc_block ?_
        refine wc_seq ?_
        refine wc_draw (fun w => Sx.St w0 F0 ([Sx.row (Kd.int .i64) 3 (A66) (cp67) ([((a - ((spanI x ((findI x a).1)).1)) + ((spanI x ((findI x (b - 1)).1)).2.1)) - b]), Sx.blk b39 [.int .i64 ((findI x a).1), .int .i64 ((((findI x (b - 1)).1) - ((findI x a).1)) + 1), .int .i64 (1)] 41, Sx.blk g [.slice (A5) (((x).lens).length) (c6), .int .i64 ((x).size), .bool ((x).open_)] 60, Sx.row (Kd.int .i64) 3 (A5) (c6) ((x).lens), Sx.blk b1 [.int .i64 (0), .int .i64 (0), .int .i64 (0)] 41] ++ R) w) (by kernel_rfl) ?_
        replace h := st_drew h
        refine wa_take 0 rfl (by kernel_rfl) (by kernel_rfl) (by kernel_rfl) (fun _ _ _ h => h) rfl rfl (st_selT [true, true, true, true, true] h) (fun w_ hS => ov_fieldAddr _ ⟨b39, 0, none⟩ _ rfl fo41_0 rfl) ?_
        refine wa_take 1 rfl (by kernel_rfl) (by kernel_rfl) (by kernel_rfl) (fun _ _ _ h => h) rfl rfl (st_selT [true, true, true, true, true] h) (fun w_ hS => ov_loadb 1 _ hS rfl rfl sh3 rfl) ?_
        refine wa_take 2 rfl (by kernel_rfl) (by kernel_rfl) (by kernel_rfl) (fun _ _ _ h => h) rfl rfl (st_selT [true, true, true, true, true] h) (fun w_ hS => ov_fieldAddr _ ⟨b39, 1, none⟩ _ rfl fo41_1 rfl) ?_
        refine wa_take 3 rfl (by kernel_rfl) (by kernel_rfl) (by kernel_rfl) (fun _ _ _ h => h) rfl rfl (st_selT [true, true, true, true, true] h) (fun w_ hS => ov_loadb 1 _ hS rfl rfl sh3 rfl) ?_
        refine wa_take 4 rfl (by kernel_rfl) (by kernel_rfl) (by kernel_rfl) (fun _ _ _ h => h) rfl rfl (st_selT [true, true, true, true, true] h) (fun w_ hS => ov_bin _ rfl rfl (binR_add (r := ((findI x a).1) + ((((findI x (b - 1)).1) - ((findI x a).1)) + 1)) (Sx.w64 (by omega)))) ?_
        refine wa_take 5 rfl (by kernel_rfl) (by kernel_rfl) (by kernel_rfl) (fun _ _ _ h => h) rfl rfl (st_selT [true, true, true, true, true] h) (fun w_ hS => ov_move _ rfl) ?_
        refine wa_take 6 rfl (by kernel_rfl) (by kernel_rfl) (by kernel_rfl) (fun _ _ _ h => h) rfl rfl (st_selT [true, true, true, true, true] h) (fun w_ hS => ov_nilCheck _ rfl) ?_
        refine wa_take 7 rfl (by kernel_rfl) (by kernel_rfl) (by kernel_rfl) (fun _ _ _ h => h) rfl rfl (st_selT [true, true, true, true, true] h) (fun w_ hS => ov_fieldAddr _ ⟨g, 0, none⟩ _ rfl fo60_0 rfl) ?_
        refine wa_take 8 rfl (by kernel_rfl) (by kernel_rfl) (by kernel_rfl) (fun _ _ _ h => h) rfl rfl (st_selT [true, true, true, true, true] h) (fun w_ hS => ov_loadb 2 _ hS rfl rfl sh23 rfl) ?_
        refine wa_take 9 rfl (by kernel_rfl) (by kernel_rfl) (by kernel_rfl) (fun _ _ _ h => h) rfl rfl (st_selT [true, true, true, true, true] h) (fun w_ hS => ov_len _ _ _ _ _ rfl es23) ?_
        refine wa_take 10 rfl (by kernel_rfl) (by kernel_rfl) (by kernel_rfl) (fun _ _ _ h => h) rfl rfl (st_selT [true, true, true, true, true] h) (fun w_ hS => ov_bin _ rfl rfl (binR_lss)) ?_
        refine wa_take 11 rfl (by kernel_rfl) (by kernel_rfl) (by kernel_rfl) (fun _ _ _ h => h) rfl rfl (st_selT [true, true, true, true, true] h) (fun w_ hS => ov_assign _ rfl) ?_
        refine wa_done (by kernel_rfl) ?_
        refine qn_then ?_
        refine wc_cond (by rfl) (fun c68 => ?_) (fun c68 => ?_)
        ·
         have hnv := hnx (by omega)
         refine wc_skip ?_
         refine qn_block_normal ?_
         refine qn_then ?_
         refine wc_seq ?_
         refine wc_region ?_
         refine wl_v rfl rfl (ov_move _ rfl) ?_
         refine wl_v rfl rfl (ov_nilCheck _ rfl) ?_
         refine wl_v rfl rfl (ov_fieldAddr _ ⟨g, 1, none⟩ _ rfl fo60_1 rfl) ?_
         refine wl_v rfl rfl (ov_loadb 2 _ h rfl rfl sh3 rfl) ?_
         refine wl_v rfl rfl (ov_move _ rfl) ?_
         refine wl_v rfl rfl (ov_move _ rfl) ?_
         refine wl_v rfl rfl (ov_bin _ rfl rfl (binR_sub (r := b - a) (Sx.w64 (by omega)))) ?_
         refine wl_v rfl rfl (ov_bin _ rfl rfl (binR_sub (r := ((x).size) - (b - a)) (Sx.w64 (by omega)))) ?_
         refine wl_v rfl rfl (ov_nilCheck _ rfl) ?_
         refine wl_v rfl rfl (ov_fieldAddr _ ⟨g, 1, none⟩ _ rfl fo60_1 rfl) ?_
         refine wl_storeb 2 _ [.slice (A5) (((x).lens).length) (c6), .int .i64 (((x).size) - (b - a)), .bool ((x).open_)] h rfl rfl rfl rfl rfl rfl sh3 rfl rfl (fun _ h => ?_)
         refine wl_nil ?_
         refine qn_then ?_
         refine wc_seq ?_
         refine wc_region ?_
         refine wl_v rfl rfl (ov_move _ rfl) ?_
         refine wl_v rfl rfl (ov_loadbN 1 [.int .i64 ((findI x a).1), .int .i64 ((((findI x (b - 1)).1) - ((findI x a).1)) + 1), .int .i64 (1)] h rfl rfl sh41 rfl) ?_
         refine wl_v rfl rfl (ov_move _ rfl) ?_
         replace h := st_front 3 h
         replace h := st_front 3 h
         replace h := ixB_close ((x).lens) (((x).size) - (b - a)) (((x).open_)) (by first | rfl | simp) h
         refine wl_call _ rfl rfl rfl ent35 (change_calls2 (R := [Sx.row (Kd.int .i64) 3 (A66) (cp67) ([((a - ((spanI x ((findI x a).1)).1)) + ((spanI x ((findI x (b - 1)).1)).2.1)) - b]), Sx.blk b39 [.int .i64 ((findI x a).1), .int .i64 ((((findI x (b - 1)).1) - ((findI x a).1)) + 1), .int .i64 (1)] 41, Sx.blk b1 [.int .i64 (0), .int .i64 (0), .int .i64 (0)] 41] ++ R) g ((⟨(x).lens, ((x).size) - (b - a), ((x).open_)⟩ : IX)) ((findI x a).1) ((((findI x (b - 1)).1) - ((findI x a).1)) + 1) 1 ([((a - ((spanI x ((findI x a).1)).1)) + ((spanI x ((findI x (b - 1)).1)).2.1)) - b]) (A66) (cp67) (([((a - ((spanI x ((findI x a).1)).1)) + ((spanI x ((findI x (b - 1)).1)).2.1)) - b] : List _).length) (by first | with_reducible rfl | simp only [List.length_set, List.length_append] | rfl) (by first | omega | simp; omega) (by first | omega | simp; omega) (by first | omega | simp; omega) (by first | omega | simp; omega) (Sx.row_reads_at (R := [Sx.row (Kd.int .i64) 3 (A66) (cp67) ([((a - ((spanI x ((findI x a).1)).1)) + ((spanI x ((findI x (b - 1)).1)).2.1)) - b]), Sx.blk b39 [.int .i64 ((findI x a).1), .int .i64 ((((findI x (b - 1)).1) - ((findI x a).1)) + 1), .int .i64 (1)] 41, Sx.blk b1 [.int .i64 (0), .int .i64 (0), .int .i64 (0)] 41] ++ R) (j := 0) rfl) h) ?_
         rintro e_ w_ ⟨rfl, h⟩
         refine ⟨_, rfl, ?_⟩
         refine wl_nil ?_
         refine qn_then ?_
         refine wc_seq ?_
         refine wc_region ?_
         refine wl_v rfl rfl (ov_loadbN 2 [.int .i64 ((findI x a).1), .int .i64 ((((findI x (b - 1)).1) - ((findI x a).1)) + 1), .int .i64 (1)] h rfl rfl sh41 rfl) ?_
         refine wl_storebN 3 [.int .i64 ((findI x a).1), .int .i64 ((((findI x (b - 1)).1) - ((findI x a).1)) + 1), .int .i64 (1)] [.int .i64 ((findI x a).1), .int .i64 ((((findI x (b - 1)).1) - ((findI x a).1)) + 1), .int .i64 (1)] h rfl rfl rfl rfl (by simp [Value.oneCell']) sh41 rfl rfl (fun _ h => ?_)
         refine wl_v rfl rfl (ov_assign _ rfl) ?_
         refine wl_nil ?_
         refine qn_then ?_
         refine wc_ret ?_
         have hend_ := h
         have e1_ : oldD x a b = (((findI x (b - 1)).1) - ((findI x a).1)) + 1 := by omega
         have e3_ : newD x a b = [((a - ((spanI x ((findI x a).1)).1)) + ((spanI x ((findI x (b - 1)).1)).2.1)) - b] := by unfold newD; rw [show restD x a b = ((a - ((spanI x ((findI x a).1)).1)) + ((spanI x ((findI x (b - 1)).1)).2.1)) - b by omega, if_pos (by omega)]
         have e4_ : openD x a b = (((x).open_)) := by first | exact hO.1 (by omega) | exact hO.2.1 (by omega) (by omega) | exact hO.2.2.1 (by omega) (by omega) (by omega) | exact hO.2.2.2 (by omega) (by omega) (by omega)
         rw [del_fin (by assumption) c3 hfa.1 e1_ e3_ e4_ rfl]
         replace h := st_selT [true, false, false, false] h
         refine qn_ret [_, _] ⟨⟨_, rfl, Sx.loadVarN (vs := [.int .i64 ((findI x a).1), .int .i64 ((((findI x (b - 1)).1) - ((findI x a).1)) + 1), .int .i64 (1)]) sh41 (Sx.blk_cells (cells := [.int .i64 ((findI x a).1), .int .i64 ((((findI x (b - 1)).1) - ((findI x a).1)) + 1), .int .i64 (1)]) hend_ (i := 3) rfl 0 _ rfl)⟩, rfl, trivial⟩ ?_
         exact ⟨rfl, h⟩
        ·
         refine wc_seq ?_
         refine wc_region ?_
         refine wl_v rfl rfl (ov_move _ rfl) ?_
         refine wl_v rfl rfl (ov_bin _ rfl rfl (binR_eql)) ?_
         refine wl_v rfl rfl (ov_assign _ rfl) ?_
         refine wl_nil ?_
         refine qn_then ?_
         refine wc_cond (by rfl) (fun c69 => ?_) (fun c69 => ?_)
         ·
          exfalso
          have hnx2 := hnx
          omega
         ·
          refine wc_seq ?_
          refine wc_region ?_
          refine wl_v rfl rfl (ov_move _ rfl) ?_
          refine wl_v rfl rfl (ov_move _ rfl) ?_
          refine wl_splitb 150 rfl (fun c70 => ?_) (fun c70 => ?_)
          ·
           have hon := opN_0 (x := x) (by simpa using c70)
           refine wl_v rfl rfl (ov_move _ rfl) ?_
           refine wl_v rfl rfl (ov_bin _ rfl rfl (binR_add (r := ((findI x (b - 1)).1) + 1) (Sx.w64 (by omega)))) ?_
           refine wl_v rfl rfl (ov_move _ rfl) ?_
           refine wl_v rfl rfl (ov_nilCheck _ rfl) ?_
           refine wl_v rfl rfl (ov_fieldAddr _ ⟨g, 0, none⟩ _ rfl fo60_0 rfl) ?_
           refine wl_v rfl rfl (ov_loadb 2 _ h rfl rfl sh23 rfl) ?_
           refine wl_v rfl rfl (ov_len _ _ _ _ _ rfl es23) ?_
           refine wl_v rfl rfl (ov_bin _ rfl rfl (binR_geq)) ?_
           refine wl_v rfl rfl (ov_pick_true _ rfl rfl) ?_
           refine wl_v rfl rfl (ov_assign _ rfl) ?_
           refine wl_nil ?_
           refine qn_then ?_
           refine wc_cond (by rfl) (fun c71 => ?_) (fun c71 => ?_)
           ·
            refine wc_region ?_
            refine wl_v rfl rfl (ov_move _ rfl) ?_
            refine wl_v rfl rfl (ov_nilCheck _ rfl) ?_
            refine wl_v rfl rfl (ov_fieldAddr _ ⟨g, 2, none⟩ _ rfl fo60_2 rfl) ?_
            refine wl_storeb 2 _ [.slice (A5) (((x).lens).length) (c6), .int .i64 ((x).size), .bool true] h rfl rfl rfl rfl rfl rfl sh4 rfl rfl (fun _ h => ?_)
            refine wl_nil ?_
            refine qn_block_normal ?_
            refine qn_then ?_
            refine wc_seq ?_
            refine wc_region ?_
            refine wl_v rfl rfl (ov_move _ rfl) ?_
            refine wl_v rfl rfl (ov_nilCheck _ rfl) ?_
            refine wl_v rfl rfl (ov_fieldAddr _ ⟨g, 1, none⟩ _ rfl fo60_1 rfl) ?_
            refine wl_v rfl rfl (ov_loadb 2 _ h rfl rfl sh3 rfl) ?_
            refine wl_v rfl rfl (ov_move _ rfl) ?_
            refine wl_v rfl rfl (ov_move _ rfl) ?_
            refine wl_v rfl rfl (ov_bin _ rfl rfl (binR_sub (r := b - a) (Sx.w64 (by omega)))) ?_
            refine wl_v rfl rfl (ov_bin _ rfl rfl (binR_sub (r := ((x).size) - (b - a)) (Sx.w64 (by omega)))) ?_
            refine wl_v rfl rfl (ov_nilCheck _ rfl) ?_
            refine wl_v rfl rfl (ov_fieldAddr _ ⟨g, 1, none⟩ _ rfl fo60_1 rfl) ?_
            refine wl_storeb 2 _ [.slice (A5) (((x).lens).length) (c6), .int .i64 (((x).size) - (b - a)), .bool true] h rfl rfl rfl rfl rfl rfl sh3 rfl rfl (fun _ h => ?_)
            refine wl_nil ?_
            refine qn_then ?_
            refine wc_seq ?_
            refine wc_region ?_
            refine wl_v rfl rfl (ov_move _ rfl) ?_
            refine wl_v rfl rfl (ov_loadbN 1 [.int .i64 ((findI x a).1), .int .i64 ((((findI x (b - 1)).1) - ((findI x a).1)) + 1), .int .i64 (1)] h rfl rfl sh41 rfl) ?_
            refine wl_v rfl rfl (ov_move _ rfl) ?_
            replace h := st_front 3 h
            replace h := st_front 3 h
            replace h := ixB_close ((x).lens) (((x).size) - (b - a)) (true) (by first | rfl | simp) h
            refine wl_call _ rfl rfl rfl ent35 (change_calls2 (R := [Sx.row (Kd.int .i64) 3 (A66) (cp67) ([((a - ((spanI x ((findI x a).1)).1)) + ((spanI x ((findI x (b - 1)).1)).2.1)) - b]), Sx.blk b39 [.int .i64 ((findI x a).1), .int .i64 ((((findI x (b - 1)).1) - ((findI x a).1)) + 1), .int .i64 (1)] 41, Sx.blk b1 [.int .i64 (0), .int .i64 (0), .int .i64 (0)] 41] ++ R) g ((⟨(x).lens, ((x).size) - (b - a), true⟩ : IX)) ((findI x a).1) ((((findI x (b - 1)).1) - ((findI x a).1)) + 1) 1 ([((a - ((spanI x ((findI x a).1)).1)) + ((spanI x ((findI x (b - 1)).1)).2.1)) - b]) (A66) (cp67) (([((a - ((spanI x ((findI x a).1)).1)) + ((spanI x ((findI x (b - 1)).1)).2.1)) - b] : List _).length) (by first | with_reducible rfl | simp only [List.length_set, List.length_append] | rfl) (by first | omega | simp; omega) (by first | omega | simp; omega) (by first | omega | simp; omega) (by first | omega | simp; omega) (Sx.row_reads_at (R := [Sx.row (Kd.int .i64) 3 (A66) (cp67) ([((a - ((spanI x ((findI x a).1)).1)) + ((spanI x ((findI x (b - 1)).1)).2.1)) - b]), Sx.blk b39 [.int .i64 ((findI x a).1), .int .i64 ((((findI x (b - 1)).1) - ((findI x a).1)) + 1), .int .i64 (1)] 41, Sx.blk b1 [.int .i64 (0), .int .i64 (0), .int .i64 (0)] 41] ++ R) (j := 0) rfl) h) ?_
            rintro e_ w_ ⟨rfl, h⟩
            refine ⟨_, rfl, ?_⟩
            refine wl_nil ?_
            refine qn_then ?_
            refine wc_seq ?_
            refine wc_region ?_
            refine wl_v rfl rfl (ov_loadbN 2 [.int .i64 ((findI x a).1), .int .i64 ((((findI x (b - 1)).1) - ((findI x a).1)) + 1), .int .i64 (1)] h rfl rfl sh41 rfl) ?_
            refine wl_storebN 3 [.int .i64 ((findI x a).1), .int .i64 ((((findI x (b - 1)).1) - ((findI x a).1)) + 1), .int .i64 (1)] [.int .i64 ((findI x a).1), .int .i64 ((((findI x (b - 1)).1) - ((findI x a).1)) + 1), .int .i64 (1)] h rfl rfl rfl rfl (by simp [Value.oneCell']) sh41 rfl rfl (fun _ h => ?_)
            refine wl_v rfl rfl (ov_assign _ rfl) ?_
            refine wl_nil ?_
            refine qn_then ?_
            refine wc_ret ?_
            have hend_ := h
            have e1_ : oldD x a b = (((findI x (b - 1)).1) - ((findI x a).1)) + 1 := by omega
            have e3_ : newD x a b = [((a - ((spanI x ((findI x a).1)).1)) + ((spanI x ((findI x (b - 1)).1)).2.1)) - b] := by unfold newD; rw [show restD x a b = ((a - ((spanI x ((findI x a).1)).1)) + ((spanI x ((findI x (b - 1)).1)).2.1)) - b by omega, if_pos (by omega)]
            have e4_ : openD x a b = (true) := by first | exact hO.1 (by omega) | exact hO.2.1 (by omega) (by omega) | exact hO.2.2.1 (by omega) (by omega) (by omega) | exact hO.2.2.2 (by omega) (by omega) (by omega)
            rw [del_fin (by assumption) c3 hfa.1 e1_ e3_ e4_ rfl]
            replace h := st_selT [true, false, false, false] h
            refine qn_ret [_, _] ⟨⟨_, rfl, Sx.loadVarN (vs := [.int .i64 ((findI x a).1), .int .i64 ((((findI x (b - 1)).1) - ((findI x a).1)) + 1), .int .i64 (1)]) sh41 (Sx.blk_cells (cells := [.int .i64 ((findI x a).1), .int .i64 ((((findI x (b - 1)).1) - ((findI x a).1)) + 1), .int .i64 (1)]) hend_ (i := 3) rfl 0 _ rfl)⟩, rfl, trivial⟩ ?_
            exact ⟨rfl, h⟩
           ·
            refine wc_skip ?_
            refine qn_block_normal ?_
            refine qn_then ?_
            refine wc_seq ?_
            refine wc_region ?_
            refine wl_v rfl rfl (ov_move _ rfl) ?_
            refine wl_v rfl rfl (ov_nilCheck _ rfl) ?_
            refine wl_v rfl rfl (ov_fieldAddr _ ⟨g, 1, none⟩ _ rfl fo60_1 rfl) ?_
            refine wl_v rfl rfl (ov_loadb 2 _ h rfl rfl sh3 rfl) ?_
            refine wl_v rfl rfl (ov_move _ rfl) ?_
            refine wl_v rfl rfl (ov_move _ rfl) ?_
            refine wl_v rfl rfl (ov_bin _ rfl rfl (binR_sub (r := b - a) (Sx.w64 (by omega)))) ?_
            refine wl_v rfl rfl (ov_bin _ rfl rfl (binR_sub (r := ((x).size) - (b - a)) (Sx.w64 (by omega)))) ?_
            refine wl_v rfl rfl (ov_nilCheck _ rfl) ?_
            refine wl_v rfl rfl (ov_fieldAddr _ ⟨g, 1, none⟩ _ rfl fo60_1 rfl) ?_
            refine wl_storeb 2 _ [.slice (A5) (((x).lens).length) (c6), .int .i64 (((x).size) - (b - a)), .bool ((x).open_)] h rfl rfl rfl rfl rfl rfl sh3 rfl rfl (fun _ h => ?_)
            refine wl_nil ?_
            refine qn_then ?_
            refine wc_seq ?_
            refine wc_region ?_
            refine wl_v rfl rfl (ov_move _ rfl) ?_
            refine wl_v rfl rfl (ov_loadbN 1 [.int .i64 ((findI x a).1), .int .i64 ((((findI x (b - 1)).1) - ((findI x a).1)) + 1), .int .i64 (1)] h rfl rfl sh41 rfl) ?_
            refine wl_v rfl rfl (ov_move _ rfl) ?_
            replace h := st_front 3 h
            replace h := st_front 3 h
            replace h := ixB_close ((x).lens) (((x).size) - (b - a)) (((x).open_)) (by first | rfl | simp) h
            refine wl_call _ rfl rfl rfl ent35 (change_calls2 (R := [Sx.row (Kd.int .i64) 3 (A66) (cp67) ([((a - ((spanI x ((findI x a).1)).1)) + ((spanI x ((findI x (b - 1)).1)).2.1)) - b]), Sx.blk b39 [.int .i64 ((findI x a).1), .int .i64 ((((findI x (b - 1)).1) - ((findI x a).1)) + 1), .int .i64 (1)] 41, Sx.blk b1 [.int .i64 (0), .int .i64 (0), .int .i64 (0)] 41] ++ R) g ((⟨(x).lens, ((x).size) - (b - a), ((x).open_)⟩ : IX)) ((findI x a).1) ((((findI x (b - 1)).1) - ((findI x a).1)) + 1) 1 ([((a - ((spanI x ((findI x a).1)).1)) + ((spanI x ((findI x (b - 1)).1)).2.1)) - b]) (A66) (cp67) (([((a - ((spanI x ((findI x a).1)).1)) + ((spanI x ((findI x (b - 1)).1)).2.1)) - b] : List _).length) (by first | with_reducible rfl | simp only [List.length_set, List.length_append] | rfl) (by first | omega | simp; omega) (by first | omega | simp; omega) (by first | omega | simp; omega) (by first | omega | simp; omega) (Sx.row_reads_at (R := [Sx.row (Kd.int .i64) 3 (A66) (cp67) ([((a - ((spanI x ((findI x a).1)).1)) + ((spanI x ((findI x (b - 1)).1)).2.1)) - b]), Sx.blk b39 [.int .i64 ((findI x a).1), .int .i64 ((((findI x (b - 1)).1) - ((findI x a).1)) + 1), .int .i64 (1)] 41, Sx.blk b1 [.int .i64 (0), .int .i64 (0), .int .i64 (0)] 41] ++ R) (j := 0) rfl) h) ?_
            rintro e_ w_ ⟨rfl, h⟩
            refine ⟨_, rfl, ?_⟩
            refine wl_nil ?_
            refine qn_then ?_
            refine wc_seq ?_
            refine wc_region ?_
            refine wl_v rfl rfl (ov_loadbN 2 [.int .i64 ((findI x a).1), .int .i64 ((((findI x (b - 1)).1) - ((findI x a).1)) + 1), .int .i64 (1)] h rfl rfl sh41 rfl) ?_
            refine wl_storebN 3 [.int .i64 ((findI x a).1), .int .i64 ((((findI x (b - 1)).1) - ((findI x a).1)) + 1), .int .i64 (1)] [.int .i64 ((findI x a).1), .int .i64 ((((findI x (b - 1)).1) - ((findI x a).1)) + 1), .int .i64 (1)] h rfl rfl rfl rfl (by simp [Value.oneCell']) sh41 rfl rfl (fun _ h => ?_)
            refine wl_v rfl rfl (ov_assign _ rfl) ?_
            refine wl_nil ?_
            refine qn_then ?_
            refine wc_ret ?_
            have hend_ := h
            have e1_ : oldD x a b = (((findI x (b - 1)).1) - ((findI x a).1)) + 1 := by omega
            have e3_ : newD x a b = [((a - ((spanI x ((findI x a).1)).1)) + ((spanI x ((findI x (b - 1)).1)).2.1)) - b] := by unfold newD; rw [show restD x a b = ((a - ((spanI x ((findI x a).1)).1)) + ((spanI x ((findI x (b - 1)).1)).2.1)) - b by omega, if_pos (by omega)]
            have e4_ : openD x a b = (((x).open_)) := by first | exact hO.1 (by omega) | exact hO.2.1 (by omega) (by omega) | exact hO.2.2.1 (by omega) (by omega) (by omega) | exact hO.2.2.2 (by omega) (by omega) (by omega)
            rw [del_fin (by assumption) c3 hfa.1 e1_ e3_ e4_ rfl]
            replace h := st_selT [true, false, false, false] h
            refine qn_ret [_, _] ⟨⟨_, rfl, Sx.loadVarN (vs := [.int .i64 ((findI x a).1), .int .i64 ((((findI x (b - 1)).1) - ((findI x a).1)) + 1), .int .i64 (1)]) sh41 (Sx.blk_cells (cells := [.int .i64 ((findI x a).1), .int .i64 ((((findI x (b - 1)).1) - ((findI x a).1)) + 1), .int .i64 (1)]) hend_ (i := 3) rfl 0 _ rfl)⟩, rfl, trivial⟩ ?_
            exact ⟨rfl, h⟩
          ·
           exact absurd (c40.symm.trans c70) (by decide)
       ·
        refine wc_skip ?_
        refine qn_then ?_
        refine wc_seq ?_
        refine wc_block ?_
        refine wc_seq ?_
        refine wc_draw (fun w => Sx.St w0 F0 ([Sx.blk b39 [.int .i64 ((findI x a).1), .int .i64 ((((findI x (b - 1)).1) - ((findI x a).1)) + 1), .int .i64 (0)] 41, Sx.blk g [.slice (A5) (((x).lens).length) (c6), .int .i64 ((x).size), .bool ((x).open_)] 60, Sx.row (Kd.int .i64) 3 (A5) (c6) ((x).lens), Sx.blk b1 [.int .i64 (0), .int .i64 (0), .int .i64 (0)] 41] ++ R) w) (by kernel_rfl) ?_
        replace h := st_drew h
        refine wa_take 0 rfl (by kernel_rfl) (by kernel_rfl) (by kernel_rfl) (fun _ _ _ h => h) rfl rfl (st_selT [true, true, true, true] h) (fun w_ hS => ov_fieldAddr _ ⟨b39, 0, none⟩ _ rfl fo41_0 rfl) ?_
        refine wa_take 1 rfl (by kernel_rfl) (by kernel_rfl) (by kernel_rfl) (fun _ _ _ h => h) rfl rfl (st_selT [true, true, true, true] h) (fun w_ hS => ov_loadb 0 _ hS rfl rfl sh3 rfl) ?_
        refine wa_take 2 rfl (by kernel_rfl) (by kernel_rfl) (by kernel_rfl) (fun _ _ _ h => h) rfl rfl (st_selT [true, true, true, true] h) (fun w_ hS => ov_fieldAddr _ ⟨b39, 1, none⟩ _ rfl fo41_1 rfl) ?_
        refine wa_take 3 rfl (by kernel_rfl) (by kernel_rfl) (by kernel_rfl) (fun _ _ _ h => h) rfl rfl (st_selT [true, true, true, true] h) (fun w_ hS => ov_loadb 0 _ hS rfl rfl sh3 rfl) ?_
        refine wa_take 4 rfl (by kernel_rfl) (by kernel_rfl) (by kernel_rfl) (fun _ _ _ h => h) rfl rfl (st_selT [true, true, true, true] h) (fun w_ hS => ov_bin _ rfl rfl (binR_add (r := ((findI x a).1) + ((((findI x (b - 1)).1) - ((findI x a).1)) + 1)) (Sx.w64 (by omega)))) ?_
        refine wa_take 5 rfl (by kernel_rfl) (by kernel_rfl) (by kernel_rfl) (fun _ _ _ h => h) rfl rfl (st_selT [true, true, true, true] h) (fun w_ hS => ov_move _ rfl) ?_
        refine wa_take 6 rfl (by kernel_rfl) (by kernel_rfl) (by kernel_rfl) (fun _ _ _ h => h) rfl rfl (st_selT [true, true, true, true] h) (fun w_ hS => ov_nilCheck _ rfl) ?_
        refine wa_take 7 rfl (by kernel_rfl) (by kernel_rfl) (by kernel_rfl) (fun _ _ _ h => h) rfl rfl (st_selT [true, true, true, true] h) (fun w_ hS => ov_fieldAddr _ ⟨g, 0, none⟩ _ rfl fo60_0 rfl) ?_
        refine wa_take 8 rfl (by kernel_rfl) (by kernel_rfl) (by kernel_rfl) (fun _ _ _ h => h) rfl rfl (st_selT [true, true, true, true] h) (fun w_ hS => ov_loadb 1 _ hS rfl rfl sh23 rfl) ?_
        refine wa_take 9 rfl (by kernel_rfl) (by kernel_rfl) (by kernel_rfl) (fun _ _ _ h => h) rfl rfl (st_selT [true, true, true, true] h) (fun w_ hS => ov_len _ _ _ _ _ rfl es23) ?_
        refine wa_take 10 rfl (by kernel_rfl) (by kernel_rfl) (by kernel_rfl) (fun _ _ _ h => h) rfl rfl (st_selT [true, true, true, true] h) (fun w_ hS => ov_bin _ rfl rfl (binR_lss)) ?_
        refine wa_take 11 rfl (by kernel_rfl) (by kernel_rfl) (by kernel_rfl) (fun _ _ _ h => h) rfl rfl (st_selT [true, true, true, true] h) (fun w_ hS => ov_assign _ rfl) ?_
        refine wa_done (by kernel_rfl) ?_
        refine qn_then ?_
        refine wc_cond (by rfl) (fun c72 => ?_) (fun c72 => ?_)
        ·
         have hnv := hnx (by omega)
         refine wc_skip ?_
         refine qn_block_normal ?_
         refine qn_then ?_
         refine wc_seq ?_
         refine wc_region ?_
         refine wl_v rfl rfl (ov_move _ rfl) ?_
         refine wl_v rfl rfl (ov_nilCheck _ rfl) ?_
         refine wl_v rfl rfl (ov_fieldAddr _ ⟨g, 1, none⟩ _ rfl fo60_1 rfl) ?_
         refine wl_v rfl rfl (ov_loadb 1 _ h rfl rfl sh3 rfl) ?_
         refine wl_v rfl rfl (ov_move _ rfl) ?_
         refine wl_v rfl rfl (ov_move _ rfl) ?_
         refine wl_v rfl rfl (ov_bin _ rfl rfl (binR_sub (r := b - a) (Sx.w64 (by omega)))) ?_
         refine wl_v rfl rfl (ov_bin _ rfl rfl (binR_sub (r := ((x).size) - (b - a)) (Sx.w64 (by omega)))) ?_
         refine wl_v rfl rfl (ov_nilCheck _ rfl) ?_
         refine wl_v rfl rfl (ov_fieldAddr _ ⟨g, 1, none⟩ _ rfl fo60_1 rfl) ?_
         refine wl_storeb 1 _ [.slice (A5) (((x).lens).length) (c6), .int .i64 (((x).size) - (b - a)), .bool ((x).open_)] h rfl rfl rfl rfl rfl rfl sh3 rfl rfl (fun _ h => ?_)
         refine wl_nil ?_
         refine qn_then ?_
         refine wc_seq ?_
         refine wc_region ?_
         refine wl_v rfl rfl (ov_move _ rfl) ?_
         refine wl_v rfl rfl (ov_loadbN 0 [.int .i64 ((findI x a).1), .int .i64 ((((findI x (b - 1)).1) - ((findI x a).1)) + 1), .int .i64 (0)] h rfl rfl sh41 rfl) ?_
         refine wl_v rfl rfl (ov_move _ rfl) ?_
         replace h := st_front 2 h
         replace h := st_front 2 h
         replace h := ixB_close ((x).lens) (((x).size) - (b - a)) (((x).open_)) (by first | rfl | simp) h
         refine wl_call _ rfl rfl rfl ent35 (change_calls2 (R := [Sx.blk b39 [.int .i64 ((findI x a).1), .int .i64 ((((findI x (b - 1)).1) - ((findI x a).1)) + 1), .int .i64 (0)] 41, Sx.blk b1 [.int .i64 (0), .int .i64 (0), .int .i64 (0)] 41] ++ R) g ((⟨(x).lens, ((x).size) - (b - a), ((x).open_)⟩ : IX)) ((findI x a).1) ((((findI x (b - 1)).1) - ((findI x a).1)) + 1) 0 ([]) (none) (0) (0) (by first | with_reducible rfl | simp only [List.length_set, List.length_append] | rfl) (by first | omega | simp; omega) (by first | omega | simp; omega) (by first | omega | simp; omega) (by first | omega | simp; omega) (fun _ _ _ => Kd.C_nil _ _) h) ?_
         rintro e_ w_ ⟨rfl, h⟩
         refine ⟨_, rfl, ?_⟩
         refine wl_nil ?_
         refine qn_then ?_
         refine wc_seq ?_
         refine wc_region ?_
         refine wl_v rfl rfl (ov_loadbN 1 [.int .i64 ((findI x a).1), .int .i64 ((((findI x (b - 1)).1) - ((findI x a).1)) + 1), .int .i64 (0)] h rfl rfl sh41 rfl) ?_
         refine wl_storebN 2 [.int .i64 ((findI x a).1), .int .i64 ((((findI x (b - 1)).1) - ((findI x a).1)) + 1), .int .i64 (0)] [.int .i64 ((findI x a).1), .int .i64 ((((findI x (b - 1)).1) - ((findI x a).1)) + 1), .int .i64 (0)] h rfl rfl rfl rfl (by simp [Value.oneCell']) sh41 rfl rfl (fun _ h => ?_)
         refine wl_v rfl rfl (ov_assign _ rfl) ?_
         refine wl_nil ?_
         refine qn_then ?_
         refine wc_ret ?_
         have hend_ := h
         have e1_ : oldD x a b = (((findI x (b - 1)).1) - ((findI x a).1)) + 1 := by omega
         have e3_ : newD x a b = [] := by unfold newD; rw [if_neg (by omega)]
         have e4_ : openD x a b = (((x).open_)) := by first | exact hO.1 (by omega) | exact hO.2.1 (by omega) (by omega) | exact hO.2.2.1 (by omega) (by omega) (by omega) | exact hO.2.2.2 (by omega) (by omega) (by omega)
         rw [del_fin (by assumption) c3 hfa.1 e1_ e3_ e4_ rfl]
         replace h := st_selT [true, false, false] h
         refine qn_ret [_, _] ⟨⟨_, rfl, Sx.loadVarN (vs := [.int .i64 ((findI x a).1), .int .i64 ((((findI x (b - 1)).1) - ((findI x a).1)) + 1), .int .i64 (0)]) sh41 (Sx.blk_cells (cells := [.int .i64 ((findI x a).1), .int .i64 ((((findI x (b - 1)).1) - ((findI x a).1)) + 1), .int .i64 (0)]) hend_ (i := 2) rfl 0 _ rfl)⟩, rfl, trivial⟩ ?_
         exact ⟨rfl, h⟩
        ·
         refine wc_seq ?_
         refine wc_region ?_
         refine wl_v rfl rfl (ov_move _ rfl) ?_
         refine wl_v rfl rfl (ov_bin _ rfl rfl (binR_eql)) ?_
         refine wl_v rfl rfl (ov_assign _ rfl) ?_
         refine wl_nil ?_
         refine qn_then ?_
         refine wc_cond (by rfl) (fun c73 => ?_) (fun c73 => ?_)
         ·
          refine wc_region ?_
          refine wl_v rfl rfl (ov_move _ rfl) ?_
          refine wl_v rfl rfl (ov_nilCheck _ rfl) ?_
          refine wl_v rfl rfl (ov_fieldAddr _ ⟨g, 2, none⟩ _ rfl fo60_2 rfl) ?_
          refine wl_storeb 1 _ [.slice (A5) (((x).lens).length) (c6), .int .i64 ((x).size), .bool false] h rfl rfl rfl rfl rfl rfl sh4 rfl rfl (fun _ h => ?_)
          refine wl_nil ?_
          refine qn_block_normal ?_
          refine qn_then ?_
          refine wc_seq ?_
          refine wc_region ?_
          refine wl_v rfl rfl (ov_move _ rfl) ?_
          refine wl_v rfl rfl (ov_nilCheck _ rfl) ?_
          refine wl_v rfl rfl (ov_fieldAddr _ ⟨g, 1, none⟩ _ rfl fo60_1 rfl) ?_
          refine wl_v rfl rfl (ov_loadb 1 _ h rfl rfl sh3 rfl) ?_
          refine wl_v rfl rfl (ov_move _ rfl) ?_
          refine wl_v rfl rfl (ov_move _ rfl) ?_
          refine wl_v rfl rfl (ov_bin _ rfl rfl (binR_sub (r := b - a) (Sx.w64 (by omega)))) ?_
          refine wl_v rfl rfl (ov_bin _ rfl rfl (binR_sub (r := ((x).size) - (b - a)) (Sx.w64 (by omega)))) ?_
          refine wl_v rfl rfl (ov_nilCheck _ rfl) ?_
          refine wl_v rfl rfl (ov_fieldAddr _ ⟨g, 1, none⟩ _ rfl fo60_1 rfl) ?_
          refine wl_storeb 1 _ [.slice (A5) (((x).lens).length) (c6), .int .i64 (((x).size) - (b - a)), .bool false] h rfl rfl rfl rfl rfl rfl sh3 rfl rfl (fun _ h => ?_)
          refine wl_nil ?_
          refine qn_then ?_
          refine wc_seq ?_
          refine wc_region ?_
          refine wl_v rfl rfl (ov_move _ rfl) ?_
          refine wl_v rfl rfl (ov_loadbN 0 [.int .i64 ((findI x a).1), .int .i64 ((((findI x (b - 1)).1) - ((findI x a).1)) + 1), .int .i64 (0)] h rfl rfl sh41 rfl) ?_
          refine wl_v rfl rfl (ov_move _ rfl) ?_
          replace h := st_front 2 h
          replace h := st_front 2 h
          replace h := ixB_close ((x).lens) (((x).size) - (b - a)) (false) (by first | rfl | simp) h
          refine wl_call _ rfl rfl rfl ent35 (change_calls2 (R := [Sx.blk b39 [.int .i64 ((findI x a).1), .int .i64 ((((findI x (b - 1)).1) - ((findI x a).1)) + 1), .int .i64 (0)] 41, Sx.blk b1 [.int .i64 (0), .int .i64 (0), .int .i64 (0)] 41] ++ R) g ((⟨(x).lens, ((x).size) - (b - a), false⟩ : IX)) ((findI x a).1) ((((findI x (b - 1)).1) - ((findI x a).1)) + 1) 0 ([]) (none) (0) (0) (by first | with_reducible rfl | simp only [List.length_set, List.length_append] | rfl) (by first | omega | simp; omega) (by first | omega | simp; omega) (by first | omega | simp; omega) (by first | omega | simp; omega) (fun _ _ _ => Kd.C_nil _ _) h) ?_
          rintro e_ w_ ⟨rfl, h⟩
          refine ⟨_, rfl, ?_⟩
          refine wl_nil ?_
          refine qn_then ?_
          refine wc_seq ?_
          refine wc_region ?_
          refine wl_v rfl rfl (ov_loadbN 1 [.int .i64 ((findI x a).1), .int .i64 ((((findI x (b - 1)).1) - ((findI x a).1)) + 1), .int .i64 (0)] h rfl rfl sh41 rfl) ?_
          refine wl_storebN 2 [.int .i64 ((findI x a).1), .int .i64 ((((findI x (b - 1)).1) - ((findI x a).1)) + 1), .int .i64 (0)] [.int .i64 ((findI x a).1), .int .i64 ((((findI x (b - 1)).1) - ((findI x a).1)) + 1), .int .i64 (0)] h rfl rfl rfl rfl (by simp [Value.oneCell']) sh41 rfl rfl (fun _ h => ?_)
          refine wl_v rfl rfl (ov_assign _ rfl) ?_
          refine wl_nil ?_
          refine qn_then ?_
          refine wc_ret ?_
          have hend_ := h
          have e1_ : oldD x a b = (((findI x (b - 1)).1) - ((findI x a).1)) + 1 := by omega
          have e3_ : newD x a b = [] := by unfold newD; rw [if_neg (by omega)]
          have e4_ : openD x a b = (false) := by first | exact hO.1 (by omega) | exact hO.2.1 (by omega) (by omega) | exact hO.2.2.1 (by omega) (by omega) (by omega) | exact hO.2.2.2 (by omega) (by omega) (by omega)
          rw [del_fin (by assumption) c3 hfa.1 e1_ e3_ e4_ rfl]
          replace h := st_selT [true, false, false] h
          refine qn_ret [_, _] ⟨⟨_, rfl, Sx.loadVarN (vs := [.int .i64 ((findI x a).1), .int .i64 ((((findI x (b - 1)).1) - ((findI x a).1)) + 1), .int .i64 (0)]) sh41 (Sx.blk_cells (cells := [.int .i64 ((findI x a).1), .int .i64 ((((findI x (b - 1)).1) - ((findI x a).1)) + 1), .int .i64 (0)]) hend_ (i := 2) rfl 0 _ rfl)⟩, rfl, trivial⟩ ?_
          exact ⟨rfl, h⟩
         ·
          exfalso
          have hnx2 := hnx
          omega
     ·
      have hon := opN_1 (x := x) (by simpa using c40)
      refine wl_skip rfl rfl ?_
      refine wl_skip rfl rfl ?_
      refine wl_skip rfl rfl ?_
      refine wl_v rfl rfl (ov_pick_false _ rfl rfl) ?_
      refine wl_v rfl rfl (ov_move _ rfl) ?_
      refine wl_skip rfl rfl ?_
      refine wl_skip rfl rfl ?_
      refine wl_skip rfl rfl ?_
      refine wl_skip rfl rfl ?_
      refine wl_skip rfl rfl ?_
      refine wl_skip rfl rfl ?_
      refine wl_skip rfl rfl ?_
      refine wl_skip rfl rfl ?_
      refine wl_v rfl rfl (ov_pick_false _ rfl rfl) ?_
      refine wl_nil ?_
      refine qn_then ?_
      refine wc_cond_false rfl ?_
      refine wc_skip ?_
      refine qn_then ?_
      refine wc_seq ?_
      refine wc_region ?_
      refine wl_v rfl rfl (ov_assign _ rfl) ?_
      refine wl_nil ?_
      refine qn_then ?_
      refine wc_seq ?_
      refine wc_seq ?_
      refine wc_region ?_
      refine wl_v rfl rfl (ov_move _ rfl) ?_
      refine wl_v rfl rfl (ov_bin _ rfl rfl (binR_gtr)) ?_
      refine wl_nil ?_
      refine qn_then ?_
      refine wc_cond (by rfl) (fun c74 => ?_) (fun c74 => ?_)
      ·
       refine wc_seq ?_
       refine wc_region ?_
       refine wl_v rfl rfl (ov_move _ rfl) ?_
       refine wl_lit (d := (Kd.int .i64)) [(0, .int .i64 (((a - ((spanI x ((findI x a).1)).1)) + ((spanI x ((findI x (b - 1)).1)).2.1)) - b))] _ [.int .i64 (((a - ((spanI x ((findI x a).1)).1)) + ((spanI x ((findI x (b - 1)).1)).2.1)) - b)] ([((a - ((spanI x ((findI x a).1)).1)) + ((spanI x ((findI x (b - 1)).1)).2.1)) - b]) h rfl rfl rfl rfl Try.underlying23 infb3 rfl (by decide) (by kernel_rfl) rfl (fun _ _ _ => ((Reps.none _ _).snoc ((Sx.mkInt .i64 (((a - ((spanI x ((findI x a).1)).1)) + ((spanI x ((findI x (b - 1)).1)).2.1)) - b))) rfl)) (fun A75 cp76 _ h => ?_)
       refine wl_v rfl rfl (ov_assign _ rfl) ?_
       refine wl_nil ?_
       refine qn_then ?_
       refine wc_region ?_
       refine wl_v rfl rfl (ov_fieldAddr _ ⟨b39, 2, none⟩ _ rfl fo41_2 rfl) ?_
       refine wl_storeb 1 _ [.int .i64 ((findI x a).1), .int .i64 ((((findI x (b - 1)).1) - ((findI x a).1)) + 1), .int .i64 (1)] h rfl rfl rfl rfl rfl rfl sh3 rfl rfl (fun _ h => ?_)
       refine wl_nil ?_
       refine qn_then ?_
       refine wc_seq ?_
       refine wc_block ?_
       refine wc_seq ?_
       refine wc_draw (fun w => Sx.St w0 F0 ([Sx.row (Kd.int .i64) 3 (A75) (cp76) ([((a - ((spanI x ((findI x a).1)).1)) + ((spanI x ((findI x (b - 1)).1)).2.1)) - b]), Sx.blk b39 [.int .i64 ((findI x a).1), .int .i64 ((((findI x (b - 1)).1) - ((findI x a).1)) + 1), .int .i64 (1)] 41, Sx.blk g [.slice (A5) (((x).lens).length) (c6), .int .i64 ((x).size), .bool ((x).open_)] 60, Sx.row (Kd.int .i64) 3 (A5) (c6) ((x).lens), Sx.blk b1 [.int .i64 (0), .int .i64 (0), .int .i64 (0)] 41] ++ R) w) (by kernel_rfl) ?_
       replace h := st_drew h
       refine wa_take 0 rfl (by kernel_rfl) (by kernel_rfl) (by kernel_rfl) (fun _ _ _ h => h) rfl rfl (st_selT [true, true, true, true, true] h) (fun w_ hS => ov_fieldAddr _ ⟨b39, 0, none⟩ _ rfl fo41_0 rfl) ?_
       refine wa_take 1 rfl (by kernel_rfl) (by kernel_rfl) (by kernel_rfl) (fun _ _ _ h => h) rfl rfl (st_selT [true, true, true, true, true] h) (fun w_ hS => ov_loadb 1 _ hS rfl rfl sh3 rfl) ?_
       refine wa_take 2 rfl (by kernel_rfl) (by kernel_rfl) (by kernel_rfl) (fun _ _ _ h => h) rfl rfl (st_selT [true, true, true, true, true] h) (fun w_ hS => ov_fieldAddr _ ⟨b39, 1, none⟩ _ rfl fo41_1 rfl) ?_
       refine wa_take 3 rfl (by kernel_rfl) (by kernel_rfl) (by kernel_rfl) (fun _ _ _ h => h) rfl rfl (st_selT [true, true, true, true, true] h) (fun w_ hS => ov_loadb 1 _ hS rfl rfl sh3 rfl) ?_
       refine wa_take 4 rfl (by kernel_rfl) (by kernel_rfl) (by kernel_rfl) (fun _ _ _ h => h) rfl rfl (st_selT [true, true, true, true, true] h) (fun w_ hS => ov_bin _ rfl rfl (binR_add (r := ((findI x a).1) + ((((findI x (b - 1)).1) - ((findI x a).1)) + 1)) (Sx.w64 (by omega)))) ?_
       refine wa_take 5 rfl (by kernel_rfl) (by kernel_rfl) (by kernel_rfl) (fun _ _ _ h => h) rfl rfl (st_selT [true, true, true, true, true] h) (fun w_ hS => ov_move _ rfl) ?_
       refine wa_take 6 rfl (by kernel_rfl) (by kernel_rfl) (by kernel_rfl) (fun _ _ _ h => h) rfl rfl (st_selT [true, true, true, true, true] h) (fun w_ hS => ov_nilCheck _ rfl) ?_
       refine wa_take 7 rfl (by kernel_rfl) (by kernel_rfl) (by kernel_rfl) (fun _ _ _ h => h) rfl rfl (st_selT [true, true, true, true, true] h) (fun w_ hS => ov_fieldAddr _ ⟨g, 0, none⟩ _ rfl fo60_0 rfl) ?_
       refine wa_take 8 rfl (by kernel_rfl) (by kernel_rfl) (by kernel_rfl) (fun _ _ _ h => h) rfl rfl (st_selT [true, true, true, true, true] h) (fun w_ hS => ov_loadb 2 _ hS rfl rfl sh23 rfl) ?_
       refine wa_take 9 rfl (by kernel_rfl) (by kernel_rfl) (by kernel_rfl) (fun _ _ _ h => h) rfl rfl (st_selT [true, true, true, true, true] h) (fun w_ hS => ov_len _ _ _ _ _ rfl es23) ?_
       refine wa_take 10 rfl (by kernel_rfl) (by kernel_rfl) (by kernel_rfl) (fun _ _ _ h => h) rfl rfl (st_selT [true, true, true, true, true] h) (fun w_ hS => ov_bin _ rfl rfl (binR_lss)) ?_
       refine wa_take 11 rfl (by kernel_rfl) (by kernel_rfl) (by kernel_rfl) (fun _ _ _ h => h) rfl rfl (st_selT [true, true, true, true, true] h) (fun w_ hS => ov_assign _ rfl) ?_
       refine wa_done (by kernel_rfl) ?_
       refine qn_then ?_
       refine wc_cond (by rfl) (fun c77 => ?_) (fun c77 => ?_)
       ·
        have hnv := hnx (by omega)
        refine wc_skip ?_
        refine qn_block_normal ?_
        refine qn_then ?_
        refine wc_seq ?_
        refine wc_region ?_
        refine wl_v rfl rfl (ov_move _ rfl) ?_
        refine wl_v rfl rfl (ov_nilCheck _ rfl) ?_
        refine wl_v rfl rfl (ov_fieldAddr _ ⟨g, 1, none⟩ _ rfl fo60_1 rfl) ?_
        refine wl_v rfl rfl (ov_loadb 2 _ h rfl rfl sh3 rfl) ?_
        refine wl_v rfl rfl (ov_move _ rfl) ?_
        refine wl_v rfl rfl (ov_move _ rfl) ?_
        refine wl_v rfl rfl (ov_bin _ rfl rfl (binR_sub (r := b - a) (Sx.w64 (by omega)))) ?_
        refine wl_v rfl rfl (ov_bin _ rfl rfl (binR_sub (r := ((x).size) - (b - a)) (Sx.w64 (by omega)))) ?_
        refine wl_v rfl rfl (ov_nilCheck _ rfl) ?_
        refine wl_v rfl rfl (ov_fieldAddr _ ⟨g, 1, none⟩ _ rfl fo60_1 rfl) ?_
        refine wl_storeb 2 _ [.slice (A5) (((x).lens).length) (c6), .int .i64 (((x).size) - (b - a)), .bool ((x).open_)] h rfl rfl rfl rfl rfl rfl sh3 rfl rfl (fun _ h => ?_)
        refine wl_nil ?_
        refine qn_then ?_
        refine wc_seq ?_
        refine wc_region ?_
        refine wl_v rfl rfl (ov_move _ rfl) ?_
        refine wl_v rfl rfl (ov_loadbN 1 [.int .i64 ((findI x a).1), .int .i64 ((((findI x (b - 1)).1) - ((findI x a).1)) + 1), .int .i64 (1)] h rfl rfl sh41 rfl) ?_
        refine wl_v rfl rfl (ov_move _ rfl) ?_
        replace h := st_front 3 h
        replace h := st_front 3 h
        replace h := ixB_close ((x).lens) (((x).size) - (b - a)) (((x).open_)) (by first | rfl | simp) h
        refine wl_call _ rfl rfl rfl ent35 (change_calls2 (R := [Sx.row (Kd.int .i64) 3 (A75) (cp76) ([((a - ((spanI x ((findI x a).1)).1)) + ((spanI x ((findI x (b - 1)).1)).2.1)) - b]), Sx.blk b39 [.int .i64 ((findI x a).1), .int .i64 ((((findI x (b - 1)).1) - ((findI x a).1)) + 1), .int .i64 (1)] 41, Sx.blk b1 [.int .i64 (0), .int .i64 (0), .int .i64 (0)] 41] ++ R) g ((⟨(x).lens, ((x).size) - (b - a), ((x).open_)⟩ : IX)) ((findI x a).1) ((((findI x (b - 1)).1) - ((findI x a).1)) + 1) 1 ([((a - ((spanI x ((findI x a).1)).1)) + ((spanI x ((findI x (b - 1)).1)).2.1)) - b]) (A75) (cp76) (([((a - ((spanI x ((findI x a).1)).1)) + ((spanI x ((findI x (b - 1)).1)).2.1)) - b] : List _).length) (by first | with_reducible rfl | simp only [List.length_set, List.length_append] | rfl) (by first | omega | simp; omega) (by first | omega | simp; omega) (by first | omega | simp; omega) (by first | omega | simp; omega) (Sx.row_reads_at (R := [Sx.row (Kd.int .i64) 3 (A75) (cp76) ([((a - ((spanI x ((findI x a).1)).1)) + ((spanI x ((findI x (b - 1)).1)).2.1)) - b]), Sx.blk b39 [.int .i64 ((findI x a).1), .int .i64 ((((findI x (b - 1)).1) - ((findI x a).1)) + 1), .int .i64 (1)] 41, Sx.blk b1 [.int .i64 (0), .int .i64 (0), .int .i64 (0)] 41] ++ R) (j := 0) rfl) h) ?_
        rintro e_ w_ ⟨rfl, h⟩
        refine ⟨_, rfl, ?_⟩
        refine wl_nil ?_
        refine qn_then ?_
        refine wc_seq ?_
        refine wc_region ?_
        refine wl_v rfl rfl (ov_loadbN 2 [.int .i64 ((findI x a).1), .int .i64 ((((findI x (b - 1)).1) - ((findI x a).1)) + 1), .int .i64 (1)] h rfl rfl sh41 rfl) ?_
        refine wl_storebN 3 [.int .i64 ((findI x a).1), .int .i64 ((((findI x (b - 1)).1) - ((findI x a).1)) + 1), .int .i64 (1)] [.int .i64 ((findI x a).1), .int .i64 ((((findI x (b - 1)).1) - ((findI x a).1)) + 1), .int .i64 (1)] h rfl rfl rfl rfl (by simp [Value.oneCell']) sh41 rfl rfl (fun _ h => ?_)
        refine wl_v rfl rfl (ov_assign _ rfl) ?_
        refine wl_nil ?_
        refine qn_then ?_
        refine wc_ret ?_
        have hend_ := h
        have e1_ : oldD x a b = (((findI x (b - 1)).1) - ((findI x a).1)) + 1 := by omega
        have e3_ : newD x a b = [((a - ((spanI x ((findI x a).1)).1)) + ((spanI x ((findI x (b - 1)).1)).2.1)) - b] := by unfold newD; rw [show restD x a b = ((a - ((spanI x ((findI x a).1)).1)) + ((spanI x ((findI x (b - 1)).1)).2.1)) - b by omega, if_pos (by omega)]
        have e4_ : openD x a b = (((x).open_)) := by first | exact hO.1 (by omega) | exact hO.2.1 (by omega) (by omega) | exact hO.2.2.1 (by omega) (by omega) (by omega) | exact hO.2.2.2 (by omega) (by omega) (by omega)
        rw [del_fin (by assumption) c3 hfa.1 e1_ e3_ e4_ rfl]
        replace h := st_selT [true, false, false, false] h
        refine qn_ret [_, _] ⟨⟨_, rfl, Sx.loadVarN (vs := [.int .i64 ((findI x a).1), .int .i64 ((((findI x (b - 1)).1) - ((findI x a).1)) + 1), .int .i64 (1)]) sh41 (Sx.blk_cells (cells := [.int .i64 ((findI x a).1), .int .i64 ((((findI x (b - 1)).1) - ((findI x a).1)) + 1), .int .i64 (1)]) hend_ (i := 3) rfl 0 _ rfl)⟩, rfl, trivial⟩ ?_
        exact ⟨rfl, h⟩
       ·
        refine wc_seq ?_
        refine wc_region ?_
        refine wl_v rfl rfl (ov_move _ rfl) ?_
        refine wl_v rfl rfl (ov_bin _ rfl rfl (binR_eql)) ?_
        refine wl_v rfl rfl (ov_assign _ rfl) ?_
        refine wl_nil ?_
        refine qn_then ?_
        refine wc_cond (by rfl) (fun c78 => ?_) (fun c78 => ?_)
        ·
         exfalso
         have hnx2 := hnx
         omega
        ·
         refine wc_seq ?_
         refine wc_region ?_
         refine wl_v rfl rfl (ov_move _ rfl) ?_
         refine wl_v rfl rfl (ov_move _ rfl) ?_
         refine wl_splitb 150 rfl (fun c79 => ?_) (fun c79 => ?_)
         ·
          exact absurd (c40.symm.trans c79) (by decide)
         ·
          have hon := opN_1 (x := x) (by simpa using c79)
          refine wl_skip rfl rfl ?_
          refine wl_skip rfl rfl ?_
          refine wl_skip rfl rfl ?_
          refine wl_skip rfl rfl ?_
          refine wl_skip rfl rfl ?_
          refine wl_skip rfl rfl ?_
          refine wl_skip rfl rfl ?_
          refine wl_skip rfl rfl ?_
          refine wl_v rfl rfl (ov_pick_false _ rfl rfl) ?_
          refine wl_v rfl rfl (ov_assign _ rfl) ?_
          refine wl_nil ?_
          refine qn_then ?_
          refine wc_cond_false rfl ?_
          refine wc_skip ?_
          refine qn_block_normal ?_
          refine qn_then ?_
          refine wc_seq ?_
          refine wc_region ?_
          refine wl_v rfl rfl (ov_move _ rfl) ?_
          refine wl_v rfl rfl (ov_nilCheck _ rfl) ?_
          refine wl_v rfl rfl (ov_fieldAddr _ ⟨g, 1, none⟩ _ rfl fo60_1 rfl) ?_
          refine wl_v rfl rfl (ov_loadb 2 _ h rfl rfl sh3 rfl) ?_
          refine wl_v rfl rfl (ov_move _ rfl) ?_
          refine wl_v rfl rfl (ov_move _ rfl) ?_
          refine wl_v rfl rfl (ov_bin _ rfl rfl (binR_sub (r := b - a) (Sx.w64 (by omega)))) ?_
          refine wl_v rfl rfl (ov_bin _ rfl rfl (binR_sub (r := ((x).size) - (b - a)) (Sx.w64 (by omega)))) ?_
          refine wl_v rfl rfl (ov_nilCheck _ rfl) ?_
          refine wl_v rfl rfl (ov_fieldAddr _ ⟨g, 1, none⟩ _ rfl fo60_1 rfl) ?_
          refine wl_storeb 2 _ [.slice (A5) (((x).lens).length) (c6), .int .i64 (((x).size) - (b - a)), .bool ((x).open_)] h rfl rfl rfl rfl rfl rfl sh3 rfl rfl (fun _ h => ?_)
          refine wl_nil ?_
          refine qn_then ?_
          refine wc_seq ?_
          refine wc_region ?_
          refine wl_v rfl rfl (ov_move _ rfl) ?_
          refine wl_v rfl rfl (ov_loadbN 1 [.int .i64 ((findI x a).1), .int .i64 ((((findI x (b - 1)).1) - ((findI x a).1)) + 1), .int .i64 (1)] h rfl rfl sh41 rfl) ?_
          refine wl_v rfl rfl (ov_move _ rfl) ?_
          replace h := st_front 3 h
          replace h := st_front 3 h
          replace h := ixB_close ((x).lens) (((x).size) - (b - a)) (((x).open_)) (by first | rfl | simp) h
          refine wl_call _ rfl rfl rfl ent35 (change_calls2 (R := [Sx.row (Kd.int .i64) 3 (A75) (cp76) ([((a - ((spanI x ((findI x a).1)).1)) + ((spanI x ((findI x (b - 1)).1)).2.1)) - b]), Sx.blk b39 [.int .i64 ((findI x a).1), .int .i64 ((((findI x (b - 1)).1) - ((findI x a).1)) + 1), .int .i64 (1)] 41, Sx.blk b1 [.int .i64 (0), .int .i64 (0), .int .i64 (0)] 41] ++ R) g ((⟨(x).lens, ((x).size) - (b - a), ((x).open_)⟩ : IX)) ((findI x a).1) ((((findI x (b - 1)).1) - ((findI x a).1)) + 1) 1 ([((a - ((spanI x ((findI x a).1)).1)) + ((spanI x ((findI x (b - 1)).1)).2.1)) - b]) (A75) (cp76) (([((a - ((spanI x ((findI x a).1)).1)) + ((spanI x ((findI x (b - 1)).1)).2.1)) - b] : List _).length) (by first | with_reducible rfl | simp only [List.length_set, List.length_append] | rfl) (by first | omega | simp; omega) (by first | omega | simp; omega) (by first | omega | simp; omega) (by first | omega | simp; omega) (Sx.row_reads_at (R := [Sx.row (Kd.int .i64) 3 (A75) (cp76) ([((a - ((spanI x ((findI x a).1)).1)) + ((spanI x ((findI x (b - 1)).1)).2.1)) - b]), Sx.blk b39 [.int .i64 ((findI x a).1), .int .i64 ((((findI x (b - 1)).1) - ((findI x a).1)) + 1), .int .i64 (1)] 41, Sx.blk b1 [.int .i64 (0), .int .i64 (0), .int .i64 (0)] 41] ++ R) (j := 0) rfl) h) ?_
          rintro e_ w_ ⟨rfl, h⟩
          refine ⟨_, rfl, ?_⟩
          refine wl_nil ?_
          refine qn_then ?_
          refine wc_seq ?_
          refine wc_region ?_
          refine wl_v rfl rfl (ov_loadbN 2 [.int .i64 ((findI x a).1), .int .i64 ((((findI x (b - 1)).1) - ((findI x a).1)) + 1), .int .i64 (1)] h rfl rfl sh41 rfl) ?_
          refine wl_storebN 3 [.int .i64 ((findI x a).1), .int .i64 ((((findI x (b - 1)).1) - ((findI x a).1)) + 1), .int .i64 (1)] [.int .i64 ((findI x a).1), .int .i64 ((((findI x (b - 1)).1) - ((findI x a).1)) + 1), .int .i64 (1)] h rfl rfl rfl rfl (by simp [Value.oneCell']) sh41 rfl rfl (fun _ h => ?_)
          refine wl_v rfl rfl (ov_assign _ rfl) ?_
          refine wl_nil ?_
          refine qn_then ?_
          refine wc_ret ?_
          have hend_ := h
          have e1_ : oldD x a b = (((findI x (b - 1)).1) - ((findI x a).1)) + 1 := by omega
          have e3_ : newD x a b = [((a - ((spanI x ((findI x a).1)).1)) + ((spanI x ((findI x (b - 1)).1)).2.1)) - b] := by unfold newD; rw [show restD x a b = ((a - ((spanI x ((findI x a).1)).1)) + ((spanI x ((findI x (b - 1)).1)).2.1)) - b by omega, if_pos (by omega)]
          have e4_ : openD x a b = (((x).open_)) := by first | exact hO.1 (by omega) | exact hO.2.1 (by omega) (by omega) | exact hO.2.2.1 (by omega) (by omega) (by omega) | exact hO.2.2.2 (by omega) (by omega) (by omega)
          rw [del_fin (by assumption) c3 hfa.1 e1_ e3_ e4_ rfl]
          replace h := st_selT [true, false, false, false] h
          refine qn_ret [_, _] ⟨⟨_, rfl, Sx.loadVarN (vs := [.int .i64 ((findI x a).1), .int .i64 ((((findI x (b - 1)).1) - ((findI x a).1)) + 1), .int .i64 (1)]) sh41 (Sx.blk_cells (cells := [.int .i64 ((findI x a).1), .int .i64 ((((findI x (b - 1)).1) - ((findI x a).1)) + 1), .int .i64 (1)]) hend_ (i := 3) rfl 0 _ rfl)⟩, rfl, trivial⟩ ?_
          exact ⟨rfl, h⟩
      ·
       refine wc_skip ?_
       refine qn_then ?_
       refine wc_seq ?_
       refine wc_block ?_
       refine wc_seq ?_
       refine wc_draw (fun w => Sx.St w0 F0 ([Sx.blk b39 [.int .i64 ((findI x a).1), .int .i64 ((((findI x (b - 1)).1) - ((findI x a).1)) + 1), .int .i64 (0)] 41, Sx.blk g [.slice (A5) (((x).lens).length) (c6), .int .i64 ((x).size), .bool ((x).open_)] 60, Sx.row (Kd.int .i64) 3 (A5) (c6) ((x).lens), Sx.blk b1 [.int .i64 (0), .int .i64 (0), .int .i64 (0)] 41] ++ R) w) (by kernel_rfl) ?_
       replace h := st_drew h
       refine wa_take 0 rfl (by kernel_rfl) (by kernel_rfl) (by kernel_rfl) (fun _ _ _ h => h) rfl rfl (st_selT [true, true, true, true] h) (fun w_ hS => ov_fieldAddr _ ⟨b39, 0, none⟩ _ rfl fo41_0 rfl) ?_
       refine wa_take 1 rfl (by kernel_rfl) (by kernel_rfl) (by kernel_rfl) (fun _ _ _ h => h) rfl rfl (st_selT [true, true, true, true] h) (fun w_ hS => ov_loadb 0 _ hS rfl rfl sh3 rfl) ?_
       refine wa_take 2 rfl (by kernel_rfl) (by kernel_rfl) (by kernel_rfl) (fun _ _ _ h => h) rfl rfl (st_selT [true, true, true, true] h) (fun w_ hS => ov_fieldAddr _ ⟨b39, 1, none⟩ _ rfl fo41_1 rfl) ?_
       refine wa_take 3 rfl (by kernel_rfl) (by kernel_rfl) (by kernel_rfl) (fun _ _ _ h => h) rfl rfl (st_selT [true, true, true, true] h) (fun w_ hS => ov_loadb 0 _ hS rfl rfl sh3 rfl) ?_
       refine wa_take 4 rfl (by kernel_rfl) (by kernel_rfl) (by kernel_rfl) (fun _ _ _ h => h) rfl rfl (st_selT [true, true, true, true] h) (fun w_ hS => ov_bin _ rfl rfl (binR_add (r := ((findI x a).1) + ((((findI x (b - 1)).1) - ((findI x a).1)) + 1)) (Sx.w64 (by omega)))) ?_
       refine wa_take 5 rfl (by kernel_rfl) (by kernel_rfl) (by kernel_rfl) (fun _ _ _ h => h) rfl rfl (st_selT [true, true, true, true] h) (fun w_ hS => ov_move _ rfl) ?_
       refine wa_take 6 rfl (by kernel_rfl) (by kernel_rfl) (by kernel_rfl) (fun _ _ _ h => h) rfl rfl (st_selT [true, true, true, true] h) (fun w_ hS => ov_nilCheck _ rfl) ?_
       refine wa_take 7 rfl (by kernel_rfl) (by kernel_rfl) (by kernel_rfl) (fun _ _ _ h => h) rfl rfl (st_selT [true, true, true, true] h) (fun w_ hS => ov_fieldAddr _ ⟨g, 0, none⟩ _ rfl fo60_0 rfl) ?_
       refine wa_take 8 rfl (by kernel_rfl) (by kernel_rfl) (by kernel_rfl) (fun _ _ _ h => h) rfl rfl (st_selT [true, true, true, true] h) (fun w_ hS => ov_loadb 1 _ hS rfl rfl sh23 rfl) ?_
       refine wa_take 9 rfl (by kernel_rfl) (by kernel_rfl) (by kernel_rfl) (fun _ _ _ h => h) rfl rfl (st_selT [true, true, true, true] h) (fun w_ hS => ov_len _ _ _ _ _ rfl es23) ?_
       refine wa_take 10 rfl (by kernel_rfl) (by kernel_rfl) (by kernel_rfl) (fun _ _ _ h => h) rfl rfl (st_selT [true, true, true, true] h) (fun w_ hS => ov_bin _ rfl rfl (binR_lss)) ?_
       refine wa_take 11 rfl (by kernel_rfl) (by kernel_rfl) (by kernel_rfl) (fun _ _ _ h => h) rfl rfl (st_selT [true, true, true, true] h) (fun w_ hS => ov_assign _ rfl) ?_
       refine wa_done (by kernel_rfl) ?_
       refine qn_then ?_
       refine wc_cond (by rfl) (fun c80 => ?_) (fun c80 => ?_)
       ·
        have hnv := hnx (by omega)
        refine wc_skip ?_
        refine qn_block_normal ?_
        refine qn_then ?_
        refine wc_seq ?_
        refine wc_region ?_
        refine wl_v rfl rfl (ov_move _ rfl) ?_
        refine wl_v rfl rfl (ov_nilCheck _ rfl) ?_
        refine wl_v rfl rfl (ov_fieldAddr _ ⟨g, 1, none⟩ _ rfl fo60_1 rfl) ?_
        refine wl_v rfl rfl (ov_loadb 1 _ h rfl rfl sh3 rfl) ?_
        refine wl_v rfl rfl (ov_move _ rfl) ?_
        refine wl_v rfl rfl (ov_move _ rfl) ?_
        refine wl_v rfl rfl (ov_bin _ rfl rfl (binR_sub (r := b - a) (Sx.w64 (by omega)))) ?_
        refine wl_v rfl rfl (ov_bin _ rfl rfl (binR_sub (r := ((x).size) - (b - a)) (Sx.w64 (by omega)))) ?_
        refine wl_v rfl rfl (ov_nilCheck _ rfl) ?_
        refine wl_v rfl rfl (ov_fieldAddr _ ⟨g, 1, none⟩ _ rfl fo60_1 rfl) ?_
        refine wl_storeb 1 _ [.slice (A5) (((x).lens).length) (c6), .int .i64 (((x).size) - (b - a)), .bool ((x).open_)] h rfl rfl rfl rfl rfl rfl sh3 rfl rfl (fun _ h => ?_)
        refine wl_nil ?_
        refine qn_then ?_
        refine wc_seq ?_
        refine wc_region ?_
        refine wl_v rfl rfl (ov_move _ rfl) ?_
        refine wl_v rfl rfl (ov_loadbN 0 [.int .i64 ((findI x a).1), .int .i64 ((((findI x (b - 1)).1) - ((findI x a).1)) + 1), .int .i64 (0)] h rfl rfl sh41 rfl) ?_
        refine wl_v rfl rfl (ov_move _ rfl) ?_
        replace h := st_front 2 h
        replace h := st_front 2 h
        replace h := ixB_close ((x).lens) (((x).size) - (b - a)) (((x).open_)) (by first | rfl | simp) h
        refine wl_call _ rfl rfl rfl ent35 (change_calls2 (R := [Sx.blk b39 [.int .i64 ((findI x a).1), .int .i64 ((((findI x (b - 1)).1) - ((findI x a).1)) + 1), .int .i64 (0)] 41, Sx.blk b1 [.int .i64 (0), .int .i64 (0), .int .i64 (0)] 41] ++ R) g ((⟨(x).lens, ((x).size) - (b - a), ((x).open_)⟩ : IX)) ((findI x a).1) ((((findI x (b - 1)).1) - ((findI x a).1)) + 1) 0 ([]) (none) (0) (0) (by first | with_reducible rfl | simp only [List.length_set, List.length_append] | rfl) (by first | omega | simp; omega) (by first | omega | simp; omega) (by first | omega | simp; omega) (by first | omega | simp; omega) (fun _ _ _ => Kd.C_nil _ _) h) ?_
        rintro e_ w_ ⟨rfl, h⟩
        refine ⟨_, rfl, ?_⟩
        refine wl_nil ?_
        refine qn_then ?_
        refine wc_seq ?_
        refine wc_region ?_
        refine wl_v rfl rfl (ov_loadbN 1 [.int .i64 ((findI x a).1), .int .i64 ((((findI x (b - 1)).1) - ((findI x a).1)) + 1), .int .i64 (0)] h rfl rfl sh41 rfl) ?_
        refine wl_storebN 2 [.int .i64 ((findI x a).1), .int .i64 ((((findI x (b - 1)).1) - ((findI x a).1)) + 1), .int .i64 (0)] [.int .i64 ((findI x a).1), .int .i64 ((((findI x (b - 1)).1) - ((findI x a).1)) + 1), .int .i64 (0)] h rfl rfl rfl rfl (by simp [Value.oneCell']) sh41 rfl rfl (fun _ h => ?_)
        refine wl_v rfl rfl (ov_assign _ rfl) ?_
        refine wl_nil ?_
        refine qn_then ?_
        refine wc_ret ?_
        have hend_ := h
        have e1_ : oldD x a b = (((findI x (b - 1)).1) - ((findI x a).1)) + 1 := by omega
        have e3_ : newD x a b = [] := by unfold newD; rw [if_neg (by omega)]
        have e4_ : openD x a b = (((x).open_)) := by first | exact hO.1 (by omega) | exact hO.2.1 (by omega) (by omega) | exact hO.2.2.1 (by omega) (by omega) (by omega) | exact hO.2.2.2 (by omega) (by omega) (by omega)
        rw [del_fin (by assumption) c3 hfa.1 e1_ e3_ e4_ rfl]
        replace h := st_selT [true, false, false] h
        refine qn_ret [_, _] ⟨⟨_, rfl, Sx.loadVarN (vs := [.int .i64 ((findI x a).1), .int .i64 ((((findI x (b - 1)).1) - ((findI x a).1)) + 1), .int .i64 (0)]) sh41 (Sx.blk_cells (cells := [.int .i64 ((findI x a).1), .int .i64 ((((findI x (b - 1)).1) - ((findI x a).1)) + 1), .int .i64 (0)]) hend_ (i := 2) rfl 0 _ rfl)⟩, rfl, trivial⟩ ?_
        exact ⟨rfl, h⟩
       ·
        refine wc_seq ?_
        refine wc_region ?_
        refine wl_v rfl rfl (ov_move _ rfl) ?_
        refine wl_v rfl rfl (ov_bin _ rfl rfl (binR_eql)) ?_
        refine wl_v rfl rfl (ov_assign _ rfl) ?_
        refine wl_nil ?_
        refine qn_then ?_
        refine wc_cond (by rfl) (fun c81 => ?_) (fun c81 => ?_)
        ·
         refine wc_region ?_
         refine wl_v rfl rfl (ov_move _ rfl) ?_
         refine wl_v rfl rfl (ov_nilCheck _ rfl) ?_
         refine wl_v rfl rfl (ov_fieldAddr _ ⟨g, 2, none⟩ _ rfl fo60_2 rfl) ?_
         refine wl_storeb 1 _ [.slice (A5) (((x).lens).length) (c6), .int .i64 ((x).size), .bool false] h rfl rfl rfl rfl rfl rfl sh4 rfl rfl (fun _ h => ?_)
         refine wl_nil ?_
         refine qn_block_normal ?_
         refine qn_then ?_
         refine wc_seq ?_
         refine wc_region ?_
         refine wl_v rfl rfl (ov_move _ rfl) ?_
         refine wl_v rfl rfl (ov_nilCheck _ rfl) ?_
         refine wl_v rfl rfl (ov_fieldAddr _ ⟨g, 1, none⟩ _ rfl fo60_1 rfl) ?_
         refine wl_v rfl rfl (ov_loadb 1 _ h rfl rfl sh3 rfl) ?_
         refine wl_v rfl rfl (ov_move _ rfl) ?_
         refine wl_v rfl rfl (ov_move _ rfl) ?_
         refine wl_v rfl rfl (ov_bin _ rfl rfl (binR_sub (r := b - a) (Sx.w64 (by omega)))) ?_
         refine wl_v rfl rfl (ov_bin _ rfl rfl (binR_sub (r := ((x).size) - (b - a)) (Sx.w64 (by omega)))) ?_
         refine wl_v rfl rfl (ov_nilCheck _ rfl) ?_
         refine wl_v rfl rfl (ov_fieldAddr _ ⟨g, 1, none⟩ _ rfl fo60_1 rfl) ?_
         refine wl_storeb 1 _ [.slice (A5) (((x).lens).length) (c6), .int .i64 (((x).size) - (b - a)), .bool false] h rfl rfl rfl rfl rfl rfl sh3 rfl rfl (fun _ h => ?_)
         refine wl_nil ?_
         refine qn_then ?_
         refine wc_seq ?_
         refine wc_region ?_
         refine wl_v rfl rfl (ov_move _ rfl) ?_
         refine wl_v rfl rfl (ov_loadbN 0 [.int .i64 ((findI x a).1), .int .i64 ((((findI x (b - 1)).1) - ((findI x a).1)) + 1), .int .i64 (0)] h rfl rfl sh41 rfl) ?_
         refine wl_v rfl rfl (ov_move _ rfl) ?_
         replace h := st_front 2 h
         replace h := st_front 2 h
         replace h := ixB_close ((x).lens) (((x).size) - (b - a)) (false) (by first | rfl | simp) h
         refine wl_call _ rfl rfl rfl ent35 (change_calls2 (R := [Sx.blk b39 [.int .i64 ((findI x a).1), .int .i64 ((((findI x (b - 1)).1) - ((findI x a).1)) + 1), .int .i64 (0)] 41, Sx.blk b1 [.int .i64 (0), .int .i64 (0), .int .i64 (0)] 41] ++ R) g ((⟨(x).lens, ((x).size) - (b - a), false⟩ : IX)) ((findI x a).1) ((((findI x (b - 1)).1) - ((findI x a).1)) + 1) 0 ([]) (none) (0) (0) (by first | with_reducible rfl | simp only [List.length_set, List.length_append] | rfl) (by first | omega | simp; omega) (by first | omega | simp; omega) (by first | omega | simp; omega) (by first | omega | simp; omega) (fun _ _ _ => Kd.C_nil _ _) h) ?_
         rintro e_ w_ ⟨rfl, h⟩
         refine ⟨_, rfl, ?_⟩
         refine wl_nil ?_
         refine qn_then ?_
         refine wc_seq ?_
         refine wc_region ?_
         refine wl_v rfl rfl (ov_loadbN 1 [.int .i64 ((findI x a).1), .int .i64 ((((findI x (b - 1)).1) - ((findI x a).1)) + 1), .int .i64 (0)] h rfl rfl sh41 rfl) ?_
         refine wl_storebN 2 [.int .i64 ((findI x a).1), .int .i64 ((((findI x (b - 1)).1) - ((findI x a).1)) + 1), .int .i64 (0)] [.int .i64 ((findI x a).1), .int .i64 ((((findI x (b - 1)).1) - ((findI x a).1)) + 1), .int .i64 (0)] h rfl rfl rfl rfl (by simp [Value.oneCell']) sh41 rfl rfl (fun _ h => ?_)
         refine wl_v rfl rfl (ov_assign _ rfl) ?_
         refine wl_nil ?_
         refine qn_then ?_
         refine wc_ret ?_
         have hend_ := h
         have e1_ : oldD x a b = (((findI x (b - 1)).1) - ((findI x a).1)) + 1 := by omega
         have e3_ : newD x a b = [] := by unfold newD; rw [if_neg (by omega)]
         have e4_ : openD x a b = (false) := by first | exact hO.1 (by omega) | exact hO.2.1 (by omega) (by omega) | exact hO.2.2.1 (by omega) (by omega) (by omega) | exact hO.2.2.2 (by omega) (by omega) (by omega)
         rw [del_fin (by assumption) c3 hfa.1 e1_ e3_ e4_ rfl]
         replace h := st_selT [true, false, false] h
         refine qn_ret [_, _] ⟨⟨_, rfl, Sx.loadVarN (vs := [.int .i64 ((findI x a).1), .int .i64 ((((findI x (b - 1)).1) - ((findI x a).1)) + 1), .int .i64 (0)]) sh41 (Sx.blk_cells (cells := [.int .i64 ((findI x a).1), .int .i64 ((((findI x (b - 1)).1) - ((findI x a).1)) + 1), .int .i64 (0)]) hend_ (i := 2) rfl 0 _ rfl)⟩, rfl, trivial⟩ ?_
         exact ⟨rfl, h⟩
        ·
         exfalso
         have hnx2 := hnx
         omega
   ·
    refine wl_skip rfl rfl ?_
    refine wl_skip rfl rfl ?_
    refine wl_skip rfl rfl ?_
    refine wl_skip rfl rfl ?_
    refine wl_skip rfl rfl ?_
    refine wl_skip rfl rfl ?_
    refine wl_skip rfl rfl ?_
    refine wl_skip rfl rfl ?_
    refine wl_skip rfl rfl ?_
    refine wl_skip rfl rfl ?_
    refine wl_skip rfl rfl ?_
    refine wl_skip rfl rfl ?_
    refine wl_skip rfl rfl ?_
    refine wl_skip rfl rfl ?_
    refine wl_skip rfl rfl ?_
    refine wl_v rfl rfl (ov_pick_false _ rfl rfl) ?_
    refine wl_v rfl rfl (ov_assign _ rfl) ?_
    refine wl_nil ?_
    refine qn_then ?_
    refine wc_seq ?_
    refine wc_region ?_
    refine wl_v rfl rfl (ov_move _ rfl) ?_
    refine wl_v rfl rfl (ov_move _ rfl) ?_
    refine wl_v rfl rfl (ov_move _ rfl) ?_
    refine wl_v rfl rfl (ov_bin _ rfl rfl (binR_sub (r := ((findI x (b - 1)).1) - ((findI x a).1)) (Sx.w64 (by omega)))) ?_
    refine wl_v rfl rfl (ov_bin _ rfl rfl (binR_add (r := (((findI x (b - 1)).1) - ((findI x a).1)) + 1) (Sx.w64 (by omega)))) ?_
    refine wl_v rfl rfl (ov_build [(0, .int .i64 ((findI x a).1)), (1, .int .i64 ((((findI x (b - 1)).1) - ((findI x a).1)) + 1))] [.int .i64 ((findI x a).1), .int .i64 ((((findI x (b - 1)).1) - ((findI x a).1)) + 1), .int .i64 (0)] rfl rfl (by kernel_rfl)) ?_
    refine wl_alloc _ h rfl rfl zo41 (fun b82 _ h => ?_)
    replace h : Sx.St _ _ (Sx.blk b82 [.int .i64 (0), .int .i64 (0), .int .i64 (0)] 41 :: _) _ := h
    refine wl_storebN 0 [.int .i64 ((findI x a).1), .int .i64 ((((findI x (b - 1)).1) - ((findI x a).1)) + 1), .int .i64 (0)] [.int .i64 ((findI x a).1), .int .i64 ((((findI x (b - 1)).1) - ((findI x a).1)) + 1), .int .i64 (0)] h rfl rfl rfl rfl (by simp [Value.oneCell']) sh41 rfl rfl (fun _ h => ?_)
    refine wl_nil ?_
    refine qn_then ?_
    refine wc_seq ?_
    refine wc_region ?_
    refine wl_v rfl rfl (ov_move _ rfl) ?_
    refine wl_v rfl rfl (ov_move _ rfl) ?_
    refine wl_v rfl rfl (ov_bin _ rfl rfl (binR_sub (r := a - ((spanI x ((findI x a).1)).1)) (Sx.w64 (by omega)))) ?_
    refine wl_v rfl rfl (ov_move _ rfl) ?_
    refine wl_v rfl rfl (ov_bin _ rfl rfl (binR_add (r := (a - ((spanI x ((findI x a).1)).1)) + ((spanI x ((findI x (b - 1)).1)).2.1)) (Sx.w64 (by omega)))) ?_
    refine wl_v rfl rfl (ov_move _ rfl) ?_
    refine wl_v rfl rfl (ov_bin _ rfl rfl (binR_sub (r := ((a - ((spanI x ((findI x a).1)).1)) + ((spanI x ((findI x (b - 1)).1)).2.1)) - b) (Sx.w64 (by omega)))) ?_
    refine wl_v rfl rfl (ov_assign _ rfl) ?_
    refine wl_nil ?_
    refine qn_then ?_
    refine wc_seq ?_
    refine wc_seq ?_
    refine wc_region ?_
    refine wl_v rfl rfl (ov_move _ rfl) ?_
    refine wl_v rfl rfl (ov_move _ rfl) ?_
    refine wl_skip rfl rfl ?_
    refine wl_skip rfl rfl ?_
    refine wl_skip rfl rfl ?_
    refine wl_v rfl rfl (ov_pick_false _ rfl rfl) ?_
    refine wl_v rfl rfl (ov_move _ rfl) ?_
    refine wl_skip rfl rfl ?_
    refine wl_skip rfl rfl ?_
    refine wl_skip rfl rfl ?_
    refine wl_skip rfl rfl ?_
    refine wl_skip rfl rfl ?_
    refine wl_skip rfl rfl ?_
    refine wl_skip rfl rfl ?_
    refine wl_skip rfl rfl ?_
    refine wl_v rfl rfl (ov_pick_false _ rfl rfl) ?_
    refine wl_nil ?_
    refine qn_then ?_
    refine wc_cond_false rfl ?_
    refine wc_skip ?_
    refine qn_then ?_
    refine wc_seq ?_
    refine wc_region ?_
    refine wl_v rfl rfl (ov_assign _ rfl) ?_
    refine wl_nil ?_
    refine qn_then ?_
    refine wc_seq ?_
    refine wc_seq ?_
    refine wc_region ?_
    refine wl_v rfl rfl (ov_move _ rfl) ?_
    refine wl_v rfl rfl (ov_bin _ rfl rfl (binR_gtr)) ?_
    refine wl_nil ?_
    refine qn_then ?_
    refine wc_cond (by rfl) (fun c83 => ?_) (fun c83 => ?_)
    ·
     refine wc_seq ?_
     refine wc_region ?_
     refine wl_v rfl rfl (ov_move _ rfl) ?_
     refine wl_lit (d := (Kd.int .i64)) [(0, .int .i64 (((a - ((spanI x ((findI x a).1)).1)) + ((spanI x ((findI x (b - 1)).1)).2.1)) - b))] _ [.int .i64 (((a - ((spanI x ((findI x a).1)).1)) + ((spanI x ((findI x (b - 1)).1)).2.1)) - b)] ([((a - ((spanI x ((findI x a).1)).1)) + ((spanI x ((findI x (b - 1)).1)).2.1)) - b]) h rfl rfl rfl rfl Try.underlying23 infb3 rfl (by decide) (by kernel_rfl) rfl (fun _ _ _ => ((Reps.none _ _).snoc ((Sx.mkInt .i64 (((a - ((spanI x ((findI x a).1)).1)) + ((spanI x ((findI x (b - 1)).1)).2.1)) - b))) rfl)) (fun A84 cp85 _ h => ?_)
     refine wl_v rfl rfl (ov_assign _ rfl) ?_
     refine wl_nil ?_
     refine qn_then ?_
     refine wc_region ?_
     refine wl_v rfl rfl (ov_fieldAddr _ ⟨b82, 2, none⟩ _ rfl fo41_2 rfl) ?_
     refine wl_storeb 1 _ [.int .i64 ((findI x a).1), .int .i64 ((((findI x (b - 1)).1) - ((findI x a).1)) + 1), .int .i64 (1)] h rfl rfl rfl rfl rfl rfl sh3 rfl rfl (fun _ h => ?_)
     refine wl_nil ?_
     refine qn_then ?_
     refine wc_seq ?_
     refine wc_block ?_
     refine wc_seq ?_
     replace h := st_front 2 h
     obtain ⟨A86, c87, h⟩ := ixB_open h
     refine wc_draw (fun w => Sx.St w0 F0 ([Sx.blk g [.slice (A86) (((x).lens).length) (c87), .int .i64 ((x).size), .bool ((x).open_)] 60, Sx.row (Kd.int .i64) 3 (A86) (c87) ((x).lens), Sx.row (Kd.int .i64) 3 (A84) (cp85) ([((a - ((spanI x ((findI x a).1)).1)) + ((spanI x ((findI x (b - 1)).1)).2.1)) - b]), Sx.blk b82 [.int .i64 ((findI x a).1), .int .i64 ((((findI x (b - 1)).1) - ((findI x a).1)) + 1), .int .i64 (1)] 41, Sx.blk b1 [.int .i64 (0), .int .i64 (0), .int .i64 (0)] 41] ++ R) w) (by kernel_rfl) ?_
     replace h := st_drew h
     refine wa_take 0 rfl (by kernel_rfl) (by kernel_rfl) (by kernel_rfl) (fun _ _ _ h => h) rfl rfl (st_selT [true, true, true, true, true] h) (fun w_ hS => ov_fieldAddr _ ⟨b82, 0, none⟩ _ rfl fo41_0 rfl) ?_
     refine wa_take 1 rfl (by kernel_rfl) (by kernel_rfl) (by kernel_rfl) (fun _ _ _ h => h) rfl rfl (st_selT [true, true, true, true, true] h) (fun w_ hS => ov_loadb 3 _ hS rfl rfl sh3 rfl) ?_
     refine wa_take 2 rfl (by kernel_rfl) (by kernel_rfl) (by kernel_rfl) (fun _ _ _ h => h) rfl rfl (st_selT [true, true, true, true, true] h) (fun w_ hS => ov_fieldAddr _ ⟨b82, 1, none⟩ _ rfl fo41_1 rfl) ?_
     refine wa_take 3 rfl (by kernel_rfl) (by kernel_rfl) (by kernel_rfl) (fun _ _ _ h => h) rfl rfl (st_selT [true, true, true, true, true] h) (fun w_ hS => ov_loadb 3 _ hS rfl rfl sh3 rfl) ?_
     refine wa_take 4 rfl (by kernel_rfl) (by kernel_rfl) (by kernel_rfl) (fun _ _ _ h => h) rfl rfl (st_selT [true, true, true, true, true] h) (fun w_ hS => ov_bin _ rfl rfl (binR_add (r := ((findI x a).1) + ((((findI x (b - 1)).1) - ((findI x a).1)) + 1)) (Sx.w64 (by omega)))) ?_
     refine wa_take 5 rfl (by kernel_rfl) (by kernel_rfl) (by kernel_rfl) (fun _ _ _ h => h) rfl rfl (st_selT [true, true, true, true, true] h) (fun w_ hS => ov_move _ rfl) ?_
     refine wa_take 6 rfl (by kernel_rfl) (by kernel_rfl) (by kernel_rfl) (fun _ _ _ h => h) rfl rfl (st_selT [true, true, true, true, true] h) (fun w_ hS => ov_nilCheck _ rfl) ?_
     refine wa_take 7 rfl (by kernel_rfl) (by kernel_rfl) (by kernel_rfl) (fun _ _ _ h => h) rfl rfl (st_selT [true, true, true, true, true] h) (fun w_ hS => ov_fieldAddr _ ⟨g, 0, none⟩ _ rfl fo60_0 rfl) ?_
     refine wa_take 8 rfl (by kernel_rfl) (by kernel_rfl) (by kernel_rfl) (fun _ _ _ h => h) rfl rfl (st_selT [true, true, true, true, true] h) (fun w_ hS => ov_loadb 0 _ hS rfl rfl sh23 rfl) ?_
     refine wa_take 9 rfl (by kernel_rfl) (by kernel_rfl) (by kernel_rfl) (fun _ _ _ h => h) rfl rfl (st_selT [true, true, true, true, true] h) (fun w_ hS => ov_len _ _ _ _ _ rfl es23) ?_
     refine wa_take 10 rfl (by kernel_rfl) (by kernel_rfl) (by kernel_rfl) (fun _ _ _ h => h) rfl rfl (st_selT [true, true, true, true, true] h) (fun w_ hS => ov_bin _ rfl rfl (binR_lss)) ?_
     refine wa_take 11 rfl (by kernel_rfl) (by kernel_rfl) (by kernel_rfl) (fun _ _ _ h => h) rfl rfl (st_selT [true, true, true, true, true] h) (fun w_ hS => ov_assign _ rfl) ?_
     refine wa_done (by kernel_rfl) ?_
     refine qn_then ?_
     refine wc_cond (by rfl) (fun c88 => ?_) (fun c88 => ?_)
     ·
      have hnv := hnx (by omega)
      refine wc_skip ?_
      refine qn_block_normal ?_
      refine qn_then ?_
      refine wc_seq ?_
      refine wc_region ?_
      refine wl_v rfl rfl (ov_move _ rfl) ?_
      refine wl_v rfl rfl (ov_nilCheck _ rfl) ?_
      refine wl_v rfl rfl (ov_fieldAddr _ ⟨g, 1, none⟩ _ rfl fo60_1 rfl) ?_
      refine wl_v rfl rfl (ov_loadb 0 _ h rfl rfl sh3 rfl) ?_
      refine wl_v rfl rfl (ov_move _ rfl) ?_
      refine wl_v rfl rfl (ov_move _ rfl) ?_
      refine wl_v rfl rfl (ov_bin _ rfl rfl (binR_sub (r := b - a) (Sx.w64 (by omega)))) ?_
      refine wl_v rfl rfl (ov_bin _ rfl rfl (binR_sub (r := ((x).size) - (b - a)) (Sx.w64 (by omega)))) ?_
      refine wl_v rfl rfl (ov_nilCheck _ rfl) ?_
      refine wl_v rfl rfl (ov_fieldAddr _ ⟨g, 1, none⟩ _ rfl fo60_1 rfl) ?_
      refine wl_storeb 0 _ [.slice (A86) (((x).lens).length) (c87), .int .i64 (((x).size) - (b - a)), .bool ((x).open_)] h rfl rfl rfl rfl rfl rfl sh3 rfl rfl (fun _ h => ?_)
      refine wl_nil ?_
      refine qn_then ?_
      refine wc_seq ?_
      refine wc_region ?_
      refine wl_v rfl rfl (ov_move _ rfl) ?_
      refine wl_v rfl rfl (ov_loadbN 3 [.int .i64 ((findI x a).1), .int .i64 ((((findI x (b - 1)).1) - ((findI x a).1)) + 1), .int .i64 (1)] h rfl rfl sh41 rfl) ?_
      refine wl_v rfl rfl (ov_move _ rfl) ?_
      replace h := st_front 1 h
      replace h := st_front 1 h
      replace h := ixB_close ((x).lens) (((x).size) - (b - a)) (((x).open_)) (by first | rfl | simp) h
      refine wl_call _ rfl rfl rfl ent35 (change_calls2 (R := [Sx.row (Kd.int .i64) 3 (A84) (cp85) ([((a - ((spanI x ((findI x a).1)).1)) + ((spanI x ((findI x (b - 1)).1)).2.1)) - b]), Sx.blk b82 [.int .i64 ((findI x a).1), .int .i64 ((((findI x (b - 1)).1) - ((findI x a).1)) + 1), .int .i64 (1)] 41, Sx.blk b1 [.int .i64 (0), .int .i64 (0), .int .i64 (0)] 41] ++ R) g ((⟨(x).lens, ((x).size) - (b - a), ((x).open_)⟩ : IX)) ((findI x a).1) ((((findI x (b - 1)).1) - ((findI x a).1)) + 1) 1 ([((a - ((spanI x ((findI x a).1)).1)) + ((spanI x ((findI x (b - 1)).1)).2.1)) - b]) (A84) (cp85) (([((a - ((spanI x ((findI x a).1)).1)) + ((spanI x ((findI x (b - 1)).1)).2.1)) - b] : List _).length) (by first | with_reducible rfl | simp only [List.length_set, List.length_append] | rfl) (by first | omega | simp; omega) (by first | omega | simp; omega) (by first | omega | simp; omega) (by first | omega | simp; omega) (Sx.row_reads_at (R := [Sx.row (Kd.int .i64) 3 (A84) (cp85) ([((a - ((spanI x ((findI x a).1)).1)) + ((spanI x ((findI x (b - 1)).1)).2.1)) - b]), Sx.blk b82 [.int .i64 ((findI x a).1), .int .i64 ((((findI x (b - 1)).1) - ((findI x a).1)) + 1), .int .i64 (1)] 41, Sx.blk b1 [.int .i64 (0), .int .i64 (0), .int .i64 (0)] 41] ++ R) (j := 0) rfl) h) ?_
      rintro e_ w_ ⟨rfl, h⟩
      refine ⟨_, rfl, ?_⟩
      refine wl_nil ?_
      refine qn_then ?_
      refine wc_seq ?_
      refine wc_region ?_
      refine wl_v rfl rfl (ov_loadbN 2 [.int .i64 ((findI x a).1), .int .i64 ((((findI x (b - 1)).1) - ((findI x a).1)) + 1), .int .i64 (1)] h rfl rfl sh41 rfl) ?_
      refine wl_storebN 3 [.int .i64 ((findI x a).1), .int .i64 ((((findI x (b - 1)).1) - ((findI x a).1)) + 1), .int .i64 (1)] [.int .i64 ((findI x a).1), .int .i64 ((((findI x (b - 1)).1) - ((findI x a).1)) + 1), .int .i64 (1)] h rfl rfl rfl rfl (by simp [Value.oneCell']) sh41 rfl rfl (fun _ h => ?_)
      refine wl_v rfl rfl (ov_assign _ rfl) ?_
      refine wl_nil ?_
      refine qn_then ?_
      refine wc_ret ?_
      have hend_ := h
      have e1_ : oldD x a b = (((findI x (b - 1)).1) - ((findI x a).1)) + 1 := by omega
      have e3_ : newD x a b = [((a - ((spanI x ((findI x a).1)).1)) + ((spanI x ((findI x (b - 1)).1)).2.1)) - b] := by unfold newD; rw [show restD x a b = ((a - ((spanI x ((findI x a).1)).1)) + ((spanI x ((findI x (b - 1)).1)).2.1)) - b by omega, if_pos (by omega)]
      have e4_ : openD x a b = (((x).open_)) := by first | exact hO.1 (by omega) | exact hO.2.1 (by omega) (by omega) | exact hO.2.2.1 (by omega) (by omega) (by omega) | exact hO.2.2.2 (by omega) (by omega) (by omega)
      rw [del_fin (by assumption) c3 hfa.1 e1_ e3_ e4_ rfl]
      replace h := st_selT [true, false, false, false] h
      refine qn_ret [_, _] ⟨⟨_, rfl, Sx.loadVarN (vs := [.int .i64 ((findI x a).1), .int .i64 ((((findI x (b - 1)).1) - ((findI x a).1)) + 1), .int .i64 (1)]) sh41 (Sx.blk_cells (cells := [.int .i64 ((findI x a).1), .int .i64 ((((findI x (b - 1)).1) - ((findI x a).1)) + 1), .int .i64 (1)]) hend_ (i := 3) rfl 0 _ rfl)⟩, rfl, trivial⟩ ?_
      exact ⟨rfl, h⟩
     ·
      refine wc_seq ?_
      refine wc_region ?_
      refine wl_v rfl rfl (ov_move _ rfl) ?_
      refine wl_v rfl rfl (ov_bin _ rfl rfl (binR_eql)) ?_
      refine wl_v rfl rfl (ov_assign _ rfl) ?_
      refine wl_nil ?_
      refine qn_then ?_
      refine wc_cond (by rfl) (fun c89 => ?_) (fun c89 => ?_)
      ·
       exfalso
       have hnx2 := hnx
       omega
      ·
       refine wc_seq ?_
       refine wc_region ?_
       refine wl_v rfl rfl (ov_move _ rfl) ?_
       refine wl_v rfl rfl (ov_move _ rfl) ?_
       refine wl_skip rfl rfl ?_
       refine wl_skip rfl rfl ?_
       refine wl_skip rfl rfl ?_
       refine wl_skip rfl rfl ?_
       refine wl_skip rfl rfl ?_
       refine wl_skip rfl rfl ?_
       refine wl_skip rfl rfl ?_
       refine wl_skip rfl rfl ?_
       refine wl_v rfl rfl (ov_pick_false _ rfl rfl) ?_
       refine wl_v rfl rfl (ov_assign _ rfl) ?_
       refine wl_nil ?_
       refine qn_then ?_
       refine wc_cond_false rfl ?_
       refine wc_skip ?_
       refine qn_block_normal ?_
       refine qn_then ?_
       refine wc_seq ?_
       refine wc_region ?_
       refine wl_v rfl rfl (ov_move _ rfl) ?_
       refine wl_v rfl rfl (ov_nilCheck _ rfl) ?_
       refine wl_v rfl rfl (ov_fieldAddr _ ⟨g, 1, none⟩ _ rfl fo60_1 rfl) ?_
       refine wl_v rfl rfl (ov_loadb 0 _ h rfl rfl sh3 rfl) ?_
       refine wl_v rfl rfl (ov_move _ rfl) ?_
       refine wl_v rfl rfl (ov_move _ rfl) ?_
       refine wl_v rfl rfl (ov_bin _ rfl rfl (binR_sub (r := b - a) (Sx.w64 (by omega)))) ?_
       refine wl_v rfl rfl (ov_bin _ rfl rfl (binR_sub (r := ((x).size) - (b - a)) (Sx.w64 (by omega)))) ?_
       refine wl_v rfl rfl (ov_nilCheck _ rfl) ?_
       refine wl_v rfl rfl (ov_fieldAddr _ ⟨g, 1, none⟩ _ rfl fo60_1 rfl) ?_
       refine wl_storeb 0 _ [.slice (A86) (((x).lens).length) (c87), .int .i64 (((x).size) - (b - a)), .bool ((x).open_)] h rfl rfl rfl rfl rfl rfl sh3 rfl rfl (fun _ h => ?_)
       refine wl_nil ?_
       refine qn_then ?_
       refine wc_seq ?_
       refine wc_region ?_
       refine wl_v rfl rfl (ov_move _ rfl) ?_
       refine wl_v rfl rfl (ov_loadbN 3 [.int .i64 ((findI x a).1), .int .i64 ((((findI x (b - 1)).1) - ((findI x a).1)) + 1), .int .i64 (1)] h rfl rfl sh41 rfl) ?_
       refine wl_v rfl rfl (ov_move _ rfl) ?_
       replace h := st_front 1 h
       replace h := st_front 1 h
       replace h := ixB_close ((x).lens) (((x).size) - (b - a)) (((x).open_)) (by first | rfl | simp) h
       refine wl_call _ rfl rfl rfl ent35 (change_calls2 (R := [Sx.row (Kd.int .i64) 3 (A84) (cp85) ([((a - ((spanI x ((findI x a).1)).1)) + ((spanI x ((findI x (b - 1)).1)).2.1)) - b]), Sx.blk b82 [.int .i64 ((findI x a).1), .int .i64 ((((findI x (b - 1)).1) - ((findI x a).1)) + 1), .int .i64 (1)] 41, Sx.blk b1 [.int .i64 (0), .int .i64 (0), .int .i64 (0)] 41] ++ R) g ((⟨(x).lens, ((x).size) - (b - a), ((x).open_)⟩ : IX)) ((findI x a).1) ((((findI x (b - 1)).1) - ((findI x a).1)) + 1) 1 ([((a - ((spanI x ((findI x a).1)).1)) + ((spanI x ((findI x (b - 1)).1)).2.1)) - b]) (A84) (cp85) (([((a - ((spanI x ((findI x a).1)).1)) + ((spanI x ((findI x (b - 1)).1)).2.1)) - b] : List _).length) (by first | with_reducible rfl | simp only [List.length_set, List.length_append] | rfl) (by first | omega | simp; omega) (by first | omega | simp; omega) (by first | omega | simp; omega) (by first | omega | simp; omega) (Sx.row_reads_at (R := [Sx.row (Kd.int .i64) 3 (A84) (cp85) ([((a - ((spanI x ((findI x a).1)).1)) + ((spanI x ((findI x (b - 1)).1)).2.1)) - b]), Sx.blk b82 [.int .i64 ((findI x a).1), .int .i64 ((((findI x (b - 1)).1) - ((findI x a).1)) + 1), .int .i64 (1)] 41, Sx.blk b1 [.int .i64 (0), .int .i64 (0), .int .i64 (0)] 41] ++ R) (j := 0) rfl) h) ?_
       rintro e_ w_ ⟨rfl, h⟩
       refine ⟨_, rfl, ?_⟩
       refine wl_nil ?_
       refine qn_then ?_
       refine wc_seq ?_
       refine wc_region ?_
       refine wl_v rfl rfl (ov_loadbN 2 [.int .i64 ((findI x a).1), .int .i64 ((((findI x (b - 1)).1) - ((findI x a).1)) + 1), .int .i64 (1)] h rfl rfl sh41 rfl) ?_
       refine wl_storebN 3 [.int .i64 ((findI x a).1), .int .i64 ((((findI x (b - 1)).1) - ((findI x a).1)) + 1), .int .i64 (1)] [.int .i64 ((findI x a).1), .int .i64 ((((findI x (b - 1)).1) - ((findI x a).1)) + 1), .int .i64 (1)] h rfl rfl rfl rfl (by simp [Value.oneCell']) sh41 rfl rfl (fun _ h => ?_)
       refine wl_v rfl rfl (ov_assign _ rfl) ?_
       refine wl_nil ?_
       refine qn_then ?_
       refine wc_ret ?_
       have hend_ := h
       have e1_ : oldD x a b = (((findI x (b - 1)).1) - ((findI x a).1)) + 1 := by omega
       have e3_ : newD x a b = [((a - ((spanI x ((findI x a).1)).1)) + ((spanI x ((findI x (b - 1)).1)).2.1)) - b] := by unfold newD; rw [show restD x a b = ((a - ((spanI x ((findI x a).1)).1)) + ((spanI x ((findI x (b - 1)).1)).2.1)) - b by omega, if_pos (by omega)]
       have e4_ : openD x a b = (((x).open_)) := by first | exact hO.1 (by omega) | exact hO.2.1 (by omega) (by omega) | exact hO.2.2.1 (by omega) (by omega) (by omega) | exact hO.2.2.2 (by omega) (by omega) (by omega)
       rw [del_fin (by assumption) c3 hfa.1 e1_ e3_ e4_ rfl]
       replace h := st_selT [true, false, false, false] h
       refine qn_ret [_, _] ⟨⟨_, rfl, Sx.loadVarN (vs := [.int .i64 ((findI x a).1), .int .i64 ((((findI x (b - 1)).1) - ((findI x a).1)) + 1), .int .i64 (1)]) sh41 (Sx.blk_cells (cells := [.int .i64 ((findI x a).1), .int .i64 ((((findI x (b - 1)).1) - ((findI x a).1)) + 1), .int .i64 (1)]) hend_ (i := 3) rfl 0 _ rfl)⟩, rfl, trivial⟩ ?_
       exact ⟨rfl, h⟩
    ·
     refine wc_skip ?_
     refine qn_then ?_
     refine wc_seq ?_
     refine wc_block ?_
     refine wc_seq ?_
     replace h := st_front 1 h
     obtain ⟨A90, c91, h⟩ := ixB_open h
     refine wc_draw (fun w => Sx.St w0 F0 ([Sx.blk g [.slice (A90) (((x).lens).length) (c91), .int .i64 ((x).size), .bool ((x).open_)] 60, Sx.row (Kd.int .i64) 3 (A90) (c91) ((x).lens), Sx.blk b82 [.int .i64 ((findI x a).1), .int .i64 ((((findI x (b - 1)).1) - ((findI x a).1)) + 1), .int .i64 (0)] 41, Sx.blk b1 [.int .i64 (0), .int .i64 (0), .int .i64 (0)] 41] ++ R) w) (by kernel_rfl) ?_
     replace h := st_drew h
     refine wa_take 0 rfl (by kernel_rfl) (by kernel_rfl) (by kernel_rfl) (fun _ _ _ h => h) rfl rfl (st_selT [true, true, true, true] h) (fun w_ hS => ov_fieldAddr _ ⟨b82, 0, none⟩ _ rfl fo41_0 rfl) ?_
     refine wa_take 1 rfl (by kernel_rfl) (by kernel_rfl) (by kernel_rfl) (fun _ _ _ h => h) rfl rfl (st_selT [true, true, true, true] h) (fun w_ hS => ov_loadb 2 _ hS rfl rfl sh3 rfl) ?_
     refine wa_take 2 rfl (by kernel_rfl) (by kernel_rfl) (by kernel_rfl) (fun _ _ _ h => h) rfl rfl (st_selT [true, true, true, true] h) (fun w_ hS => ov_fieldAddr _ ⟨b82, 1, none⟩ _ rfl fo41_1 rfl) ?_
     refine wa_take 3 rfl (by kernel_rfl) (by kernel_rfl) (by kernel_rfl) (fun _ _ _ h => h) rfl rfl (st_selT [true, true, true, true] h) (fun w_ hS => ov_loadb 2 _ hS rfl rfl sh3 rfl) ?_
     refine wa_take 4 rfl (by kernel_rfl) (by kernel_rfl) (by kernel_rfl) (fun _ _ _ h => h) rfl rfl (st_selT [true, true, true, true] h) (fun w_ hS => ov_bin _ rfl rfl (binR_add (r := ((findI x a).1) + ((((findI x (b - 1)).1) - ((findI x a).1)) + 1)) (Sx.w64 (by omega)))) ?_
     refine wa_take 5 rfl (by kernel_rfl) (by kernel_rfl) (by kernel_rfl) (fun _ _ _ h => h) rfl rfl (st_selT [true, true, true, true] h) (fun w_ hS => ov_move _ rfl) ?_
     refine wa_take 6 rfl (by kernel_rfl) (by kernel_rfl) (by kernel_rfl) (fun _ _ _ h => h) rfl rfl (st_selT [true, true, true, true] h) (fun w_ hS => ov_nilCheck _ rfl) ?_
     refine wa_take 7 rfl (by kernel_rfl) (by kernel_rfl) (by kernel_rfl) (fun _ _ _ h => h) rfl rfl (st_selT [true, true, true, true] h) (fun w_ hS => ov_fieldAddr _ ⟨g, 0, none⟩ _ rfl fo60_0 rfl) ?_
     refine wa_take 8 rfl (by kernel_rfl) (by kernel_rfl) (by kernel_rfl) (fun _ _ _ h => h) rfl rfl (st_selT [true, true, true, true] h) (fun w_ hS => ov_loadb 0 _ hS rfl rfl sh23 rfl) ?_
     refine wa_take 9 rfl (by kernel_rfl) (by kernel_rfl) (by kernel_rfl) (fun _ _ _ h => h) rfl rfl (st_selT [true, true, true, true] h) (fun w_ hS => ov_len _ _ _ _ _ rfl es23) ?_
     refine wa_take 10 rfl (by kernel_rfl) (by kernel_rfl) (by kernel_rfl) (fun _ _ _ h => h) rfl rfl (st_selT [true, true, true, true] h) (fun w_ hS => ov_bin _ rfl rfl (binR_lss)) ?_
     refine wa_take 11 rfl (by kernel_rfl) (by kernel_rfl) (by kernel_rfl) (fun _ _ _ h => h) rfl rfl (st_selT [true, true, true, true] h) (fun w_ hS => ov_assign _ rfl) ?_
     refine wa_done (by kernel_rfl) ?_
     refine qn_then ?_
     refine wc_cond (by rfl) (fun c92 => ?_) (fun c92 => ?_)
     ·
      have hnv := hnx (by omega)
      refine wc_skip ?_
      refine qn_block_normal ?_
      refine qn_then ?_
      refine wc_seq ?_
      refine wc_region ?_
      refine wl_v rfl rfl (ov_move _ rfl) ?_
      refine wl_v rfl rfl (ov_nilCheck _ rfl) ?_
      refine wl_v rfl rfl (ov_fieldAddr _ ⟨g, 1, none⟩ _ rfl fo60_1 rfl) ?_
      refine wl_v rfl rfl (ov_loadb 0 _ h rfl rfl sh3 rfl) ?_
      refine wl_v rfl rfl (ov_move _ rfl) ?_
      refine wl_v rfl rfl (ov_move _ rfl) ?_
      refine wl_v rfl rfl (ov_bin _ rfl rfl (binR_sub (r := b - a) (Sx.w64 (by omega)))) ?_
      refine wl_v rfl rfl (ov_bin _ rfl rfl (binR_sub (r := ((x).size) - (b - a)) (Sx.w64 (by omega)))) ?_
      refine wl_v rfl rfl (ov_nilCheck _ rfl) ?_
      refine wl_v rfl rfl (ov_fieldAddr _ ⟨g, 1, none⟩ _ rfl fo60_1 rfl) ?_
      refine wl_storeb 0 _ [.slice (A90) (((x).lens).length) (c91), .int .i64 (((x).size) - (b - a)), .bool ((x).open_)] h rfl rfl rfl rfl rfl rfl sh3 rfl rfl (fun _ h => ?_)
      refine wl_nil ?_
      refine qn_then ?_
      refine wc_seq ?_
      refine wc_region ?_
      refine wl_v rfl rfl (ov_move _ rfl) ?_
      refine wl_v rfl rfl (ov_loadbN 2 [.int .i64 ((findI x a).1), .int .i64 ((((findI x (b - 1)).1) - ((findI x a).1)) + 1), .int .i64 (0)] h rfl rfl sh41 rfl) ?_
      refine wl_v rfl rfl (ov_move _ rfl) ?_
      replace h := st_front 1 h
      replace h := st_front 1 h
      replace h := ixB_close ((x).lens) (((x).size) - (b - a)) (((x).open_)) (by first | rfl | simp) h
      refine wl_call _ rfl rfl rfl ent35 (change_calls2 (R := [Sx.blk b82 [.int .i64 ((findI x a).1), .int .i64 ((((findI x (b - 1)).1) - ((findI x a).1)) + 1), .int .i64 (0)] 41, Sx.blk b1 [.int .i64 (0), .int .i64 (0), .int .i64 (0)] 41] ++ R) g ((⟨(x).lens, ((x).size) - (b - a), ((x).open_)⟩ : IX)) ((findI x a).1) ((((findI x (b - 1)).1) - ((findI x a).1)) + 1) 0 ([]) (none) (0) (0) (by first | with_reducible rfl | simp only [List.length_set, List.length_append] | rfl) (by first | omega | simp; omega) (by first | omega | simp; omega) (by first | omega | simp; omega) (by first | omega | simp; omega) (fun _ _ _ => Kd.C_nil _ _) h) ?_
      rintro e_ w_ ⟨rfl, h⟩
      refine ⟨_, rfl, ?_⟩
      refine wl_nil ?_
      refine qn_then ?_
      refine wc_seq ?_
      refine wc_region ?_
      refine wl_v rfl rfl (ov_loadbN 1 [.int .i64 ((findI x a).1), .int .i64 ((((findI x (b - 1)).1) - ((findI x a).1)) + 1), .int .i64 (0)] h rfl rfl sh41 rfl) ?_
      refine wl_storebN 2 [.int .i64 ((findI x a).1), .int .i64 ((((findI x (b - 1)).1) - ((findI x a).1)) + 1), .int .i64 (0)] [.int .i64 ((findI x a).1), .int .i64 ((((findI x (b - 1)).1) - ((findI x a).1)) + 1), .int .i64 (0)] h rfl rfl rfl rfl (by simp [Value.oneCell']) sh41 rfl rfl (fun _ h => ?_)
      refine wl_v rfl rfl (ov_assign _ rfl) ?_
      refine wl_nil ?_
      refine qn_then ?_
      refine wc_ret ?_
      have hend_ := h
      have e1_ : oldD x a b = (((findI x (b - 1)).1) - ((findI x a).1)) + 1 := by omega
      have e3_ : newD x a b = [] := by unfold newD; rw [if_neg (by omega)]
      have e4_ : openD x a b = (((x).open_)) := by first | exact hO.1 (by omega) | exact hO.2.1 (by omega) (by omega) | exact hO.2.2.1 (by omega) (by omega) (by omega) | exact hO.2.2.2 (by omega) (by omega) (by omega)
      rw [del_fin (by assumption) c3 hfa.1 e1_ e3_ e4_ rfl]
      replace h := st_selT [true, false, false] h
      refine qn_ret [_, _] ⟨⟨_, rfl, Sx.loadVarN (vs := [.int .i64 ((findI x a).1), .int .i64 ((((findI x (b - 1)).1) - ((findI x a).1)) + 1), .int .i64 (0)]) sh41 (Sx.blk_cells (cells := [.int .i64 ((findI x a).1), .int .i64 ((((findI x (b - 1)).1) - ((findI x a).1)) + 1), .int .i64 (0)]) hend_ (i := 2) rfl 0 _ rfl)⟩, rfl, trivial⟩ ?_
      exact ⟨rfl, h⟩
     ·
      refine wc_seq ?_
      refine wc_region ?_
      refine wl_v rfl rfl (ov_move _ rfl) ?_
      refine wl_v rfl rfl (ov_bin _ rfl rfl (binR_eql)) ?_
      refine wl_v rfl rfl (ov_assign _ rfl) ?_
      refine wl_nil ?_
      refine qn_then ?_
      refine wc_cond (by rfl) (fun c93 => ?_) (fun c93 => ?_)
      ·
       refine wc_region ?_
       refine wl_v rfl rfl (ov_move _ rfl) ?_
       refine wl_v rfl rfl (ov_nilCheck _ rfl) ?_
       refine wl_v rfl rfl (ov_fieldAddr _ ⟨g, 2, none⟩ _ rfl fo60_2 rfl) ?_
       refine wl_storeb 0 _ [.slice (A90) (((x).lens).length) (c91), .int .i64 ((x).size), .bool false] h rfl rfl rfl rfl rfl rfl sh4 rfl rfl (fun _ h => ?_)
       refine wl_nil ?_
       refine qn_block_normal ?_
       refine qn_then ?_
       refine wc_seq ?_
       refine wc_region ?_
       refine wl_v rfl rfl (ov_move _ rfl) ?_
       refine wl_v rfl rfl (ov_nilCheck _ rfl) ?_
       refine wl_v rfl rfl (ov_fieldAddr _ ⟨g, 1, none⟩ _ rfl fo60_1 rfl) ?_
       refine wl_v rfl rfl (ov_loadb 0 _ h rfl rfl sh3 rfl) ?_
       refine wl_v rfl rfl (ov_move _ rfl) ?_
       refine wl_v rfl rfl (ov_move _ rfl) ?_
       refine wl_v rfl rfl (ov_bin _ rfl rfl (binR_sub (r := b - a) (Sx.w64 (by omega)))) ?_
       refine wl_v rfl rfl (ov_bin _ rfl rfl (binR_sub (r := ((x).size) - (b - a)) (Sx.w64 (by omega)))) ?_
       refine wl_v rfl rfl (ov_nilCheck _ rfl) ?_
       refine wl_v rfl rfl (ov_fieldAddr _ ⟨g, 1, none⟩ _ rfl fo60_1 rfl) ?_
       refine wl_storeb 0 _ [.slice (A90) (((x).lens).length) (c91), .int .i64 (((x).size) - (b - a)), .bool false] h rfl rfl rfl rfl rfl rfl sh3 rfl rfl (fun _ h => ?_)
       refine wl_nil ?_
       refine qn_then ?_
       refine wc_seq ?_
       refine wc_region ?_
       refine wl_v rfl rfl (ov_move _ rfl) ?_
       refine wl_v rfl rfl (ov_loadbN 2 [.int .i64 ((findI x a).1), .int .i64 ((((findI x (b - 1)).1) - ((findI x a).1)) + 1), .int .i64 (0)] h rfl rfl sh41 rfl) ?_
       refine wl_v rfl rfl (ov_move _ rfl) ?_
       replace h := st_front 1 h
       replace h := st_front 1 h
       replace h := ixB_close ((x).lens) (((x).size) - (b - a)) (false) (by first | rfl | simp) h
       refine wl_call _ rfl rfl rfl ent35 (change_calls2 (R := [Sx.blk b82 [.int .i64 ((findI x a).1), .int .i64 ((((findI x (b - 1)).1) - ((findI x a).1)) + 1), .int .i64 (0)] 41, Sx.blk b1 [.int .i64 (0), .int .i64 (0), .int .i64 (0)] 41] ++ R) g ((⟨(x).lens, ((x).size) - (b - a), false⟩ : IX)) ((findI x a).1) ((((findI x (b - 1)).1) - ((findI x a).1)) + 1) 0 ([]) (none) (0) (0) (by first | with_reducible rfl | simp only [List.length_set, List.length_append] | rfl) (by first | omega | simp; omega) (by first | omega | simp; omega) (by first | omega | simp; omega) (by first | omega | simp; omega) (fun _ _ _ => Kd.C_nil _ _) h) ?_
       rintro e_ w_ ⟨rfl, h⟩
       refine ⟨_, rfl, ?_⟩
       refine wl_nil ?_
       refine qn_then ?_
       refine wc_seq ?_
       refine wc_region ?_
       refine wl_v rfl rfl (ov_loadbN 1 [.int .i64 ((findI x a).1), .int .i64 ((((findI x (b - 1)).1) - ((findI x a).1)) + 1), .int .i64 (0)] h rfl rfl sh41 rfl) ?_
       refine wl_storebN 2 [.int .i64 ((findI x a).1), .int .i64 ((((findI x (b - 1)).1) - ((findI x a).1)) + 1), .int .i64 (0)] [.int .i64 ((findI x a).1), .int .i64 ((((findI x (b - 1)).1) - ((findI x a).1)) + 1), .int .i64 (0)] h rfl rfl rfl rfl (by simp [Value.oneCell']) sh41 rfl rfl (fun _ h => ?_)
       refine wl_v rfl rfl (ov_assign _ rfl) ?_
       refine wl_nil ?_
       refine qn_then ?_
       refine wc_ret ?_
       have hend_ := h
       have e1_ : oldD x a b = (((findI x (b - 1)).1) - ((findI x a).1)) + 1 := by omega
       have e3_ : newD x a b = [] := by unfold newD; rw [if_neg (by omega)]
       have e4_ : openD x a b = (false) := by first | exact hO.1 (by omega) | exact hO.2.1 (by omega) (by omega) | exact hO.2.2.1 (by omega) (by omega) (by omega) | exact hO.2.2.2 (by omega) (by omega) (by omega)
       rw [del_fin (by assumption) c3 hfa.1 e1_ e3_ e4_ rfl]
       replace h := st_selT [true, false, false] h
       refine qn_ret [_, _] ⟨⟨_, rfl, Sx.loadVarN (vs := [.int .i64 ((findI x a).1), .int .i64 ((((findI x (b - 1)).1) - ((findI x a).1)) + 1), .int .i64 (0)]) sh41 (Sx.blk_cells (cells := [.int .i64 ((findI x a).1), .int .i64 ((((findI x (b - 1)).1) - ((findI x a).1)) + 1), .int .i64 (0)]) hend_ (i := 2) rfl 0 _ rfl)⟩, rfl, trivial⟩ ?_
       exact ⟨rfl, h⟩
      ·
       exfalso
       have hnx2 := hnx
       omega
end Go.Proofs.Yteancplgfjhagaa.Paras.D
