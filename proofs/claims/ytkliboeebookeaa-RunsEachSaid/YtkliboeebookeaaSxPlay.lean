/- The walks of the playing. -/
import Derived.Test.YtkliboeebookeaaProg
import Derived.Test.YtkliboeebookeaaSxGlue
import Derived.Test.YtkliboeebookeaaSxKinds
import Derived.Test.YtkliboeebookeaaRunsTh
import Derived.Test.YtkliboeebookeaaSxRuns
import Derived.Test.YtkliboeebookeaaSxRunsB
import Derived.Test.YtkliboeebookeaaSxRef
import Derived.Test.YtkliboeebookeaaSxPlain
import Derived.Test.YtkliboeebookeaaSxPlainB
namespace Go.Proofs.Ytkliboeebookeaa.Runs.F
open Go Go.RowKit Go.Proofs.YtkliboeebookeaaW.PrintWords Go.Proofs.Ytkliboeebookeaa.Kinds Go.Proofs.Ytkliboeebookeaa.Runs Go.Proofs.Ytkliboeebookeaa.Runs.B Go.Proofs.Ytkliboeebookeaa.Runs.C Go.Proofs.Ytkliboeebookeaa.Runs.D Go.Proofs.Ytkliboeebookeaa.Runs.E
set_option linter.unusedVariables false
set_option linter.unusedSimpArgs false
theorem zo28 : Sx.zeroOf Try.prog 28 = some (.agg #[.slice (none) (0) (0), .int .i64 (0)]) := by kernel_rfl
theorem fo55_0 : Sx.fieldOff Try.prog 55 0 = some 0 := by kernel_rfl
theorem sh3 : Sx.shapeOf Try.prog 3 = some (false, 1) := by kernel_rfl
theorem sh28 : Sx.shapeOf Try.prog 28 = some (true, 2) := by kernel_rfl
theorem fo55_1 : Sx.fieldOff Try.prog 55 1 = some 1 := by kernel_rfl
theorem fo55_2 : Sx.fieldOff Try.prog 55 2 = some 2 := by kernel_rfl
theorem ent45 : Sx.Ent Try.prog 45 := ⟨Try.f45, Try.func45, by kernel_rfl, by kernel_rfl⟩
theorem ent28 : Sx.Ent Try.prog 28 := ⟨Try.f28, Try.func28, by kernel_rfl, by kernel_rfl⟩
theorem ent46 : Sx.Ent Try.prog 46 := ⟨Try.f46, Try.func46, by kernel_rfl, by kernel_rfl⟩
theorem ent29 : Sx.Ent Try.prog 29 := ⟨Try.f29, Try.func29, by kernel_rfl, by kernel_rfl⟩
theorem fo55_3 : Sx.fieldOff Try.prog 55 3 = some 3 := by kernel_rfl
theorem ent47 : Sx.Ent Try.prog 47 := ⟨Try.f47, Try.func47, by kernel_rfl, by kernel_rfl⟩
theorem ent30 : Sx.Ent Try.prog 30 := ⟨Try.f30, Try.func30, by kernel_rfl, by kernel_rfl⟩
theorem fo55_4 : Sx.fieldOff Try.prog 55 4 = some 4 := by kernel_rfl
theorem sh33 : Sx.shapeOf Try.prog 33 = some (false, 1) := by kernel_rfl
theorem es33 : Sx.elemSz Try.prog 33 = some (66, 2) := by kernel_rfl
theorem ent48 : Sx.Ent Try.prog 48 := ⟨Try.f48, Try.func48, by kernel_rfl, by kernel_rfl⟩
theorem ent31 : Sx.Ent Try.prog 31 := ⟨Try.f31, Try.func31, by kernel_rfl, by kernel_rfl⟩
theorem ent35 : Sx.Ent Try.prog 35 := ⟨Try.f35, Try.func35, by kernel_rfl, by kernel_rfl⟩
theorem ent21 : Sx.Ent Try.prog 21 := ⟨Try.f21, Try.func21, by kernel_rfl, by kernel_rfl⟩
theorem ent22 : Sx.Ent Try.prog 22 := ⟨Try.f22, Try.func22, by kernel_rfl, by kernel_rfl⟩
theorem es22 : Sx.elemSz Try.prog 22 = some (55, 5) := by kernel_rfl
theorem fo28_0 : Sx.fieldOff Try.prog 28 0 = some 0 := by kernel_rfl
theorem sh26 : Sx.shapeOf Try.prog 26 = some (false, 1) := by kernel_rfl
theorem es26 : Sx.elemSz Try.prog 26 = some (3, 1) := by kernel_rfl
theorem sh55 : Sx.shapeOf Try.prog 55 = some (true, 5) := by kernel_rfl
theorem ent36 : Sx.Ent Try.prog 36 := ⟨Try.f36, Try.func36, by kernel_rfl, by kernel_rfl⟩

def stepV (x : LS) (o : S55) : LS :=
  if o.f0 = 0 then (insV x o.f1 o.f2).1 else if o.f0 = 1 then (delV x o.f1 o.f2).1 else if o.f0 = 2 then (setV x o.f1 o.f2 o.f3).1
  else if o.f0 = 3 then (if 40 < (o.f4.length : Int) then x else (layV x o.f1 o.f4).1) else x
def playV : LS → List S55 → Nat → LS
  | x, _, 0 => x
  | x, [], _ => x
  | x, o :: r, k + 1 => if 5000 < (x.st.length : Int) then x else playV (stepV x o) r k
theorem insV_len {x : LS} {i n : Int} (h : x.st.length ≤ 65536) : (insV x i n).1.st.length ≤ 65536 := by
  unfold insV
  split
  · exact h
  · rename_i h1
    split
    · exact h
    · split
      · exact h
      · have := near_ok h1
        simp; omega
theorem delV_len {x : LS} {a b : Int} (h : x.st.length ≤ 65536) : (delV x a b).1.st.length ≤ 65536 := by
  unfold delV
  split
  · exact h
  · rename_i h1
    have := span_ok h1
    simp; omega
theorem setV_len {x : LS} {a b s : Int} (h : x.st.length ≤ 65536) : (setV x a b s).1.st.length ≤ 65536 := by
  unfold setV
  split
  · exact h
  · rename_i h1
    have := span_ok h1
    split
    · exact h
    · simp; omega
theorem layV_len {x : LS} {i : Int} {l : List Rn} (h : x.st.length ≤ 65536) : (layV x i l).1.st.length ≤ 65536 := by
  unfold layV
  split
  · exact h
  · split
    · exact h
    · rename_i h1 h2
      have h3 := lay_room l _ (by omega) (Classical.not_not.1 h2)
      have h4 := expand_len0 h3.2.2
      simp; omega
theorem stepV_len {x : LS} {o : S55} (h : x.st.length ≤ 65536) : (stepV x o).st.length ≤ 65536 := by
  unfold stepV
  split
  · exact insV_len h
  · split
    · exact delV_len h
    · split
      · exact setV_len h
      · split
        · split
          · exact h
          · exact layV_len h
        · exact h
theorem play_stop {x : LS} (h : 5000 < (x.st.length : Int)) (l : List S55) (k : Nat) : playV x l k = x := by
  cases k with
  | zero => cases l <;> rfl
  | succ k => cases l with
    | nil => rfl
    | cons o r => rw [playV, if_pos h]
theorem play_end {x : LS} {l : List S55} {i : Nat} (h : l.length ≤ i ∨ 40 ≤ i) : playV x (l.drop i) (40 - i) = x := by
  rcases h with h | h
  · rw [List.drop_eq_nil_of_le h]; cases 40 - i <;> rfl
  · rw [show 40 - i = 0 by omega]; cases l.drop i <;> rfl
theorem play_step {x : LS} {l : List S55} {i : Nat} (h1 : i < l.length) (h2 : i < 40) (h3 : ¬ 5000 < (x.st.length : Int)) (z : S55) : playV x (l.drop i) (40 - i) = playV (stepV x (l.getD i z)) (l.drop (i + 1)) (40 - (i + 1)) := by
  have e : l.drop i = l.getD i z :: l.drop (i + 1) := by rw [List.drop_eq_getElem_cons h1]; simp [List.getD, h1]
  rw [e, show 40 - i = (40 - (i + 1)) + 1 by omega, playV, if_neg h3]
theorem newL_len {n s : Int} (h : n ≤ 500) : (newL n s).st.length ≤ 65536 := by
  unfold newL
  split
  · simp
  · simp; omega
abbrev smallP (n s : Int) : Prop := 0 ≤ n ∧ n ≤ 500 ∧ styleP s
theorem small_new {n s : Int} (h : smallP n s) : newE n s = 0 := by
  unfold newE
  rw [if_neg (by omega), if_neg (by omega)]
theorem small_newL {n s : Int} (h : smallP n s) : newL n s = ⟨List.replicate n.toNat s, s⟩ := by
  unfold newL
  rw [if_neg (by rw [small_new h]; decide)]
theorem op_mk (w : World) (base : Nat) (ok : Nat → Prop) (x : S55) (h : x.f4 = []) : k55.M w base ok x [.int .i64 x.f0, .int .i64 x.f1, .int .i64 x.f2, .int .i64 x.f3, .slice none 0 0] := by
  refine ⟨[.int .i64 x.f0], _, rfl, rfl, [.int .i64 x.f1], _, rfl, rfl, [.int .i64 x.f2], _, rfl, rfl, [.int .i64 x.f3], [.slice none 0 0], rfl, rfl, ?_⟩
  show (Kd.slice 66 k66).M w base ok x.f4 _
  rw [h]
  exact ⟨_, rfl, Kd.R_nil _ _ _ _ _⟩

set_option maxRecDepth 100000 in
theorem step_calls {w0 w : World} {F0 : Nat → Prop} {R : List Sx.HP} (g : Nat) (A : Option Addr) (c : Nat) (x : LS) {v0 : World} (o : S55) (Ao : Option Addr) (co : Nat) (hv : Sx.RO v0 w0 F0) (hx : x.st.length ≤ 65536) (hoc : o.f4.length ≤ co) (ho : k66.C v0 Ao o.f4.length o.f4) (h : Sx.St w0 F0 ([listS g (x), Sx.row (Kd.int .i64) 3 (A) (c) ((x).st)] ++ R) w) : Calls Try.prog 36 #[.pointer (some ⟨g, 0, none⟩), .agg #[.slice (A) (((x).st).length) (c), .int .i64 ((x).base)], .agg #[.int .i64 ((o).f0), .int .i64 ((o).f1), .int .i64 ((o).f2), .int .i64 ((o).f3), .slice (Ao) (((o).f4).length) (co)]] w (fun e w1 => ∃ A2 c2, e = .returned (.tuple #[.agg #[.slice A2 ((stepV x o).st).length c2, .int .i64 (stepV x o).base], .bool true]) ∧ Sx.St w0 F0 (listS g (stepV x o) :: Sx.row (Kd.int .i64) 3 A2 c2 (stepV x o).st :: R) w1) := by
 refine Sx.calls_fn (vs := [.pointer (some ⟨g, 0, none⟩), .agg #[.slice (A) (((x).st).length) (c), .int .i64 ((x).base)], .agg #[.int .i64 ((o).f0), .int .i64 ((o).f1), .int .i64 ((o).f2), .int .i64 ((o).f3), .slice (Ao) (((o).f4).length) (co)]]) Try.func36 rfl Try.ntmps36 rfl ?_
 refine Sx.wc_seq ?_
 refine Sx.wc_region ?_
 refine Sx.wl_box _ h rfl rfl rfl (fun b1 _ h => ?_)
 replace h : Sx.St _ _ (Sx.blk b1 [.slice (A) (((x).st).length) (c), .int .i64 ((x).base)] 28 :: _) _ := h
 refine Sx.wl_box _ h rfl rfl rfl (fun b2 _ h => ?_)
 replace h : Sx.St _ _ (Sx.blk b2 [.int .i64 ((o).f0), .int .i64 ((o).f1), .int .i64 ((o).f2), .int .i64 ((o).f3), .slice (Ao) (((o).f4).length) (co)] 55 :: _) _ := h
 refine Sx.wl_alloc _ h rfl rfl zo28 (fun b3 _ h => ?_)
 replace h : Sx.St _ _ (Sx.blk b3 [.slice (none) (0) (0), .int .i64 (0)] 28 :: _) _ := h
 refine Sx.wl_v rfl rfl (Sx.ov_assign _ rfl) ?_
 refine Sx.wl_nil ?_
 refine Sx.qn_then ?_
 refine Sx.wc_seq ?_
 refine Sx.wc_seq ?_
 refine Sx.wc_region ?_
 refine Sx.wl_v rfl rfl (Sx.ov_fieldAddr _ ⟨b2, 0, none⟩ _ rfl fo55_0 rfl) ?_
 refine Sx.wl_v rfl rfl (Sx.ov_loadb 1 _ h rfl rfl sh3 rfl) ?_
 refine Sx.wl_nil ?_
 refine Sx.qn_then ?_
 refine Sx.wc_block ?_
 refine Sx.wc_seq ?_
 refine Sx.wc_region ?_
 refine Sx.wl_v rfl rfl (Sx.ov_bin _ rfl rfl (Sx.binR_eql)) ?_
 refine Sx.wl_v rfl rfl (Sx.ov_assign _ rfl) ?_
 refine Sx.wl_nil ?_
 refine Sx.qn_then ?_
 refine Sx.wc_cond (by rfl) (fun c4 => ?_) (fun c4 => ?_)
 ·
  refine Sx.wc_seq ?_
  refine Sx.wc_region ?_
  refine Sx.wl_v rfl rfl (Sx.ov_loadbN 2 [.slice (A) (((x).st).length) (c), .int .i64 ((x).base)] h rfl rfl sh28 rfl) ?_
  refine Sx.wl_v rfl rfl (Sx.ov_fieldAddr _ ⟨b2, 1, none⟩ _ rfl fo55_1 rfl) ?_
  refine Sx.wl_v rfl rfl (Sx.ov_loadb 1 _ h rfl rfl sh3 rfl) ?_
  refine Sx.wl_v rfl rfl (Sx.ov_fieldAddr _ ⟨b2, 2, none⟩ _ rfl fo55_2 rfl) ?_
  refine Sx.wl_v rfl rfl (Sx.ov_loadb 1 _ h rfl rfl sh3 rfl) ?_
  replace h := Sx.st_front 4 h
  refine Sx.wl_call _ rfl rfl rfl ent45 (rInsert_calls (R := [Sx.blk b3 [.slice (none) (0) (0), .int .i64 (0)] 28, Sx.blk b2 [.int .i64 ((o).f0), .int .i64 ((o).f1), .int .i64 ((o).f2), .int .i64 ((o).f3), .slice (Ao) (((o).f4).length) (co)] 55, Sx.blk b1 [.slice (A) (((x).st).length) (c), .int .i64 ((x).base)] 28, listS g (x)] ++ R) (A) (c) x ((o).f1) ((o).f2) (by omega) h) ?_
  rintro e_ w_ ⟨A5, cp6, rfl, h⟩
  refine ⟨_, rfl, ?_⟩
  refine Sx.wl_v rfl rfl (Sx.ov_move _ rfl) ?_
  refine Sx.wl_v rfl rfl (Sx.ov_extract [.agg #[.slice (A5) ((((insV x ((o).f1) ((o).f2)).1).st).length) (cp6), .int .i64 (((insV x ((o).f1) ((o).f2)).1).base)], .int .i64 ((insV x ((o).f1) ((o).f2)).2)] _ rfl rfl) ?_
  refine Sx.wl_v rfl rfl (Sx.ov_extract [.agg #[.slice (A5) ((((insV x ((o).f1) ((o).f2)).1).st).length) (cp6), .int .i64 (((insV x ((o).f1) ((o).f2)).1).base)], .int .i64 ((insV x ((o).f1) ((o).f2)).2)] _ rfl rfl) ?_
  refine Sx.wl_alloc _ h rfl rfl zo28 (fun b7 _ h => ?_)
  replace h : Sx.St _ _ (Sx.blk b7 [.slice (none) (0) (0), .int .i64 (0)] 28 :: _) _ := h
  refine Sx.wl_storebN 0 [.slice (A5) ((((insV x ((o).f1) ((o).f2)).1).st).length) (cp6), .int .i64 (((insV x ((o).f1) ((o).f2)).1).base)] [.slice (A5) ((((insV x ((o).f1) ((o).f2)).1).st).length) (cp6), .int .i64 (((insV x ((o).f1) ((o).f2)).1).base)] h rfl rfl rfl rfl (by simp [Value.oneCell']) sh28 rfl rfl (fun _ h => ?_)
  refine Sx.wl_v rfl rfl (Sx.ov_assign _ rfl) ?_
  refine Sx.wl_nil ?_
  refine Sx.qn_then ?_
  refine Sx.wc_seq ?_
  refine Sx.wc_draw (fun w => Sx.St w0 F0 ([Sx.blk b7 [.slice (A5) ((((insV x ((o).f1) ((o).f2)).1).st).length) (cp6), .int .i64 (((insV x ((o).f1) ((o).f2)).1).base)] 28, Sx.row (Kd.int .i64) 3 (A5) (cp6) (((insV x ((o).f1) ((o).f2)).1).st), Sx.blk b2 [.int .i64 ((o).f0), .int .i64 ((o).f1), .int .i64 ((o).f2), .int .i64 ((o).f3), .slice (Ao) (((o).f4).length) (co)] 55, Sx.blk b1 [.slice (A) (((x).st).length) (c), .int .i64 ((x).base)] 28] ++ R) w) (by kernel_rfl) ?_
  replace h := Sx.st_drew h
  refine Sx.wa_tk 0 rfl rfl rfl (Sx.st_selT [true, true, false, true, true, false] h) (fun w_ hS => Sx.ov_loadbN 0 [.slice (A5) ((((insV x ((o).f1) ((o).f2)).1).st).length) (cp6), .int .i64 (((insV x ((o).f1) ((o).f2)).1).base)] hS rfl rfl sh28 rfl) ?_
  refine Sx.wa_tk 1 rfl rfl rfl (Sx.st_selT [true, true, false, true, true, false] h) (fun w_ hS => Sx.ov_move _ rfl) ?_
  refine Sx.wa_tk 2 rfl rfl rfl (Sx.st_selT [true, true, false, true, true, false] h) (fun w_ hS => Sx.ov_fieldAddr _ ⟨b2, 1, none⟩ _ rfl fo55_1 rfl) ?_
  refine Sx.wa_tk 3 rfl rfl rfl (Sx.st_selT [true, true, false, true, true, false] h) (fun w_ hS => Sx.ov_loadb 2 _ hS rfl rfl sh3 rfl) ?_
  refine Sx.wa_tk 4 rfl rfl rfl (Sx.st_selT [true, true, false, true, true, false] h) (fun w_ hS => Sx.ov_fieldAddr _ ⟨b2, 2, none⟩ _ rfl fo55_2 rfl) ?_
  refine Sx.wa_tk 5 rfl rfl rfl (Sx.st_selT [true, true, false, true, true, false] h) (fun w_ hS => Sx.ov_loadb 2 _ hS rfl rfl sh3 rfl) ?_
  refine Sx.wa_tk 7 rfl rfl rfl (Sx.st_selT [true, true, false, true, true, false] h) (fun w_ hS => Sx.ov_move _ rfl) ?_
  refine Sx.wa_one 6 rfl (by kernel_rfl) ?_
  replace h := Sx.st_front 5 h
  refine Sx.wl_call _ rfl rfl rfl ent28 (Insert_calls g x ((o).f1) ((o).f2) (by omega) h) ?_
  rintro e_ w_ ⟨rfl, h⟩
  refine ⟨_, rfl, ?_⟩
  refine Sx.wl_nil ?_
  refine Sx.qn_wa (Sx.st_selT [false, true, true, false, true, true] h) ?_
  refine Sx.wa_tk 8 rfl rfl rfl (Sx.st_selT [false, true, true, false, true, true] h) (fun w_ hS => Sx.ov_bin _ rfl rfl (Sx.binR_eql)) ?_
  refine Sx.wa_one 9 rfl (by kernel_rfl) ?_
  refine Sx.wl_storebN 3 [.slice (A5) ((((insV x ((o).f1) ((o).f2)).1).st).length) (cp6), .int .i64 (((insV x ((o).f1) ((o).f2)).1).base)] [.slice (A5) ((((insV x ((o).f1) ((o).f2)).1).st).length) (cp6), .int .i64 (((insV x ((o).f1) ((o).f2)).1).base)] h rfl rfl rfl rfl (by simp [Value.oneCell']) sh28 rfl rfl (fun _ h => ?_)
  refine Sx.wl_nil ?_
  refine Sx.qn_wa (Sx.st_selT [false, true, true, false, true, true] h) ?_
  refine Sx.wa_tk 10 rfl rfl rfl (Sx.st_selT [false, true, true, false, true, true] h) (fun w_ hS => Sx.ov_assign _ rfl) ?_
  refine Sx.wa_done (by kernel_rfl) ?_
  refine Sx.qn_then ?_
  refine Sx.wc_ret ?_
  refine Sx.qn_block_ret ?_
  refine Sx.qn_then_ret ?_
  have hend_ := h
  replace h := Sx.st_front 2 h
  replace h := Sx.st_front 1 h
  replace h := Sx.st_selT [true, true, false, false, false, false] h
  refine Sx.qn_ret [_, _] ⟨⟨_, rfl, Sx.loadVarN (vs := [.slice (A5) ((((insV x ((o).f1) ((o).f2)).1).st).length) (cp6), .int .i64 (((insV x ((o).f1) ((o).f2)).1).base)]) sh28 (Sx.blk_cells (cells := [.slice (A5) ((((insV x ((o).f1) ((o).f2)).1).st).length) (cp6), .int .i64 (((insV x ((o).f1) ((o).f2)).1).base)]) hend_ (i := 3) rfl 0 _ rfl)⟩, rfl, trivial⟩ ?_
  have e_ : stepV x o = (insV x ((o).f1) ((o).f2)).1 := by unfold stepV; rw [if_pos (by omega)]
  have b_ : (decide (((insV x ((o).f1) ((o).f2)).2 : Int) = ((insV x ((o).f1) ((o).f2)).2))) = true := by first | exact decide_eq_true rfl | exact absurd rfl (by assumption)
  rw [e_]
  refine ⟨_, _, ?_, h⟩
  exact congrArg (fun z => Ending.returned (Value.tuple #[.agg #[.slice (A5) ((((insV x ((o).f1) ((o).f2)).1).st).length) (cp6), .int .i64 (((insV x ((o).f1) ((o).f2)).1).base)], .bool z])) b_
 ·
  refine Sx.wc_seq ?_
  refine Sx.wc_region ?_
  refine Sx.wl_v rfl rfl (Sx.ov_bin _ rfl rfl (Sx.binR_eql)) ?_
  refine Sx.wl_v rfl rfl (Sx.ov_assign _ rfl) ?_
  refine Sx.wl_nil ?_
  refine Sx.qn_then ?_
  refine Sx.wc_cond (by rfl) (fun c8 => ?_) (fun c8 => ?_)
  ·
   refine Sx.wc_seq ?_
   refine Sx.wc_region ?_
   refine Sx.wl_v rfl rfl (Sx.ov_loadbN 2 [.slice (A) (((x).st).length) (c), .int .i64 ((x).base)] h rfl rfl sh28 rfl) ?_
   refine Sx.wl_v rfl rfl (Sx.ov_fieldAddr _ ⟨b2, 1, none⟩ _ rfl fo55_1 rfl) ?_
   refine Sx.wl_v rfl rfl (Sx.ov_loadb 1 _ h rfl rfl sh3 rfl) ?_
   refine Sx.wl_v rfl rfl (Sx.ov_fieldAddr _ ⟨b2, 2, none⟩ _ rfl fo55_2 rfl) ?_
   refine Sx.wl_v rfl rfl (Sx.ov_loadb 1 _ h rfl rfl sh3 rfl) ?_
   replace h := Sx.st_front 4 h
   refine Sx.wl_call _ rfl rfl rfl ent46 (rDelete_calls (R := [Sx.blk b3 [.slice (none) (0) (0), .int .i64 (0)] 28, Sx.blk b2 [.int .i64 ((o).f0), .int .i64 ((o).f1), .int .i64 ((o).f2), .int .i64 ((o).f3), .slice (Ao) (((o).f4).length) (co)] 55, Sx.blk b1 [.slice (A) (((x).st).length) (c), .int .i64 ((x).base)] 28, listS g (x)] ++ R) (A) (c) x ((o).f1) ((o).f2) (by omega) h) ?_
   rintro e_ w_ ⟨A9, cp10, rfl, h⟩
   refine ⟨_, rfl, ?_⟩
   refine Sx.wl_v rfl rfl (Sx.ov_move _ rfl) ?_
   refine Sx.wl_v rfl rfl (Sx.ov_extract [.agg #[.slice (A9) ((((delV x ((o).f1) ((o).f2)).1).st).length) (cp10), .int .i64 (((delV x ((o).f1) ((o).f2)).1).base)], .int .i64 ((delV x ((o).f1) ((o).f2)).2)] _ rfl rfl) ?_
   refine Sx.wl_v rfl rfl (Sx.ov_extract [.agg #[.slice (A9) ((((delV x ((o).f1) ((o).f2)).1).st).length) (cp10), .int .i64 (((delV x ((o).f1) ((o).f2)).1).base)], .int .i64 ((delV x ((o).f1) ((o).f2)).2)] _ rfl rfl) ?_
   refine Sx.wl_alloc _ h rfl rfl zo28 (fun b11 _ h => ?_)
   replace h : Sx.St _ _ (Sx.blk b11 [.slice (none) (0) (0), .int .i64 (0)] 28 :: _) _ := h
   refine Sx.wl_storebN 0 [.slice (A9) ((((delV x ((o).f1) ((o).f2)).1).st).length) (cp10), .int .i64 (((delV x ((o).f1) ((o).f2)).1).base)] [.slice (A9) ((((delV x ((o).f1) ((o).f2)).1).st).length) (cp10), .int .i64 (((delV x ((o).f1) ((o).f2)).1).base)] h rfl rfl rfl rfl (by simp [Value.oneCell']) sh28 rfl rfl (fun _ h => ?_)
   refine Sx.wl_v rfl rfl (Sx.ov_assign _ rfl) ?_
   refine Sx.wl_nil ?_
   refine Sx.qn_then ?_
   refine Sx.wc_seq ?_
   refine Sx.wc_draw (fun w => Sx.St w0 F0 ([Sx.blk b11 [.slice (A9) ((((delV x ((o).f1) ((o).f2)).1).st).length) (cp10), .int .i64 (((delV x ((o).f1) ((o).f2)).1).base)] 28, Sx.row (Kd.int .i64) 3 (A9) (cp10) (((delV x ((o).f1) ((o).f2)).1).st), Sx.blk b2 [.int .i64 ((o).f0), .int .i64 ((o).f1), .int .i64 ((o).f2), .int .i64 ((o).f3), .slice (Ao) (((o).f4).length) (co)] 55, Sx.blk b1 [.slice (A) (((x).st).length) (c), .int .i64 ((x).base)] 28] ++ R) w) (by kernel_rfl) ?_
   replace h := Sx.st_drew h
   refine Sx.wa_tk 0 rfl rfl rfl (Sx.st_selT [true, true, false, true, true, false] h) (fun w_ hS => Sx.ov_loadbN 0 [.slice (A9) ((((delV x ((o).f1) ((o).f2)).1).st).length) (cp10), .int .i64 (((delV x ((o).f1) ((o).f2)).1).base)] hS rfl rfl sh28 rfl) ?_
   refine Sx.wa_tk 1 rfl rfl rfl (Sx.st_selT [true, true, false, true, true, false] h) (fun w_ hS => Sx.ov_move _ rfl) ?_
   refine Sx.wa_tk 2 rfl rfl rfl (Sx.st_selT [true, true, false, true, true, false] h) (fun w_ hS => Sx.ov_fieldAddr _ ⟨b2, 1, none⟩ _ rfl fo55_1 rfl) ?_
   refine Sx.wa_tk 3 rfl rfl rfl (Sx.st_selT [true, true, false, true, true, false] h) (fun w_ hS => Sx.ov_loadb 2 _ hS rfl rfl sh3 rfl) ?_
   refine Sx.wa_tk 4 rfl rfl rfl (Sx.st_selT [true, true, false, true, true, false] h) (fun w_ hS => Sx.ov_fieldAddr _ ⟨b2, 2, none⟩ _ rfl fo55_2 rfl) ?_
   refine Sx.wa_tk 5 rfl rfl rfl (Sx.st_selT [true, true, false, true, true, false] h) (fun w_ hS => Sx.ov_loadb 2 _ hS rfl rfl sh3 rfl) ?_
   refine Sx.wa_tk 7 rfl rfl rfl (Sx.st_selT [true, true, false, true, true, false] h) (fun w_ hS => Sx.ov_move _ rfl) ?_
   refine Sx.wa_one 6 rfl (by kernel_rfl) ?_
   replace h := Sx.st_front 5 h
   refine Sx.wl_call _ rfl rfl rfl ent29 (Delete_calls g x ((o).f1) ((o).f2) (by omega) h) ?_
   rintro e_ w_ ⟨rfl, h⟩
   refine ⟨_, rfl, ?_⟩
   refine Sx.wl_nil ?_
   refine Sx.qn_wa (Sx.st_selT [false, true, true, false, true, true] h) ?_
   refine Sx.wa_tk 8 rfl rfl rfl (Sx.st_selT [false, true, true, false, true, true] h) (fun w_ hS => Sx.ov_bin _ rfl rfl (Sx.binR_eql)) ?_
   refine Sx.wa_one 9 rfl (by kernel_rfl) ?_
   refine Sx.wl_storebN 3 [.slice (A9) ((((delV x ((o).f1) ((o).f2)).1).st).length) (cp10), .int .i64 (((delV x ((o).f1) ((o).f2)).1).base)] [.slice (A9) ((((delV x ((o).f1) ((o).f2)).1).st).length) (cp10), .int .i64 (((delV x ((o).f1) ((o).f2)).1).base)] h rfl rfl rfl rfl (by simp [Value.oneCell']) sh28 rfl rfl (fun _ h => ?_)
   refine Sx.wl_nil ?_
   refine Sx.qn_wa (Sx.st_selT [false, true, true, false, true, true] h) ?_
   refine Sx.wa_tk 10 rfl rfl rfl (Sx.st_selT [false, true, true, false, true, true] h) (fun w_ hS => Sx.ov_assign _ rfl) ?_
   refine Sx.wa_done (by kernel_rfl) ?_
   refine Sx.qn_then ?_
   refine Sx.wc_ret ?_
   refine Sx.qn_block_ret ?_
   refine Sx.qn_then_ret ?_
   have hend_ := h
   replace h := Sx.st_front 2 h
   replace h := Sx.st_front 1 h
   replace h := Sx.st_selT [true, true, false, false, false, false] h
   refine Sx.qn_ret [_, _] ⟨⟨_, rfl, Sx.loadVarN (vs := [.slice (A9) ((((delV x ((o).f1) ((o).f2)).1).st).length) (cp10), .int .i64 (((delV x ((o).f1) ((o).f2)).1).base)]) sh28 (Sx.blk_cells (cells := [.slice (A9) ((((delV x ((o).f1) ((o).f2)).1).st).length) (cp10), .int .i64 (((delV x ((o).f1) ((o).f2)).1).base)]) hend_ (i := 3) rfl 0 _ rfl)⟩, rfl, trivial⟩ ?_
   have e_ : stepV x o = (delV x ((o).f1) ((o).f2)).1 := by unfold stepV; rw [if_neg (by omega), if_pos (by omega)]
   have b_ : (decide (((delV x ((o).f1) ((o).f2)).2 : Int) = ((delV x ((o).f1) ((o).f2)).2))) = true := by first | exact decide_eq_true rfl | exact absurd rfl (by assumption)
   rw [e_]
   refine ⟨_, _, ?_, h⟩
   exact congrArg (fun z => Ending.returned (Value.tuple #[.agg #[.slice (A9) ((((delV x ((o).f1) ((o).f2)).1).st).length) (cp10), .int .i64 (((delV x ((o).f1) ((o).f2)).1).base)], .bool z])) b_
  ·
   refine Sx.wc_seq ?_
   refine Sx.wc_region ?_
   refine Sx.wl_v rfl rfl (Sx.ov_bin _ rfl rfl (Sx.binR_eql)) ?_
   refine Sx.wl_v rfl rfl (Sx.ov_assign _ rfl) ?_
   refine Sx.wl_nil ?_
   refine Sx.qn_then ?_
   refine Sx.wc_cond (by rfl) (fun c12 => ?_) (fun c12 => ?_)
   ·
    refine Sx.wc_seq ?_
    refine Sx.wc_region ?_
    refine Sx.wl_v rfl rfl (Sx.ov_loadbN 2 [.slice (A) (((x).st).length) (c), .int .i64 ((x).base)] h rfl rfl sh28 rfl) ?_
    refine Sx.wl_v rfl rfl (Sx.ov_fieldAddr _ ⟨b2, 1, none⟩ _ rfl fo55_1 rfl) ?_
    refine Sx.wl_v rfl rfl (Sx.ov_loadb 1 _ h rfl rfl sh3 rfl) ?_
    refine Sx.wl_v rfl rfl (Sx.ov_fieldAddr _ ⟨b2, 2, none⟩ _ rfl fo55_2 rfl) ?_
    refine Sx.wl_v rfl rfl (Sx.ov_loadb 1 _ h rfl rfl sh3 rfl) ?_
    refine Sx.wl_v rfl rfl (Sx.ov_fieldAddr _ ⟨b2, 3, none⟩ _ rfl fo55_3 rfl) ?_
    refine Sx.wl_v rfl rfl (Sx.ov_loadb 1 _ h rfl rfl sh3 rfl) ?_
    replace h := Sx.st_front 4 h
    refine Sx.wl_call _ rfl rfl rfl ent47 (rSet_calls (R := [Sx.blk b3 [.slice (none) (0) (0), .int .i64 (0)] 28, Sx.blk b2 [.int .i64 ((o).f0), .int .i64 ((o).f1), .int .i64 ((o).f2), .int .i64 ((o).f3), .slice (Ao) (((o).f4).length) (co)] 55, Sx.blk b1 [.slice (A) (((x).st).length) (c), .int .i64 ((x).base)] 28, listS g (x)] ++ R) (A) (c) x ((o).f1) ((o).f2) ((o).f3) (by omega) h) ?_
    rintro e_ w_ ⟨A13, cp14, rfl, h⟩
    refine ⟨_, rfl, ?_⟩
    refine Sx.wl_v rfl rfl (Sx.ov_move _ rfl) ?_
    refine Sx.wl_v rfl rfl (Sx.ov_extract [.agg #[.slice (A13) ((((setV x ((o).f1) ((o).f2) ((o).f3)).1).st).length) (cp14), .int .i64 (((setV x ((o).f1) ((o).f2) ((o).f3)).1).base)], .bool ((setV x ((o).f1) ((o).f2) ((o).f3)).2.1), .int .i64 ((setV x ((o).f1) ((o).f2) ((o).f3)).2.2)] _ rfl rfl) ?_
    refine Sx.wl_v rfl rfl (Sx.ov_extract [.agg #[.slice (A13) ((((setV x ((o).f1) ((o).f2) ((o).f3)).1).st).length) (cp14), .int .i64 (((setV x ((o).f1) ((o).f2) ((o).f3)).1).base)], .bool ((setV x ((o).f1) ((o).f2) ((o).f3)).2.1), .int .i64 ((setV x ((o).f1) ((o).f2) ((o).f3)).2.2)] _ rfl rfl) ?_
    refine Sx.wl_v rfl rfl (Sx.ov_extract [.agg #[.slice (A13) ((((setV x ((o).f1) ((o).f2) ((o).f3)).1).st).length) (cp14), .int .i64 (((setV x ((o).f1) ((o).f2) ((o).f3)).1).base)], .bool ((setV x ((o).f1) ((o).f2) ((o).f3)).2.1), .int .i64 ((setV x ((o).f1) ((o).f2) ((o).f3)).2.2)] _ rfl rfl) ?_
    refine Sx.wl_alloc _ h rfl rfl zo28 (fun b15 _ h => ?_)
    replace h : Sx.St _ _ (Sx.blk b15 [.slice (none) (0) (0), .int .i64 (0)] 28 :: _) _ := h
    refine Sx.wl_storebN 0 [.slice (A13) ((((setV x ((o).f1) ((o).f2) ((o).f3)).1).st).length) (cp14), .int .i64 (((setV x ((o).f1) ((o).f2) ((o).f3)).1).base)] [.slice (A13) ((((setV x ((o).f1) ((o).f2) ((o).f3)).1).st).length) (cp14), .int .i64 (((setV x ((o).f1) ((o).f2) ((o).f3)).1).base)] h rfl rfl rfl rfl (by simp [Value.oneCell']) sh28 rfl rfl (fun _ h => ?_)
    refine Sx.wl_v rfl rfl (Sx.ov_assign _ rfl) ?_
    refine Sx.wl_v rfl rfl (Sx.ov_assign _ rfl) ?_
    refine Sx.wl_nil ?_
    refine Sx.qn_then ?_
    refine Sx.wc_seq ?_
    refine Sx.wc_region ?_
    refine Sx.wl_v rfl rfl (Sx.ov_move _ rfl) ?_
    refine Sx.wl_v rfl rfl (Sx.ov_fieldAddr _ ⟨b2, 1, none⟩ _ rfl fo55_1 rfl) ?_
    refine Sx.wl_v rfl rfl (Sx.ov_loadb 3 _ h rfl rfl sh3 rfl) ?_
    refine Sx.wl_v rfl rfl (Sx.ov_fieldAddr _ ⟨b2, 2, none⟩ _ rfl fo55_2 rfl) ?_
    refine Sx.wl_v rfl rfl (Sx.ov_loadb 3 _ h rfl rfl sh3 rfl) ?_
    refine Sx.wl_v rfl rfl (Sx.ov_fieldAddr _ ⟨b2, 3, none⟩ _ rfl fo55_3 rfl) ?_
    refine Sx.wl_v rfl rfl (Sx.ov_loadb 3 _ h rfl rfl sh3 rfl) ?_
    replace h := Sx.st_front 5 h
    refine Sx.wl_call _ rfl rfl rfl ent30 (Set_calls g x ((o).f1) ((o).f2) ((o).f3) (by omega) h) ?_
    rintro e_ w_ ⟨rfl, h⟩
    refine ⟨_, rfl, ?_⟩
    refine Sx.wl_v rfl rfl (Sx.ov_move _ rfl) ?_
    refine Sx.wl_v rfl rfl (Sx.ov_extract [.bool ((setV x ((o).f1) ((o).f2) ((o).f3)).2.1), .int .i64 ((setV x ((o).f1) ((o).f2) ((o).f3)).2.2)] _ rfl rfl) ?_
    refine Sx.wl_v rfl rfl (Sx.ov_extract [.bool ((setV x ((o).f1) ((o).f2) ((o).f3)).2.1), .int .i64 ((setV x ((o).f1) ((o).f2) ((o).f3)).2.2)] _ rfl rfl) ?_
    refine Sx.wl_v rfl rfl (Sx.ov_assign _ rfl) ?_
    refine Sx.wl_v rfl rfl (Sx.ov_assign _ rfl) ?_
    refine Sx.wl_nil ?_
    refine Sx.qn_then ?_
    refine Sx.wc_seq ?_
    refine Sx.wc_region ?_
    refine Sx.wl_v rfl rfl (Sx.ov_loadbN 1 [.slice (A13) ((((setV x ((o).f1) ((o).f2) ((o).f3)).1).st).length) (cp14), .int .i64 (((setV x ((o).f1) ((o).f2) ((o).f3)).1).base)] h rfl rfl sh28 rfl) ?_
    refine Sx.wl_v rfl rfl (Sx.ov_move _ rfl) ?_
    refine Sx.wl_v rfl rfl (Sx.ov_move _ rfl) ?_
    refine Sx.wl_v rfl rfl (Sx.ov_bin _ rfl rfl (Sx.binR_eql)) ?_
    refine Sx.wl_v rfl rfl (Sx.ov_move _ rfl) ?_
    refine Sx.wl_split 90 rfl (fun c16 => ?_) (fun c16 => ?_)
    ·
     refine Sx.wl_v rfl rfl (Sx.ov_move _ rfl) ?_
     refine Sx.wl_v rfl rfl (Sx.ov_move _ rfl) ?_
     refine Sx.wl_v rfl rfl (Sx.ov_bin _ rfl rfl (Sx.binR_eqb Try.underlying4)) ?_
     refine Sx.wl_v rfl rfl (Sx.ov_pick_true _ rfl rfl) ?_
     refine Sx.wl_storebN 3 [.slice (A13) ((((setV x ((o).f1) ((o).f2) ((o).f3)).1).st).length) (cp14), .int .i64 (((setV x ((o).f1) ((o).f2) ((o).f3)).1).base)] [.slice (A13) ((((setV x ((o).f1) ((o).f2) ((o).f3)).1).st).length) (cp14), .int .i64 (((setV x ((o).f1) ((o).f2) ((o).f3)).1).base)] h rfl rfl rfl rfl (by simp [Value.oneCell']) sh28 rfl rfl (fun _ h => ?_)
     refine Sx.wl_v rfl rfl (Sx.ov_assign _ rfl) ?_
     refine Sx.wl_nil ?_
     refine Sx.qn_then ?_
     refine Sx.wc_ret ?_
     refine Sx.qn_block_ret ?_
     refine Sx.qn_then_ret ?_
     have hend_ := h
     replace h := Sx.st_front 2 h
     replace h := Sx.st_front 1 h
     replace h := Sx.st_selT [true, true, false, false, false, false] h
     refine Sx.qn_ret [_, _] ⟨⟨_, rfl, Sx.loadVarN (vs := [.slice (A13) ((((setV x ((o).f1) ((o).f2) ((o).f3)).1).st).length) (cp14), .int .i64 (((setV x ((o).f1) ((o).f2) ((o).f3)).1).base)]) sh28 (Sx.blk_cells (cells := [.slice (A13) ((((setV x ((o).f1) ((o).f2) ((o).f3)).1).st).length) (cp14), .int .i64 (((setV x ((o).f1) ((o).f2) ((o).f3)).1).base)]) hend_ (i := 3) rfl 0 _ rfl)⟩, rfl, trivial⟩ ?_
     have e_ : stepV x o = (setV x ((o).f1) ((o).f2) ((o).f3)).1 := by unfold stepV; rw [if_neg (by omega), if_neg (by omega), if_pos (by omega)]
     have b_ : (decide (((setV x ((o).f1) ((o).f2) ((o).f3)).2.1) = ((setV x ((o).f1) ((o).f2) ((o).f3)).2.1))) = true := by first | exact decide_eq_true rfl | exact absurd rfl (by assumption)
     rw [e_]
     refine ⟨_, _, ?_, h⟩
     exact congrArg (fun z => Ending.returned (Value.tuple #[.agg #[.slice (A13) ((((setV x ((o).f1) ((o).f2) ((o).f3)).1).st).length) (cp14), .int .i64 (((setV x ((o).f1) ((o).f2) ((o).f3)).1).base)], .bool z])) b_
    ·
     exact absurd rfl c16
   ·
    refine Sx.wc_seq ?_
    refine Sx.wc_region ?_
    refine Sx.wl_v rfl rfl (Sx.ov_bin _ rfl rfl (Sx.binR_eql)) ?_
    refine Sx.wl_v rfl rfl (Sx.ov_assign _ rfl) ?_
    refine Sx.wl_nil ?_
    refine Sx.qn_then ?_
    refine Sx.wc_cond (by rfl) (fun c17 => ?_) (fun c17 => ?_)
    ·
     refine Sx.wc_seq ?_
     refine Sx.wc_seq ?_
     refine Sx.wc_region ?_
     refine Sx.wl_v rfl rfl (Sx.ov_fieldAddr _ ⟨b2, 4, none⟩ _ rfl fo55_4 rfl) ?_
     refine Sx.wl_v rfl rfl (Sx.ov_loadb 1 _ h rfl rfl sh33 rfl) ?_
     refine Sx.wl_v rfl rfl (Sx.ov_len _ _ _ _ _ rfl es33) ?_
     refine Sx.wl_v rfl rfl (Sx.ov_bin _ rfl rfl (Sx.binR_gtr)) ?_
     refine Sx.wl_nil ?_
     refine Sx.qn_then ?_
     refine Sx.wc_cond (by rfl) (fun c18 => ?_) (fun c18 => ?_)
     ·
      refine Sx.wc_seq ?_
      refine Sx.wc_region ?_
      refine Sx.wl_v rfl rfl (Sx.ov_loadbN 2 [.slice (A) (((x).st).length) (c), .int .i64 ((x).base)] h rfl rfl sh28 rfl) ?_
      refine Sx.wl_storebN 0 [.slice (A) (((x).st).length) (c), .int .i64 ((x).base)] [.slice (A) (((x).st).length) (c), .int .i64 ((x).base)] h rfl rfl rfl rfl (by simp [Value.oneCell']) sh28 rfl rfl (fun _ h => ?_)
      refine Sx.wl_v rfl rfl (Sx.ov_assign _ rfl) ?_
      refine Sx.wl_nil ?_
      refine Sx.qn_then ?_
      refine Sx.wc_ret ?_
      refine Sx.qn_then_ret ?_
      refine Sx.qn_block_ret ?_
      refine Sx.qn_then_ret ?_
      have hend_ := h
      replace h := Sx.st_front 4 h
      replace h := Sx.st_front 4 h
      replace h := Sx.st_selT [true, true, false, false, false] h
      refine Sx.qn_ret [_, _] ⟨⟨_, rfl, Sx.loadVarN (vs := [.slice (A) (((x).st).length) (c), .int .i64 ((x).base)]) sh28 (Sx.blk_cells (cells := [.slice (A) (((x).st).length) (c), .int .i64 ((x).base)]) hend_ (i := 0) rfl 0 _ rfl)⟩, rfl, trivial⟩ ?_
      have e_ : stepV x o = x := by unfold stepV; (first | (rw [if_neg (by omega), if_neg (by omega), if_neg (by omega), if_pos (by omega), if_pos (by omega)]) | (rw [if_neg (by omega), if_neg (by omega), if_neg (by omega), if_neg (by omega)]))
      have b_ : true = true := rfl
      rw [e_]
      refine ⟨_, _, ?_, h⟩
      exact congrArg (fun z => Ending.returned (Value.tuple #[.agg #[.slice (A) (((x).st).length) (c), .int .i64 ((x).base)], .bool z])) b_
     ·
      refine Sx.wc_skip ?_
      refine Sx.qn_then ?_
      refine Sx.wc_seq ?_
      refine Sx.wc_region ?_
      refine Sx.wl_v rfl rfl (Sx.ov_loadbN 2 [.slice (A) (((x).st).length) (c), .int .i64 ((x).base)] h rfl rfl sh28 rfl) ?_
      refine Sx.wl_v rfl rfl (Sx.ov_fieldAddr _ ⟨b2, 1, none⟩ _ rfl fo55_1 rfl) ?_
      refine Sx.wl_v rfl rfl (Sx.ov_loadb 1 _ h rfl rfl sh3 rfl) ?_
      refine Sx.wl_v rfl rfl (Sx.ov_fieldAddr _ ⟨b2, 4, none⟩ _ rfl fo55_4 rfl) ?_
      refine Sx.wl_v rfl rfl (Sx.ov_loadb 1 _ h rfl rfl sh33 rfl) ?_
      replace h := Sx.st_front 4 h
      refine Sx.wl_call _ rfl rfl rfl ent48 (rLay_calls (R := [Sx.blk b3 [.slice (none) (0) (0), .int .i64 (0)] 28, Sx.blk b2 [.int .i64 ((o).f0), .int .i64 ((o).f1), .int .i64 ((o).f2), .int .i64 ((o).f3), .slice (Ao) (((o).f4).length) (co)] 55, Sx.blk b1 [.slice (A) (((x).st).length) (c), .int .i64 ((x).base)] 28, listS g (x)] ++ R) (A) (c) x ((o).f1) ((o).f4) (Ao) (co) (by omega) (fun _ _ h_ => Sx.ro_C hv h_ ho) (by omega) h) ?_
      rintro e_ w_ ⟨A19, cp20, rfl, h⟩
      refine ⟨_, rfl, ?_⟩
      refine Sx.wl_v rfl rfl (Sx.ov_move _ rfl) ?_
      refine Sx.wl_v rfl rfl (Sx.ov_extract [.agg #[.slice (A19) ((((layV x ((o).f1) ((o).f4)).1).st).length) (cp20), .int .i64 (((layV x ((o).f1) ((o).f4)).1).base)], .int .i64 ((layV x ((o).f1) ((o).f4)).2)] _ rfl rfl) ?_
      refine Sx.wl_v rfl rfl (Sx.ov_extract [.agg #[.slice (A19) ((((layV x ((o).f1) ((o).f4)).1).st).length) (cp20), .int .i64 (((layV x ((o).f1) ((o).f4)).1).base)], .int .i64 ((layV x ((o).f1) ((o).f4)).2)] _ rfl rfl) ?_
      refine Sx.wl_alloc _ h rfl rfl zo28 (fun b21 _ h => ?_)
      replace h : Sx.St _ _ (Sx.blk b21 [.slice (none) (0) (0), .int .i64 (0)] 28 :: _) _ := h
      refine Sx.wl_storebN 0 [.slice (A19) ((((layV x ((o).f1) ((o).f4)).1).st).length) (cp20), .int .i64 (((layV x ((o).f1) ((o).f4)).1).base)] [.slice (A19) ((((layV x ((o).f1) ((o).f4)).1).st).length) (cp20), .int .i64 (((layV x ((o).f1) ((o).f4)).1).base)] h rfl rfl rfl rfl (by simp [Value.oneCell']) sh28 rfl rfl (fun _ h => ?_)
      refine Sx.wl_v rfl rfl (Sx.ov_assign _ rfl) ?_
      refine Sx.wl_nil ?_
      refine Sx.qn_then ?_
      refine Sx.wc_seq ?_
      refine Sx.wc_draw (fun w => Sx.St w0 F0 ([Sx.blk b21 [.slice (A19) ((((layV x ((o).f1) ((o).f4)).1).st).length) (cp20), .int .i64 (((layV x ((o).f1) ((o).f4)).1).base)] 28, Sx.row (Kd.int .i64) 3 (A19) (cp20) (((layV x ((o).f1) ((o).f4)).1).st), Sx.blk b2 [.int .i64 ((o).f0), .int .i64 ((o).f1), .int .i64 ((o).f2), .int .i64 ((o).f3), .slice (Ao) (((o).f4).length) (co)] 55, Sx.blk b1 [.slice (A) (((x).st).length) (c), .int .i64 ((x).base)] 28] ++ R) w) (by kernel_rfl) ?_
      replace h := Sx.st_drew h
      refine Sx.wa_tk 0 rfl rfl rfl (Sx.st_selT [true, true, false, true, true, false] h) (fun w_ hS => Sx.ov_loadbN 0 [.slice (A19) ((((layV x ((o).f1) ((o).f4)).1).st).length) (cp20), .int .i64 (((layV x ((o).f1) ((o).f4)).1).base)] hS rfl rfl sh28 rfl) ?_
      refine Sx.wa_tk 1 rfl rfl rfl (Sx.st_selT [true, true, false, true, true, false] h) (fun w_ hS => Sx.ov_move _ rfl) ?_
      refine Sx.wa_tk 2 rfl rfl rfl (Sx.st_selT [true, true, false, true, true, false] h) (fun w_ hS => Sx.ov_fieldAddr _ ⟨b2, 1, none⟩ _ rfl fo55_1 rfl) ?_
      refine Sx.wa_tk 3 rfl rfl rfl (Sx.st_selT [true, true, false, true, true, false] h) (fun w_ hS => Sx.ov_loadb 2 _ hS rfl rfl sh3 rfl) ?_
      refine Sx.wa_tk 4 rfl rfl rfl (Sx.st_selT [true, true, false, true, true, false] h) (fun w_ hS => Sx.ov_fieldAddr _ ⟨b2, 4, none⟩ _ rfl fo55_4 rfl) ?_
      refine Sx.wa_tk 5 rfl rfl rfl (Sx.st_selT [true, true, false, true, true, false] h) (fun w_ hS => Sx.ov_loadb 2 _ hS rfl rfl sh33 rfl) ?_
      refine Sx.wa_tk 7 rfl rfl rfl (Sx.st_selT [true, true, false, true, true, false] h) (fun w_ hS => Sx.ov_move _ rfl) ?_
      refine Sx.wa_one 6 rfl (by kernel_rfl) ?_
      replace h := Sx.st_front 5 h
      refine Sx.wl_call _ rfl rfl rfl ent31 (Lay_calls (R := [Sx.blk b21 [.slice (A19) ((((layV x ((o).f1) ((o).f4)).1).st).length) (cp20), .int .i64 (((layV x ((o).f1) ((o).f4)).1).base)] 28, Sx.row (Kd.int .i64) 3 (A19) (cp20) (((layV x ((o).f1) ((o).f4)).1).st), Sx.blk b3 [.slice (none) (0) (0), .int .i64 (0)] 28, Sx.blk b2 [.int .i64 ((o).f0), .int .i64 ((o).f1), .int .i64 ((o).f2), .int .i64 ((o).f3), .slice (Ao) (((o).f4).length) (co)] 55, Sx.blk b1 [.slice (A) (((x).st).length) (c), .int .i64 ((x).base)] 28] ++ R) g x ((o).f1) ((o).f4) (Ao) (co) (by omega) (by omega) (fun _ _ h_ => Sx.ro_C hv h_ ho) h) ?_
      rintro e_ w_ ⟨rfl, h⟩
      refine ⟨_, rfl, ?_⟩
      refine Sx.wl_nil ?_
      refine Sx.qn_wa (Sx.st_selT [false, true, true, false, true, true] h) ?_
      refine Sx.wa_tk 8 rfl rfl rfl (Sx.st_selT [false, true, true, false, true, true] h) (fun w_ hS => Sx.ov_bin _ rfl rfl (Sx.binR_eql)) ?_
      refine Sx.wa_one 9 rfl (by kernel_rfl) ?_
      refine Sx.wl_storebN 3 [.slice (A19) ((((layV x ((o).f1) ((o).f4)).1).st).length) (cp20), .int .i64 (((layV x ((o).f1) ((o).f4)).1).base)] [.slice (A19) ((((layV x ((o).f1) ((o).f4)).1).st).length) (cp20), .int .i64 (((layV x ((o).f1) ((o).f4)).1).base)] h rfl rfl rfl rfl (by simp [Value.oneCell']) sh28 rfl rfl (fun _ h => ?_)
      refine Sx.wl_nil ?_
      refine Sx.qn_wa (Sx.st_selT [false, true, true, false, true, true] h) ?_
      refine Sx.wa_tk 10 rfl rfl rfl (Sx.st_selT [false, true, true, false, true, true] h) (fun w_ hS => Sx.ov_assign _ rfl) ?_
      refine Sx.wa_done (by kernel_rfl) ?_
      refine Sx.qn_then ?_
      refine Sx.wc_ret ?_
      refine Sx.qn_block_ret ?_
      refine Sx.qn_then_ret ?_
      have hend_ := h
      replace h := Sx.st_front 2 h
      replace h := Sx.st_front 1 h
      replace h := Sx.st_selT [true, true, false, false, false, false] h
      refine Sx.qn_ret [_, _] ⟨⟨_, rfl, Sx.loadVarN (vs := [.slice (A19) ((((layV x ((o).f1) ((o).f4)).1).st).length) (cp20), .int .i64 (((layV x ((o).f1) ((o).f4)).1).base)]) sh28 (Sx.blk_cells (cells := [.slice (A19) ((((layV x ((o).f1) ((o).f4)).1).st).length) (cp20), .int .i64 (((layV x ((o).f1) ((o).f4)).1).base)]) hend_ (i := 3) rfl 0 _ rfl)⟩, rfl, trivial⟩ ?_
      have e_ : stepV x o = (layV x ((o).f1) ((o).f4)).1 := by unfold stepV; rw [if_neg (by omega), if_neg (by omega), if_neg (by omega), if_pos (by omega), if_neg (by omega)]
      have b_ : (decide (((layV x ((o).f1) ((o).f4)).2 : Int) = ((layV x ((o).f1) ((o).f4)).2))) = true := by first | exact decide_eq_true rfl | exact absurd rfl (by assumption)
      rw [e_]
      refine ⟨_, _, ?_, h⟩
      exact congrArg (fun z => Ending.returned (Value.tuple #[.agg #[.slice (A19) ((((layV x ((o).f1) ((o).f4)).1).st).length) (cp20), .int .i64 (((layV x ((o).f1) ((o).f4)).1).base)], .bool z])) b_
    ·
     refine Sx.wc_skip ?_
     refine Sx.qn_block_normal ?_
     refine Sx.qn_then ?_
     refine Sx.wc_seq ?_
     refine Sx.wc_region ?_
     refine Sx.wl_v rfl rfl (Sx.ov_loadbN 2 [.slice (A) (((x).st).length) (c), .int .i64 ((x).base)] h rfl rfl sh28 rfl) ?_
     refine Sx.wl_storebN 0 [.slice (A) (((x).st).length) (c), .int .i64 ((x).base)] [.slice (A) (((x).st).length) (c), .int .i64 ((x).base)] h rfl rfl rfl rfl (by simp [Value.oneCell']) sh28 rfl rfl (fun _ h => ?_)
     refine Sx.wl_v rfl rfl (Sx.ov_assign _ rfl) ?_
     refine Sx.wl_nil ?_
     refine Sx.qn_then ?_
     refine Sx.wc_ret ?_
     have hend_ := h
     replace h := Sx.st_front 4 h
     replace h := Sx.st_front 4 h
     replace h := Sx.st_selT [true, true, false, false, false] h
     refine Sx.qn_ret [_, _] ⟨⟨_, rfl, Sx.loadVarN (vs := [.slice (A) (((x).st).length) (c), .int .i64 ((x).base)]) sh28 (Sx.blk_cells (cells := [.slice (A) (((x).st).length) (c), .int .i64 ((x).base)]) hend_ (i := 0) rfl 0 _ rfl)⟩, rfl, trivial⟩ ?_
     have e_ : stepV x o = x := by unfold stepV; (first | (rw [if_neg (by omega), if_neg (by omega), if_neg (by omega), if_pos (by omega), if_pos (by omega)]) | (rw [if_neg (by omega), if_neg (by omega), if_neg (by omega), if_neg (by omega)]))
     have b_ : true = true := rfl
     rw [e_]
     refine ⟨_, _, ?_, h⟩
     exact congrArg (fun z => Ending.returned (Value.tuple #[.agg #[.slice (A) (((x).st).length) (c), .int .i64 ((x).base)], .bool z])) b_
set_option maxRecDepth 100000 in
theorem small_calls {w0 w : World} {F0 : Nat → Prop} {R : List Sx.HP} (n s : Int)  (h : Sx.St w0 F0 ([] ++ R) w) : Calls Try.prog 12 #[.int .i64 (n), .int .i64 (s)] w (fun e w1 => e = .returned (.bool (decide (smallP n s))) ∧ Sx.St w0 F0 R w1) := by
 refine Sx.calls_fn (vs := [.int .i64 (n), .int .i64 (s)]) Try.func12 rfl Try.ntmps12 rfl ?_
 refine Sx.wc_seq ?_
 refine Sx.wc_region ?_
 refine Sx.wl_v rfl rfl (Sx.ov_assign _ rfl) ?_
 refine Sx.wl_nil ?_
 refine Sx.qn_then ?_
 refine Sx.wc_seq ?_
 refine Sx.wc_region ?_
 refine Sx.wl_v rfl rfl (Sx.ov_move _ rfl) ?_
 refine Sx.wl_v rfl rfl (Sx.ov_bin _ rfl rfl (Sx.binR_geq)) ?_
 refine Sx.wl_v rfl rfl (Sx.ov_move _ rfl) ?_
 refine Sx.wl_split 7 rfl (fun c1 => ?_) (fun c1 => ?_)
 ·
  refine Sx.wl_v rfl rfl (Sx.ov_move _ rfl) ?_
  refine Sx.wl_v rfl rfl (Sx.ov_bin _ rfl rfl (Sx.binR_leq)) ?_
  refine Sx.wl_v rfl rfl (Sx.ov_pick_true _ rfl rfl) ?_
  refine Sx.wl_v rfl rfl (Sx.ov_move _ rfl) ?_
  refine Sx.wl_split 11 rfl (fun c2 => ?_) (fun c2 => ?_)
  ·
   refine Sx.wl_v rfl rfl (Sx.ov_move _ rfl) ?_
   refine Sx.wl_call _ rfl rfl rfl ent35 (Style_calls (R := [] ++ R) s h) ?_
   rintro e_ w_ ⟨rfl, h⟩
   refine ⟨_, rfl, ?_⟩
   refine Sx.wl_v rfl rfl (Sx.ov_pick_true _ rfl rfl) ?_
   refine Sx.wl_v rfl rfl (Sx.ov_assign _ rfl) ?_
   refine Sx.wl_nil ?_
   refine Sx.qn_then ?_
   refine Sx.wc_ret ?_
   refine Sx.qn_ret [_] ⟨rfl, trivial⟩ ?_
   exact ⟨congrArg (fun b => Ending.returned (Value.bool b)) (decide_eq_decide.2 (by omega)), h⟩
  ·
   refine Sx.wl_skip rfl rfl ?_
   refine Sx.wl_skip rfl rfl ?_
   refine Sx.wl_v rfl rfl (Sx.ov_pick_false _ rfl rfl) ?_
   refine Sx.wl_v rfl rfl (Sx.ov_assign _ rfl) ?_
   refine Sx.wl_nil ?_
   refine Sx.qn_then ?_
   refine Sx.wc_ret ?_
   refine Sx.qn_ret [_] ⟨rfl, trivial⟩ ?_
   exact ⟨congrArg (fun b => Ending.returned (Value.bool b)) ((decide_eq_false (show ¬ (smallP n s) by omega)).symm), h⟩
 ·
  refine Sx.wl_skip rfl rfl ?_
  refine Sx.wl_skip rfl rfl ?_
  refine Sx.wl_v rfl rfl (Sx.ov_pick_false _ rfl rfl) ?_
  refine Sx.wl_v rfl rfl (Sx.ov_move _ rfl) ?_
  refine Sx.wl_skip rfl rfl ?_
  refine Sx.wl_skip rfl rfl ?_
  refine Sx.wl_v rfl rfl (Sx.ov_pick_false _ rfl rfl) ?_
  refine Sx.wl_v rfl rfl (Sx.ov_assign _ rfl) ?_
  refine Sx.wl_nil ?_
  refine Sx.qn_then ?_
  refine Sx.wc_ret ?_
  refine Sx.qn_ret [_] ⟨rfl, trivial⟩ ?_
  exact ⟨congrArg (fun b => Ending.returned (Value.bool b)) ((decide_eq_false (show ¬ (smallP n s) by omega)).symm), h⟩
set_option maxRecDepth 100000 in
theorem played_calls {w0 w : World} {F0 : Nat → Prop} {R : List Sx.HP} {v0 : World} (n s : Int) (script : List S55) (As : Option Addr) (cs : Nat) (hv : Sx.RO v0 w0 F0) (hlc : script.length ≤ cs) (hC : k55.C v0 As script.length script) (hn : n ≤ 500) (hE : newE n s = 0) (h : Sx.St w0 F0 ([] ++ R) w) : Calls Try.prog 13 #[.int .i64 (n), .int .i64 (s), .slice (As) (script.length) (cs)] w (fun e w1 => ∃ g A c, e = .returned (.tuple #[.pointer (some ⟨g, 0, none⟩), .agg #[.slice A ((playV (newL n s) script 40).st).length c, .int .i64 (playV (newL n s) script 40).base]]) ∧ (playV (newL n s) script 40).st.length ≤ 65536 ∧ Sx.St w0 F0 (listS g (playV (newL n s) script 40) :: Sx.row (Kd.int .i64) 3 A c (playV (newL n s) script 40).st :: R) w1) := by
 refine Sx.calls_fn (vs := [.int .i64 (n), .int .i64 (s), .slice (As) (script.length) (cs)]) Try.func13 rfl Try.ntmps13 rfl ?_
 refine Sx.wc_seq ?_
 refine Sx.wc_region ?_
 refine Sx.wl_v rfl rfl (Sx.ov_assign _ rfl) ?_
 refine Sx.wl_alloc _ h rfl rfl zo28 (fun b1 _ h => ?_)
 replace h : Sx.St _ _ (Sx.blk b1 [.slice (none) (0) (0), .int .i64 (0)] 28 :: _) _ := h
 refine Sx.wl_nil ?_
 refine Sx.qn_then ?_
 refine Sx.wc_seq ?_
 refine Sx.wc_region ?_
 refine Sx.wl_v rfl rfl (Sx.ov_move _ rfl) ?_
 refine Sx.wl_v rfl rfl (Sx.ov_move _ rfl) ?_
 refine Sx.wl_call _ rfl rfl rfl ent21 (New_calls (R := [Sx.blk b1 [.slice (none) (0) (0), .int .i64 (0)] 28] ++ R) n s h) ?_
 rintro e_ w_ (⟨hn3, rfl, h⟩ | ⟨hn3, g2, rfl, h⟩)
 ·
  omega
 ·
  refine ⟨_, rfl, ?_⟩
  refine Sx.wl_v rfl rfl (Sx.ov_move _ rfl) ?_
  refine Sx.wl_v rfl rfl (Sx.ov_extract [.pointer (some ⟨g2, 0, none⟩), .int .i64 (0)] _ rfl rfl) ?_
  refine Sx.wl_v rfl rfl (Sx.ov_extract [.pointer (some ⟨g2, 0, none⟩), .int .i64 (0)] _ rfl rfl) ?_
  refine Sx.wl_v rfl rfl (Sx.ov_assign _ rfl) ?_
  refine Sx.wl_v rfl rfl (Sx.ov_assign _ rfl) ?_
  refine Sx.wl_nil ?_
  refine Sx.qn_then ?_
  refine Sx.wc_seq ?_
  refine Sx.wc_region ?_
  refine Sx.wl_v rfl rfl (Sx.ov_move _ rfl) ?_
  refine Sx.wl_v rfl rfl (Sx.ov_move _ rfl) ?_
  refine Sx.wl_call _ rfl rfl rfl ent22 (rNew_calls (R := [listS g2 ((⟨List.replicate (n : Int).toNat s, s⟩ : LS)), Sx.blk b1 [.slice (none) (0) (0), .int .i64 (0)] 28] ++ R) n s h) ?_
  rintro e_ w_ ⟨A4, cp5, rfl, h⟩
  refine ⟨_, rfl, ?_⟩
  refine Sx.wl_v rfl rfl (Sx.ov_move _ rfl) ?_
  refine Sx.wl_v rfl rfl (Sx.ov_extract [.agg #[.slice (A4) ((((newL n s)).st).length) (cp5), .int .i64 (((newL n s)).base)], .int .i64 (newE n s)] _ rfl rfl) ?_
  refine Sx.wl_v rfl rfl (Sx.ov_extract [.agg #[.slice (A4) ((((newL n s)).st).length) (cp5), .int .i64 (((newL n s)).base)], .int .i64 (newE n s)] _ rfl rfl) ?_
  refine Sx.wl_alloc _ h rfl rfl zo28 (fun b6 _ h => ?_)
  replace h : Sx.St _ _ (Sx.blk b6 [.slice (none) (0) (0), .int .i64 (0)] 28 :: _) _ := h
  refine Sx.wl_storebN 0 [.slice (A4) ((((newL n s)).st).length) (cp5), .int .i64 (((newL n s)).base)] [.slice (A4) ((((newL n s)).st).length) (cp5), .int .i64 (((newL n s)).base)] h rfl rfl rfl rfl (by simp [Value.oneCell']) sh28 rfl rfl (fun _ h => ?_)
  refine Sx.wl_v rfl rfl (Sx.ov_assign _ rfl) ?_
  refine Sx.wl_nil ?_
  refine Sx.qn_then ?_
  refine Sx.wc_seq ?_
  refine Sx.wc_seq ?_
  refine Sx.wc_region ?_
  refine Sx.wl_v rfl rfl (Sx.ov_move _ rfl) ?_
  refine Sx.wl_v rfl rfl (Sx.ov_move _ rfl) ?_
  refine Sx.wl_v rfl rfl (Sx.ov_bin _ rfl rfl (Sx.binR_neq)) ?_
  refine Sx.wl_v rfl rfl (Sx.ov_move _ rfl) ?_
  refine Sx.wl_split 30 rfl (fun c7 => ?_) (fun c7 => ?_)
  ·
   omega
  ·
   refine Sx.wl_v rfl rfl (Sx.ov_move _ rfl) ?_
   refine Sx.wl_v rfl rfl (Sx.ov_bin (.bool false) rfl rfl (Sx.binR_eqnil Try.underlying25)) ?_
   refine Sx.wl_v rfl rfl (Sx.ov_pick_false _ rfl rfl) ?_
   refine Sx.wl_nil ?_
   refine Sx.qn_then ?_
   refine Sx.wc_cond_false rfl ?_
   refine Sx.wc_skip ?_
   refine Sx.qn_then ?_
   refine Sx.wc_seq ?_
   refine Sx.wc_seq ?_
   refine Sx.wc_region ?_
   refine Sx.wl_v rfl rfl (Sx.ov_assign _ rfl) ?_
   refine Sx.wl_nil ?_
   refine Sx.qn_then ?_
   refine Sx.wc_block ?_
   have e_ : (⟨List.replicate (n : Int).toNat s, s⟩ : LS) = (newL n s) := by (first | rfl | (unfold newL; rw [if_neg (by omega)]))
   replace h := Sx.st_cast (congrArg (fun z_ => ([Sx.blk b6 [.slice (A4) ((((newL n s)).st).length) (cp5), .int .i64 (((newL n s)).base)] 28, Sx.row (Kd.int .i64) 3 (A4) (cp5) (((newL n s)).st), listS g2 (z_), Sx.blk b1 [.slice (none) (0) (0), .int .i64 (0)] 28] ++ R)) e_) h
   clear e_
   replace h := Sx.st_front 1 h
   replace h := Sx.st_front 1 h
   replace h := Sx.st_front 3 h
   replace h := Sx.st_front 3 h
   refine Sx.wc_loop (fun (x_ : LS × Nat × (Option Addr) × Nat) => [(0, .int .i64 (n)), (1, .int .i64 (s)), (2, .slice (As) (script.length) (cs)), (7, .pointer (some ⟨b1, 0, none⟩)), (8, .pointer (some ⟨g2, 0, none⟩)), (10, .pointer (some ⟨b6, 0, none⟩)), (12, .int .i64 ((x_.2.1 : Int)))]) (fun (x_ : LS × Nat × (Option Addr) × Nat) (w : World) => ((x_.1).st.length ≤ 65536 ∧ x_.2.1 ≤ script.length ∧ x_.2.1 ≤ 40 ∧ playV x_.1 (script.drop x_.2.1) (40 - x_.2.1) = playV (newL n s) script 40) ∧ Sx.St w0 F0 ([listS g2 (x_.1), Sx.blk b1 [.slice (none) (0) (0), .int .i64 (0)] 28, Sx.blk b6 [.slice (x_.2.2.1) (((x_.1).st).length) (x_.2.2.2), .int .i64 ((x_.1).base)] 28, Sx.row (Kd.int .i64) 3 (x_.2.2.1) (x_.2.2.2) ((x_.1).st)] ++ R) w) (fun (x_ : LS × Nat × (Option Addr) × Nat) => 40 - x_.2.1) ((newL n s), 0, A4, cp5) ?_ ?_ ?_
   · exact ⟨rfl, rfl, rfl, rfl, rfl, rfl, (congrArg (fun z_ => some (Value.int .i64 z_)) (show (0 : Int) = (0 : Int) by omega)), trivial⟩
   · exact ⟨⟨newL_len hn, Nat.zero_le _, Nat.zero_le _, rfl⟩, h⟩
   rintro ⟨y, i, A, c⟩ w h
   obtain ⟨hJ, h⟩ := h
   replace hJ : (y).st.length ≤ 65536 ∧ i ≤ script.length ∧ i ≤ 40 ∧ playV y (script.drop i) (40 - i) = playV (newL n s) script 40 := hJ
   replace h : Sx.St w0 F0 ([listS g2 (y), Sx.blk b1 [.slice (none) (0) (0), .int .i64 (0)] 28, Sx.blk b6 [.slice (A) (((y).st).length) (c), .int .i64 ((y).base)] 28, Sx.row (Kd.int .i64) 3 (A) (c) ((y).st)] ++ R) w := h
   show Sx.WC _ _ _ _ [(0, .int .i64 (n)), (1, .int .i64 (s)), (2, .slice (As) (script.length) (cs)), (7, .pointer (some ⟨b1, 0, none⟩)), (8, .pointer (some ⟨g2, 0, none⟩)), (10, .pointer (some ⟨b6, 0, none⟩)), (12, .int .i64 ((i : Int)))] _
   refine Sx.wc_seq ?_
   refine Sx.wc_seq ?_
   refine Sx.wc_region ?_
   refine Sx.wl_v rfl rfl (Sx.ov_move _ rfl) ?_
   refine Sx.wl_v rfl rfl (Sx.ov_move _ rfl) ?_
   refine Sx.wl_v rfl rfl (Sx.ov_len _ _ _ _ _ rfl es22) ?_
   refine Sx.wl_v rfl rfl (Sx.ov_bin _ rfl rfl (Sx.binR_lss)) ?_
   refine Sx.wl_v rfl rfl (Sx.ov_move _ rfl) ?_
   refine Sx.wl_split 39 rfl (fun c8 => ?_) (fun c8 => ?_)
   ·
    refine Sx.wl_v rfl rfl (Sx.ov_move _ rfl) ?_
    refine Sx.wl_v rfl rfl (Sx.ov_bin _ rfl rfl (Sx.binR_lss)) ?_
    refine Sx.wl_v rfl rfl (Sx.ov_pick_true _ rfl rfl) ?_
    refine Sx.wl_nil ?_
    refine Sx.qn_then ?_
    refine Sx.wc_cond (by rfl) (fun c9 => ?_) (fun c9 => ?_)
    ·
     refine Sx.wc_skip ?_
     refine Sx.qn_then ?_
     refine Sx.wc_seq ?_
     refine Sx.wc_block ?_
     refine Sx.wc_seq ?_
     refine Sx.wc_seq ?_
     refine Sx.wc_region ?_
     refine Sx.wl_v rfl rfl (Sx.ov_fieldAddr _ ⟨b6, 0, none⟩ _ rfl fo28_0 rfl) ?_
     refine Sx.wl_v rfl rfl (Sx.ov_loadb 2 _ h rfl rfl sh26 rfl) ?_
     refine Sx.wl_v rfl rfl (Sx.ov_len _ _ _ _ _ rfl es26) ?_
     refine Sx.wl_v rfl rfl (Sx.ov_bin _ rfl rfl (Sx.binR_gtr)) ?_
     refine Sx.wl_nil ?_
     refine Sx.qn_then ?_
     refine Sx.wc_cond (by rfl) (fun c10 => ?_) (fun c10 => ?_)
     ·
      refine Sx.wc_seq ?_
      refine Sx.wc_draw (fun w => Sx.St w0 F0 ([listS g2 (y), Sx.blk b6 [.slice (A) (((y).st).length) (c), .int .i64 ((y).base)] 28, Sx.row (Kd.int .i64) 3 (A) (c) ((y).st)] ++ R) w) (by kernel_rfl) ?_
      replace h := Sx.st_drew h
      refine Sx.wa_tk 0 rfl rfl rfl (Sx.st_selT [true, false, true, true] h) (fun w_ hS => Sx.ov_move _ rfl) ?_
      refine Sx.wa_tk 1 rfl rfl rfl (Sx.st_selT [true, false, true, true] h) (fun w_ hS => Sx.ov_loadbN 1 [.slice (A) (((y).st).length) (c), .int .i64 ((y).base)] hS rfl rfl sh28 rfl) ?_
      refine Sx.wa_tk 2 rfl rfl rfl (Sx.st_selT [true, false, true, true] h) (fun w_ hS => Sx.ov_assign _ rfl) ?_
      refine Sx.wa_one 3 rfl (by kernel_rfl) ?_
      refine Sx.wl_storebN 1 [.slice (A) (((y).st).length) (c), .int .i64 ((y).base)] [.slice (A) (((y).st).length) (c), .int .i64 ((y).base)] h rfl rfl rfl rfl (by simp [Value.oneCell']) sh28 rfl rfl (fun _ h => ?_)
      refine Sx.wl_nil ?_
      refine Sx.qn_wa (Sx.st_selT [true, false, true, true] h) ?_
      refine Sx.wa_done (by kernel_rfl) ?_
      refine Sx.qn_then ?_
      refine Sx.wc_ret ?_
      refine Sx.qn_then_ret ?_
      refine Sx.qn_block_ret ?_
      refine Sx.qn_then_ret ?_
      refine Sx.qn_then_ret ?_
      refine Sx.qn_block_ret ?_
      refine Sx.qn_then_ret ?_
      have hend_ := h
      have e_ : playV (newL n s) script 40 = y := by rw [← hJ.2.2.2]; first | exact play_stop (by omega) _ _ | exact play_end (by omega)
      replace h := Sx.st_front 3 h
      replace h := Sx.st_front 1 h
      replace h := Sx.st_selT [true, true, false, false] h
      refine Sx.qn_ret [_, _] ⟨rfl, ⟨_, rfl, Sx.loadVarN (vs := [.slice (A) (((y).st).length) (c), .int .i64 ((y).base)]) sh28 (Sx.blk_cells (cells := [.slice (A) (((y).st).length) (c), .int .i64 ((y).base)]) hend_ (i := 1) rfl 0 _ rfl)⟩, trivial⟩ ?_
      rw [e_]
      exact ⟨_, _, _, rfl, hJ.1, h⟩
     ·
      have hps := play_step (x := y) (l := script) (i := i) (by omega) (by omega) c10 z55
      refine Sx.wc_skip ?_
      refine Sx.qn_then ?_
      refine Sx.wc_seq ?_
      refine Sx.wc_draw (fun w => Sx.St w0 F0 ([Sx.blk b1 [.slice (none) (0) (0), .int .i64 (0)] 28, Sx.blk b6 [.slice (A) (((y).st).length) (c), .int .i64 ((y).base)] 28] ++ R) w) (by kernel_rfl) ?_
      replace h := Sx.st_drew h
      refine Sx.wa_tk 0 rfl rfl rfl (Sx.st_selT [false, true, true, false] h) (fun w_ hS => Sx.ov_move _ rfl) ?_
      refine Sx.wa_tk 1 rfl rfl rfl (Sx.st_selT [false, true, true, false] h) (fun w_ hS => Sx.ov_loadbN 1 [.slice (A) (((y).st).length) (c), .int .i64 ((y).base)] hS rfl rfl sh28 rfl) ?_
      refine Sx.wa_tk 2 rfl rfl rfl (Sx.st_selT [false, true, true, false] h) (fun w_ hS => Sx.ov_move _ rfl) ?_
      refine Sx.wa_tk 3 rfl rfl rfl (Sx.st_selT [false, true, true, false] h) (fun w_ hS => Sx.ov_move _ rfl) ?_
      obtain ⟨ad11, rfl⟩ := Sx.C_some ((Sx.ro_C hv h hC)) (k := i) (by first | assumption | omega)
      refine Sx.wa_tk 4 rfl rfl rfl (Sx.st_selT [false, true, true, false] h) (fun w_ hS => Sx.ov_indexAddrN _ _ _ _ _ i rfl rfl es22 rfl (by first | assumption | omega | (simp only [List.length_take, List.length_drop, List.length_set]; omega))) ?_
      obtain ⟨cl14, _, hk13, hc12⟩ := Sx.C_cells (hC) (z := z55) (k := i) (by first | assumption | omega)
      obtain ⟨A15, cp16, rfl, hl17, hn18⟩ := k55_open hk13
      refine Sx.wa_tk 5 rfl rfl rfl (Sx.st_selT [false, true, true, false] h) (fun w_ hS => Sx.ov_loadN _ [.int .i64 ((((script).getD i z55)).f0), .int .i64 ((((script).getD i z55)).f1), .int .i64 ((((script).getD i z55)).f2), .int .i64 ((((script).getD i z55)).f3), .slice (A15) (((((script).getD i z55)).f4).length) (cp16)] rfl sh55 (by intro j u hu; rw [Deep.add_add]; exact Sx.ro_cell hv hS (hc12 _ _ hu))) ?_
      refine Sx.wa_two 6 10 rfl rfl (by kernel_rfl) ?_ ?_
      ·
       replace h := Sx.st_front 3 h
       replace h := Sx.st_front 1 h
       refine Sx.wl_call _ rfl rfl rfl ent36 (step_calls (R := [Sx.blk b1 [.slice (none) (0) (0), .int .i64 (0)] 28, Sx.blk b6 [.slice (A) (((y).st).length) (c), .int .i64 ((y).base)] 28] ++ R) g2 (A) (c) y ((((script).getD i z55))) (A15) (cp16) hv (by omega) hl17 hn18 h) ?_
       rintro e_ w_ ⟨A19, cp20, rfl, h⟩
       refine ⟨_, rfl, ?_⟩
       refine Sx.wl_nil ?_
       refine Sx.qn_wa (Sx.st_selT [false, false, true, true] h) ?_
       refine Sx.wa_tk 7 rfl rfl rfl (Sx.st_selT [false, false, true, true] h) (fun w_ hS => Sx.ov_move _ rfl) ?_
       refine Sx.wa_tk 8 rfl rfl rfl (Sx.st_selT [false, false, true, true] h) (fun w_ hS => Sx.ov_extract [.agg #[.slice (A19) ((((stepV y ((((script).getD i z55))))).st).length) (cp20), .int .i64 (((stepV y ((((script).getD i z55))))).base)], .bool true] _ rfl rfl) ?_
       refine Sx.wa_tk 9 rfl rfl rfl (Sx.st_selT [false, false, true, true] h) (fun w_ hS => Sx.ov_extract [.agg #[.slice (A19) ((((stepV y ((((script).getD i z55))))).st).length) (cp20), .int .i64 (((stepV y ((((script).getD i z55))))).base)], .bool true] _ rfl rfl) ?_
       refine Sx.wa_one 10 rfl (by kernel_rfl) ?_
       refine Sx.wl_alloc _ h rfl rfl zo28 (fun b21 _ h => ?_)
       replace h : Sx.St _ _ (Sx.blk b21 [.slice (none) (0) (0), .int .i64 (0)] 28 :: _) _ := h
       refine Sx.wl_nil ?_
       refine Sx.qn_wa (Sx.st_selT [false, false, false, true, true] h) ?_
       refine Sx.wa_one 11 rfl (by kernel_rfl) ?_
       refine Sx.wl_storebN 0 [.slice (A19) ((((stepV y ((((script).getD i z55))))).st).length) (cp20), .int .i64 (((stepV y ((((script).getD i z55))))).base)] [.slice (A19) ((((stepV y ((((script).getD i z55))))).st).length) (cp20), .int .i64 (((stepV y ((((script).getD i z55))))).base)] h rfl rfl rfl rfl (by simp [Value.oneCell']) sh28 rfl rfl (fun _ h => ?_)
       refine Sx.wl_nil ?_
       refine Sx.qn_wa (Sx.st_selT [false, false, false, true, true] h) ?_
       refine Sx.wa_tk 12 rfl rfl rfl (Sx.st_selT [false, false, false, true, true] h) (fun w_ hS => Sx.ov_assign _ rfl) ?_
       refine Sx.wa_done (by kernel_rfl) ?_
       refine Sx.qn_then ?_
       refine Sx.wc_seq ?_
       refine Sx.wc_seq ?_
       refine Sx.wc_region ?_
       refine Sx.wl_v rfl rfl (Sx.ov_move _ rfl) ?_
       refine Sx.wl_v rfl rfl (Sx.ov_notb _ rfl) ?_
       refine Sx.wl_nil ?_
       refine Sx.qn_then ?_
       refine Sx.wc_cond_false rfl ?_
       refine Sx.wc_skip ?_
       refine Sx.qn_then ?_
       refine Sx.wc_region ?_
       refine Sx.wl_v rfl rfl (Sx.ov_loadbN 0 [.slice (A19) ((((stepV y ((((script).getD i z55))))).st).length) (cp20), .int .i64 (((stepV y ((((script).getD i z55))))).base)] h rfl rfl sh28 rfl) ?_
       refine Sx.wl_storebN 4 [.slice (A19) ((((stepV y ((((script).getD i z55))))).st).length) (cp20), .int .i64 (((stepV y ((((script).getD i z55))))).base)] [.slice (A19) ((((stepV y ((((script).getD i z55))))).st).length) (cp20), .int .i64 (((stepV y ((((script).getD i z55))))).base)] h rfl rfl rfl rfl (by simp [Value.oneCell']) sh28 rfl rfl (fun _ h => ?_)
       refine Sx.wl_nil ?_
       refine Sx.qn_block_normal ?_
       refine Sx.qn_then ?_
       refine Sx.wc_region ?_
       refine Sx.wl_v rfl rfl (Sx.ov_move _ rfl) ?_
       refine Sx.wl_v rfl rfl (Sx.ov_bin _ rfl rfl (Sx.binR_add (r := ((i : Int)) + 1) (Sx.w64 (by omega)))) ?_
       refine Sx.wl_v rfl rfl (Sx.ov_assign _ rfl) ?_
       refine Sx.wl_nil ?_
       replace h := Sx.st_front 2 h
       replace h := Sx.st_front 4 h
       replace h := Sx.st_front 4 h
       replace h := Sx.st_front 4 h
       replace h := Sx.st_selT [true, true, true, true, false] h
       refine Sx.qn_next ((stepV y ((((script).getD i z55)))), (i + 1), A19, cp20) (by show 40 - (i + 1) < 40 - i; omega) ⟨rfl, rfl, (congrArg (fun z_ => some (Value.slice (some ad11) z_ (cs))) (show (script.length : Nat) = script.length by first | rfl | simp)), rfl, rfl, rfl, (congrArg (fun z_ => some (Value.int .i64 z_)) (show (((i : Int)) + 1 : Int) = ((i + 1) : Int) by omega)), trivial⟩ ?_
       show (((stepV y ((((script).getD i z55))))).st.length ≤ 65536 ∧ (i + 1) ≤ script.length ∧ (i + 1) ≤ 40 ∧ playV (stepV y ((((script).getD i z55)))) (script.drop (i + 1)) (40 - (i + 1)) = playV (newL n s) script 40) ∧ _
       exact ⟨⟨stepV_len hJ.1, by omega, by omega, hps ▸ hJ.2.2.2⟩, h⟩
      ·
       refine Sx.wl_alloc _ h rfl rfl zo28 (fun b22 _ h => ?_)
       replace h : Sx.St _ _ (Sx.blk b22 [.slice (none) (0) (0), .int .i64 (0)] 28 :: _) _ := h
       refine Sx.wl_nil ?_
       refine Sx.qn_wa (Sx.st_selT [false, false, true, true, false] h) ?_
       refine Sx.wa_one 6 rfl (by kernel_rfl) ?_
       replace h := Sx.st_front 4 h
       replace h := Sx.st_front 2 h
       refine Sx.wl_call _ rfl rfl rfl ent36 (step_calls (R := [Sx.blk b22 [.slice (none) (0) (0), .int .i64 (0)] 28, Sx.blk b1 [.slice (none) (0) (0), .int .i64 (0)] 28, Sx.blk b6 [.slice (A) (((y).st).length) (c), .int .i64 ((y).base)] 28] ++ R) g2 (A) (c) y ((((script).getD i z55))) (A15) (cp16) hv (by omega) hl17 hn18 h) ?_
       rintro e_ w_ ⟨A23, cp24, rfl, h⟩
       refine ⟨_, rfl, ?_⟩
       refine Sx.wl_nil ?_
       refine Sx.qn_wa (Sx.st_selT [false, false, false, true, true] h) ?_
       refine Sx.wa_tk 7 rfl rfl rfl (Sx.st_selT [false, false, false, true, true] h) (fun w_ hS => Sx.ov_move _ rfl) ?_
       refine Sx.wa_tk 8 rfl rfl rfl (Sx.st_selT [false, false, false, true, true] h) (fun w_ hS => Sx.ov_extract [.agg #[.slice (A23) ((((stepV y ((((script).getD i z55))))).st).length) (cp24), .int .i64 (((stepV y ((((script).getD i z55))))).base)], .bool true] _ rfl rfl) ?_
       refine Sx.wa_tk 9 rfl rfl rfl (Sx.st_selT [false, false, false, true, true] h) (fun w_ hS => Sx.ov_extract [.agg #[.slice (A23) ((((stepV y ((((script).getD i z55))))).st).length) (cp24), .int .i64 (((stepV y ((((script).getD i z55))))).base)], .bool true] _ rfl rfl) ?_
       refine Sx.wa_one 11 rfl (by kernel_rfl) ?_
       refine Sx.wl_storebN 2 [.slice (A23) ((((stepV y ((((script).getD i z55))))).st).length) (cp24), .int .i64 (((stepV y ((((script).getD i z55))))).base)] [.slice (A23) ((((stepV y ((((script).getD i z55))))).st).length) (cp24), .int .i64 (((stepV y ((((script).getD i z55))))).base)] h rfl rfl rfl rfl (by simp [Value.oneCell']) sh28 rfl rfl (fun _ h => ?_)
       refine Sx.wl_nil ?_
       refine Sx.qn_wa (Sx.st_selT [false, false, false, true, true] h) ?_
       refine Sx.wa_tk 12 rfl rfl rfl (Sx.st_selT [false, false, false, true, true] h) (fun w_ hS => Sx.ov_assign _ rfl) ?_
       refine Sx.wa_done (by kernel_rfl) ?_
       refine Sx.qn_then ?_
       refine Sx.wc_seq ?_
       refine Sx.wc_seq ?_
       refine Sx.wc_region ?_
       refine Sx.wl_v rfl rfl (Sx.ov_move _ rfl) ?_
       refine Sx.wl_v rfl rfl (Sx.ov_notb _ rfl) ?_
       refine Sx.wl_nil ?_
       refine Sx.qn_then ?_
       refine Sx.wc_cond_false rfl ?_
       refine Sx.wc_skip ?_
       refine Sx.qn_then ?_
       refine Sx.wc_region ?_
       refine Sx.wl_v rfl rfl (Sx.ov_loadbN 2 [.slice (A23) ((((stepV y ((((script).getD i z55))))).st).length) (cp24), .int .i64 (((stepV y ((((script).getD i z55))))).base)] h rfl rfl sh28 rfl) ?_
       refine Sx.wl_storebN 4 [.slice (A23) ((((stepV y ((((script).getD i z55))))).st).length) (cp24), .int .i64 (((stepV y ((((script).getD i z55))))).base)] [.slice (A23) ((((stepV y ((((script).getD i z55))))).st).length) (cp24), .int .i64 (((stepV y ((((script).getD i z55))))).base)] h rfl rfl rfl rfl (by simp [Value.oneCell']) sh28 rfl rfl (fun _ h => ?_)
       refine Sx.wl_nil ?_
       refine Sx.qn_block_normal ?_
       refine Sx.qn_then ?_
       refine Sx.wc_region ?_
       refine Sx.wl_v rfl rfl (Sx.ov_move _ rfl) ?_
       refine Sx.wl_v rfl rfl (Sx.ov_bin _ rfl rfl (Sx.binR_add (r := ((i : Int)) + 1) (Sx.w64 (by omega)))) ?_
       refine Sx.wl_v rfl rfl (Sx.ov_assign _ rfl) ?_
       refine Sx.wl_nil ?_
       replace h := Sx.st_front 1 h
       replace h := Sx.st_front 4 h
       replace h := Sx.st_front 4 h
       replace h := Sx.st_front 3 h
       replace h := Sx.st_selT [true, true, true, true, false] h
       refine Sx.qn_next ((stepV y ((((script).getD i z55)))), (i + 1), A23, cp24) (by show 40 - (i + 1) < 40 - i; omega) ⟨rfl, rfl, (congrArg (fun z_ => some (Value.slice (some ad11) z_ (cs))) (show (script.length : Nat) = script.length by first | rfl | simp)), rfl, rfl, rfl, (congrArg (fun z_ => some (Value.int .i64 z_)) (show (((i : Int)) + 1 : Int) = ((i + 1) : Int) by omega)), trivial⟩ ?_
       show (((stepV y ((((script).getD i z55))))).st.length ≤ 65536 ∧ (i + 1) ≤ script.length ∧ (i + 1) ≤ 40 ∧ playV (stepV y ((((script).getD i z55)))) (script.drop (i + 1)) (40 - (i + 1)) = playV (newL n s) script 40) ∧ _
       exact ⟨⟨stepV_len hJ.1, by omega, by omega, hps ▸ hJ.2.2.2⟩, h⟩
    ·
     refine Sx.wc_exit ?_
     refine Sx.qn_then_exit ?_
     refine Sx.qn_then_exit ?_
     refine Sx.qn_block_exit ?_
     refine Sx.qn_then ?_
     refine Sx.wc_seq ?_
     refine Sx.wc_draw (fun w => Sx.St w0 F0 ([listS g2 (y), Sx.blk b6 [.slice (A) (((y).st).length) (c), .int .i64 ((y).base)] 28, Sx.row (Kd.int .i64) 3 (A) (c) ((y).st)] ++ R) w) (by kernel_rfl) ?_
     replace h := Sx.st_drew h
     refine Sx.wa_tk 0 rfl rfl rfl (Sx.st_selT [true, false, true, true] h) (fun w_ hS => Sx.ov_move _ rfl) ?_
     refine Sx.wa_tk 1 rfl rfl rfl (Sx.st_selT [true, false, true, true] h) (fun w_ hS => Sx.ov_loadbN 1 [.slice (A) (((y).st).length) (c), .int .i64 ((y).base)] hS rfl rfl sh28 rfl) ?_
     refine Sx.wa_tk 2 rfl rfl rfl (Sx.st_selT [true, false, true, true] h) (fun w_ hS => Sx.ov_assign _ rfl) ?_
     refine Sx.wa_one 3 rfl (by kernel_rfl) ?_
     refine Sx.wl_storebN 1 [.slice (A) (((y).st).length) (c), .int .i64 ((y).base)] [.slice (A) (((y).st).length) (c), .int .i64 ((y).base)] h rfl rfl rfl rfl (by simp [Value.oneCell']) sh28 rfl rfl (fun _ h => ?_)
     refine Sx.wl_nil ?_
     refine Sx.qn_wa (Sx.st_selT [true, false, true, true] h) ?_
     refine Sx.wa_done (by kernel_rfl) ?_
     refine Sx.qn_then ?_
     refine Sx.wc_ret ?_
     have hend_ := h
     have e_ : playV (newL n s) script 40 = y := by rw [← hJ.2.2.2]; first | exact play_stop (by omega) _ _ | exact play_end (by omega)
     replace h := Sx.st_front 3 h
     replace h := Sx.st_front 1 h
     replace h := Sx.st_selT [true, true, false, false] h
     refine Sx.qn_ret [_, _] ⟨rfl, ⟨_, rfl, Sx.loadVarN (vs := [.slice (A) (((y).st).length) (c), .int .i64 ((y).base)]) sh28 (Sx.blk_cells (cells := [.slice (A) (((y).st).length) (c), .int .i64 ((y).base)]) hend_ (i := 1) rfl 0 _ rfl)⟩, trivial⟩ ?_
     rw [e_]
     exact ⟨_, _, _, rfl, hJ.1, h⟩
   ·
    refine Sx.wl_skip rfl rfl ?_
    refine Sx.wl_skip rfl rfl ?_
    refine Sx.wl_v rfl rfl (Sx.ov_pick_false _ rfl rfl) ?_
    refine Sx.wl_nil ?_
    refine Sx.qn_then ?_
    refine Sx.wc_cond_false rfl ?_
    refine Sx.wc_exit ?_
    refine Sx.qn_then_exit ?_
    refine Sx.qn_then_exit ?_
    refine Sx.qn_block_exit ?_
    refine Sx.qn_then ?_
    refine Sx.wc_seq ?_
    refine Sx.wc_draw (fun w => Sx.St w0 F0 ([listS g2 (y), Sx.blk b6 [.slice (A) (((y).st).length) (c), .int .i64 ((y).base)] 28, Sx.row (Kd.int .i64) 3 (A) (c) ((y).st)] ++ R) w) (by kernel_rfl) ?_
    replace h := Sx.st_drew h
    refine Sx.wa_tk 0 rfl rfl rfl (Sx.st_selT [true, false, true, true] h) (fun w_ hS => Sx.ov_move _ rfl) ?_
    refine Sx.wa_tk 1 rfl rfl rfl (Sx.st_selT [true, false, true, true] h) (fun w_ hS => Sx.ov_loadbN 1 [.slice (A) (((y).st).length) (c), .int .i64 ((y).base)] hS rfl rfl sh28 rfl) ?_
    refine Sx.wa_tk 2 rfl rfl rfl (Sx.st_selT [true, false, true, true] h) (fun w_ hS => Sx.ov_assign _ rfl) ?_
    refine Sx.wa_one 3 rfl (by kernel_rfl) ?_
    refine Sx.wl_storebN 1 [.slice (A) (((y).st).length) (c), .int .i64 ((y).base)] [.slice (A) (((y).st).length) (c), .int .i64 ((y).base)] h rfl rfl rfl rfl (by simp [Value.oneCell']) sh28 rfl rfl (fun _ h => ?_)
    refine Sx.wl_nil ?_
    refine Sx.qn_wa (Sx.st_selT [true, false, true, true] h) ?_
    refine Sx.wa_done (by kernel_rfl) ?_
    refine Sx.qn_then ?_
    refine Sx.wc_ret ?_
    have hend_ := h
    have e_ : playV (newL n s) script 40 = y := by rw [← hJ.2.2.2]; first | exact play_stop (by omega) _ _ | exact play_end (by omega)
    replace h := Sx.st_front 3 h
    replace h := Sx.st_front 1 h
    replace h := Sx.st_selT [true, true, false, false] h
    refine Sx.qn_ret [_, _] ⟨rfl, ⟨_, rfl, Sx.loadVarN (vs := [.slice (A) (((y).st).length) (c), .int .i64 ((y).base)]) sh28 (Sx.blk_cells (cells := [.slice (A) (((y).st).length) (c), .int .i64 ((y).base)]) hend_ (i := 1) rfl 0 _ rfl)⟩, trivial⟩ ?_
    rw [e_]
    exact ⟨_, _, _, rfl, hJ.1, h⟩
end Go.Proofs.Ytkliboeebookeaa.Runs.F
