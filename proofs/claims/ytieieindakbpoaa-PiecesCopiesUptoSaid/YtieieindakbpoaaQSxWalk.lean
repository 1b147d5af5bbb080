/- Pruned by wip/prune.py. -/
import Derived.Test.YtieieindakbpoaaProg
import Derived.Test.YtieieindakbpoaaQSxGlue
import Derived.Test.YtieieindakbpoaaQSxRanged
import Derived.Test.YtieieindakbpoaaQSxRange1
import Derived.Test.YtieieindakbpoaaQSxFlow
import Derived.Test.YtieieindakbpoaaQSxBytes
import Derived.Test.YtieieindakbpoaaQSxKinds
import Derived.Test.YtieieindakbpoaaQPcText
import Derived.Test.YtieieindakbpoaaQPcWalk
import Derived.Test.YtieieindakbpoaaQSxTree
import Derived.Test.YtieieindakbpoaaQSxRunes
import Derived.Test.YtieieindakbpoaaQSxSplit
namespace Go.Proofs.Ytieieindakbpoaa.TW
open Go Go.RowKit Go.Proofs.YtieieindakbpoaaW.PrintWords Go.Proofs.Ytieieindakbpoaa.Kinds Go.Proofs.Ytieieindakbpoaa.Given Go.Proofs.Ytieieindakbpoaa.Rn Go.Proofs.Ytieieindakbpoaa.Sx 
set_option linter.unusedVariables false
set_option linter.unusedSimpArgs false
theorem fo77_0 : Sx.fieldOff Try.prog 77 0 = some 0 := by kernel_rfl
theorem sh4 : Sx.shapeOf Try.prog 4 = some (false, 1) := by kernel_rfl
theorem fo68_1 : Sx.fieldOff Try.prog 68 1 = some 1 := by kernel_rfl
theorem sh41 : Sx.shapeOf Try.prog 41 = some (false, 1) := by kernel_rfl
theorem fo77_1 : Sx.fieldOff Try.prog 77 1 = some 1 := by kernel_rfl
theorem sh3 : Sx.shapeOf Try.prog 3 = some (false, 1) := by kernel_rfl
theorem fo77_2 : Sx.fieldOff Try.prog 77 2 = some 2 := by kernel_rfl
theorem es41 : Sx.elemSz Try.prog 41 = some (5, 1) := by kernel_rfl
theorem fo68_0 : Sx.fieldOff Try.prog 68 0 = some 0 := by kernel_rfl
theorem sh9 : Sx.shapeOf Try.prog 9 = some (false, 1) := by kernel_rfl
theorem fo89_0 : Sx.fieldOff Try.prog 89 0 = some 0 := by kernel_rfl
theorem sh66 : Sx.shapeOf Try.prog 66 = some (false, 1) := by kernel_rfl
theorem ent41 : Sx.Ent Try.prog 41 := ⟨Try.f41, Try.func41, by kernel_rfl, by kernel_rfl⟩
theorem fo89_2 : Sx.fieldOff Try.prog 89 2 = some 2 := by kernel_rfl
theorem sh77 : Sx.shapeOf Try.prog 77 = some (true, 4) := by kernel_rfl
theorem ent58 : Sx.Ent Try.prog 58 := ⟨Try.f58, Try.func58, by kernel_rfl, by kernel_rfl⟩
theorem fo89_1 : Sx.fieldOff Try.prog 89 1 = some 1 := by kernel_rfl
set_option maxHeartbeats 4000000 in
set_option maxRecDepth 100000 in
theorem textR_calls {w0 w : World} {F0 : Nat → Prop} {R : List Sx.HP} (gt : Nat) (s0 : ByteArray) (A : Option Addr) (c : Nat) (L : List Int) (pr : Option Addr) (p : S77) (hz0 : s0.size ≤ 1000000) (hzL : L.length ≤ 1000000) (hb : Pc.Bd s0 L p) (hlc : L.length ≤ c) (ht : ∀ cs_ w_, Sx.St w0 F0 (cs_ ++ R) w_ → ∀ j_, w_.cell? ⟨gt, j_, none⟩ = ([.string s0, .slice A L.length c, .pointer pr] : List Value)[j_]?) (hr : ∀ cs_ w_, Sx.St w0 F0 (cs_ ++ R) w_ → (Kd.int .u8).C w_ A L.length L) (h : Sx.St w0 F0 ([] ++ R) w) : Calls Try.prog 58 #[.pointer (some ⟨gt, 0, none⟩), .agg #[.bool ((p).f0), .int .i64 ((p).f1), .int .i64 ((p).f2), .int .i64 ((p).f3)]] w (fun e w1 => e = .returned (.string (Pc.txP s0 L p)) ∧ Sx.St w0 F0 ([] ++ R) w1) := by
 refine Sx.calls_fn (vs := [.pointer (some ⟨gt, 0, none⟩), .agg #[.bool ((p).f0), .int .i64 ((p).f1), .int .i64 ((p).f2), .int .i64 ((p).f3)]]) Try.func58 rfl Try.ntmps58 rfl ?_
 refine wc_seq ?_
 refine wc_region ?_
 refine wl_box _ h rfl rfl rfl (fun b1 _ h => ?_)
 replace h : Sx.St _ _ (Sx.blk b1 [.bool ((p).f0), .int .i64 ((p).f1), .int .i64 ((p).f2), .int .i64 ((p).f3)] 77 :: _) _ := h
 refine wl_v rfl rfl (ov_assign _ rfl) ?_
 refine wl_nil ?_
 refine qn_then ?_
 refine wc_seq ?_
 refine wc_seq ?_
 refine wc_region ?_
 refine wl_v rfl rfl (ov_fieldAddr _ ⟨b1, 0, none⟩ _ rfl fo77_0 rfl) ?_
 refine wl_v rfl rfl (ov_loadb 0 _ h rfl rfl sh4 rfl) ?_
 refine wl_nil ?_
 refine qn_then ?_
 refine wc_condb (by rfl) (fun c2 => ?_) (fun c2 => ?_)
 ·
  have hc_ := c2
  have hb3_ := hb.2.2
  rw [if_pos hc_] at hb3_
  have hb1_ := hb.1
  have hb2_ := hb.2.1
  refine wc_seq ?_
  refine wc_draw (fun w => Sx.St w0 F0 ([Sx.blk b1 [.bool ((p).f0), .int .i64 ((p).f1), .int .i64 ((p).f2), .int .i64 ((p).f3)] 77] ++ R) w) (by kernel_rfl) ?_
  replace h := st_drew h
  refine wa_tk 0 rfl rfl rfl (st_selT [true] h) (fun w_ hS => ov_move _ rfl) ?_
  refine wa_tk 1 rfl rfl rfl (st_selT [true] h) (fun w_ hS => ov_nilCheck _ rfl) ?_
  refine wa_tk 2 rfl rfl rfl (st_selT [true] h) (fun w_ hS => ov_fieldAddr _ ⟨gt, 1, none⟩ _ rfl fo68_1 rfl) ?_
  refine wa_tk 3 rfl rfl rfl (st_selT [true] h) (fun w_ hS => ov_load1 ⟨gt, 1, none⟩ _ rfl sh41 ((ht _ _ hS 1).trans rfl)) ?_
  refine wa_tk 4 rfl rfl rfl (st_selT [true] h) (fun w_ hS => ov_fieldAddr _ ⟨b1, 1, none⟩ _ rfl fo77_1 rfl) ?_
  refine wa_tk 5 rfl rfl rfl (st_selT [true] h) (fun w_ hS => ov_loadb 0 _ hS rfl rfl sh3 rfl) ?_
  refine wa_tk 6 rfl rfl rfl (st_selT [true] h) (fun w_ hS => ov_fieldAddr _ ⟨b1, 1, none⟩ _ rfl fo77_1 rfl) ?_
  refine wa_tk 7 rfl rfl rfl (st_selT [true] h) (fun w_ hS => ov_loadb 0 _ hS rfl rfl sh3 rfl) ?_
  refine wa_tk 8 rfl rfl rfl (st_selT [true] h) (fun w_ hS => ov_fieldAddr _ ⟨b1, 2, none⟩ _ rfl fo77_2 rfl) ?_
  refine wa_tk 9 rfl rfl rfl (st_selT [true] h) (fun w_ hS => ov_loadb 0 _ hS rfl rfl sh3 rfl) ?_
  refine wa_tk 10 rfl rfl rfl (st_selT [true] h) (fun w_ hS => ov_bin _ rfl rfl (binR_add (r := ((p).f1) + ((p).f2)) (Sx.w64 (by omega)))) ?_
  have hcap3 := hlc
  obtain ⟨A4, hA5⟩ : ∃ A_, (if c = (((p).f1 : Int).toNat) then A else Option.map (·.add ((((p).f1 : Int).toNat) * 1)) (A)) = A_ := ⟨_, rfl⟩
  refine wa_tk 11 rfl rfl rfl (st_selT [true] h) (fun w_ hS => by exact ov_slice _ _ _ (((p).f1 : Int).toNat) ((((p).f1) + ((p).f2) : Int).toNat) (by rfl) (by exact ⟨_, _, rfl, (by omega)⟩) (by exact ⟨_, _, rfl, (by omega)⟩) es41 (by omega) (by omega) hA5 (n' := (((L).take ((((p).f1) + ((p).f2) : Int).toNat)).drop (((p).f1 : Int).toNat)).length) (by simp only [List.length_drop, List.length_take]; omega)) ?_
  refine wa_tk 12 rfl rfl rfl (st_selT [true] h) (fun w_ hS => ov_string rfl ((Sx.mid_C (lo := (((p).f1 : Int).toNat)) (hi := ((((p).f1) + ((p).f2) : Int).toNat)) (by omega) (by omega) hcap3 hA5 ((hr [_] _ hS)))) Try.underlying41 Try.underlying5 Try.underlying9) ?_
  refine wa_tk 13 rfl rfl rfl (st_selT [true] h) (fun w_ hS => ov_assign _ rfl) ?_
  refine wa_done (by kernel_rfl) ?_
  refine qn_then ?_
  refine wc_ret ?_
  refine qn_then_ret ?_
  replace h := st_selT [false] h
  refine qn_ret [_] ⟨rfl, trivial⟩ ?_
  have e_ : Pc.txP s0 L p = strOfNums (((L).take ((((p).f1) + ((p).f2) : Int).toNat)).drop (((p).f1 : Int).toNat)) := by unfold Pc.txP; rw [if_pos hc_]
  rw [e_]
  exact ⟨rfl, h⟩
 ·
  have hc_ := c2
  have hb3_ := hb.2.2
  rw [if_neg (by rw [hc_]; decide)] at hb3_
  have hb1_ := hb.1
  have hb2_ := hb.2.1
  refine wc_skip ?_
  refine qn_then ?_
  refine wc_seq ?_
  refine wc_draw (fun w => Sx.St w0 F0 ([Sx.blk b1 [.bool ((p).f0), .int .i64 ((p).f1), .int .i64 ((p).f2), .int .i64 ((p).f3)] 77] ++ R) w) (by kernel_rfl) ?_
  replace h := st_drew h
  refine wa_tk 0 rfl rfl rfl (st_selT [true] h) (fun w_ hS => ov_move _ rfl) ?_
  refine wa_tk 1 rfl rfl rfl (st_selT [true] h) (fun w_ hS => ov_nilCheck _ rfl) ?_
  refine wa_tk 2 rfl rfl rfl (st_selT [true] h) (fun w_ hS => ov_fieldAddr _ ⟨gt, 0, none⟩ _ rfl fo68_0 rfl) ?_
  refine wa_tk 3 rfl rfl rfl (st_selT [true] h) (fun w_ hS => ov_load1 ⟨gt, 0, none⟩ _ rfl sh9 ((ht _ _ hS 0).trans rfl)) ?_
  refine wa_tk 4 rfl rfl rfl (st_selT [true] h) (fun w_ hS => ov_fieldAddr _ ⟨b1, 1, none⟩ _ rfl fo77_1 rfl) ?_
  refine wa_tk 5 rfl rfl rfl (st_selT [true] h) (fun w_ hS => ov_loadb 0 _ hS rfl rfl sh3 rfl) ?_
  refine wa_tk 6 rfl rfl rfl (st_selT [true] h) (fun w_ hS => ov_fieldAddr _ ⟨b1, 1, none⟩ _ rfl fo77_1 rfl) ?_
  refine wa_tk 7 rfl rfl rfl (st_selT [true] h) (fun w_ hS => ov_loadb 0 _ hS rfl rfl sh3 rfl) ?_
  refine wa_tk 8 rfl rfl rfl (st_selT [true] h) (fun w_ hS => ov_fieldAddr _ ⟨b1, 2, none⟩ _ rfl fo77_2 rfl) ?_
  refine wa_tk 9 rfl rfl rfl (st_selT [true] h) (fun w_ hS => ov_loadb 0 _ hS rfl rfl sh3 rfl) ?_
  refine wa_tk 10 rfl rfl rfl (st_selT [true] h) (fun w_ hS => ov_bin _ rfl rfl (binR_add (r := ((p).f1) + ((p).f2)) (Sx.w64 (by omega)))) ?_
  refine wa_tk 11 rfl rfl rfl (st_selT [true] h) (fun w_ hS => by exact ov_slices _ (((p).f1 : Int).toNat) ((((p).f1) + ((p).f2) : Int).toNat) (by rfl) (by exact ⟨_, _, rfl, (by omega)⟩) (by exact ⟨_, _, rfl, (by omega)⟩) Try.underlying9 (by omega) (by omega)) ?_
  refine wa_tk 12 rfl rfl rfl (st_selT [true] h) (fun w_ hS => ov_assign _ rfl) ?_
  refine wa_done (by kernel_rfl) ?_
  refine qn_then ?_
  refine wc_ret ?_
  replace h := st_selT [false] h
  refine qn_ret [_] ⟨rfl, trivial⟩ ?_
  have e_ : Pc.txP s0 L p = (s0).extract (((p).f1 : Int).toNat) ((((p).f1) + ((p).f2) : Int).toNat) := by unfold Pc.txP; rw [if_neg (by simpa using hc_)]
  rw [e_]
  exact ⟨rfl, h⟩
set_option maxHeartbeats 4000000 in
set_option maxRecDepth 100000 in
theorem walk_step {w : World} {gs : Sx.Gs} {gt : Nat} {s0 : ByteArray} {A : Option Addr} {c : Nat} {L : List Int} {pr : Option Addr} (hz0 : s0.size ≤ 1000000) (hzL : L.length ≤ 1000000) (htx : ∀ W, Sx.KC gs w W → ∀ j, W.cell? ⟨gt, j, none⟩ = ([.string s0, .slice A L.length c, .pointer pr] : List Value)[j]?) (hrow : ∀ W, Sx.KC gs w W → (Kd.int .u8).C W A L.length L) (hlc : L.length ≤ c) {l : Nat} {J Jx : List ByteArray → World → Prop} {D : List ByteArray} (hJ : ∀ (s_ : List ByteArray) (A_ B_ : World), J s_ A_ → Below A_.heap.size A_ B_ → J s_ B_) (hY : ∀ (pre : List ByteArray) (x : ByteArray) (W1 : World), J pre W1 → (∃ suf, D = pre ++ x :: suf) → YieldAt Fence.wide 0 Try.prog l #[.string x] W1 fun e W2 => (e = .returned (.bool true) ∧ J (pre ++ [x]) W2 ∧ Sx.KC gs W1 W2) ∨ (e = .returned (.bool false) ∧ Jx (pre ++ [x]) W2)) (M : Nat) (ih : ∀ (T : Pc.AT) (pre : List ByteArray) (W : World) (hT : ∀ W, Sx.KC gs w W → Pc.At W T) (hw : Pc.Wf s0 L (Pc.AT.fl T)) (hj : J pre W) (hk : Sx.KC gs w W) (hN : ∃ suf, D = pre ++ (Pc.chs s0 L (Pc.AT.fl T) ++ suf)) (hM : Pc.AT.cnt T < M), Calls Try.prog 41 #[.pointer (some ⟨gt, 0, none⟩), .pointer (Pc.AT.ptr T), .func (.yield l) #[] #[]] W (fun e W2 => (e = .returned (.bool true) ∧ J (pre ++ Pc.chs s0 L (Pc.AT.fl T)) W2 ∧ Sx.KC gs w W2) ∨ (e = .returned (.bool false) ∧ ∃ k, k ≤ (Pc.chs s0 L (Pc.AT.fl T)).length ∧ Jx (pre ++ (Pc.chs s0 L (Pc.AT.fl T)).take k) W2))) (T : Pc.AT) (pre : List ByteArray) (W : World) (hT : ∀ W, Sx.KC gs w W → Pc.At W T) (hw : Pc.Wf s0 L (Pc.AT.fl T)) (hj : J pre W) (hk : Sx.KC gs w W) (hN : ∃ suf, D = pre ++ (Pc.chs s0 L (Pc.AT.fl T) ++ suf)) (hM : Pc.AT.cnt T = M) : Calls Try.prog 41 #[.pointer (some ⟨gt, 0, none⟩), .pointer (Pc.AT.ptr T), .func (.yield l) #[] #[]] W (fun e W2 => (e = .returned (.bool true) ∧ J (pre ++ Pc.chs s0 L (Pc.AT.fl T)) W2 ∧ Sx.KC gs w W2) ∨ (e = .returned (.bool false) ∧ ∃ k, k ≤ (Pc.chs s0 L (Pc.AT.fl T)).length ∧ Jx (pre ++ (Pc.chs s0 L (Pc.AT.fl T)).take k) W2)) := by
 refine (callsIn_wide (n := 1)).1 (Sx.calls_fnI (vs := [.pointer (some ⟨gt, 0, none⟩), .pointer (Pc.AT.ptr T), .func (.yield l) #[] #[]]) Try.func41 rfl Try.ntmps41 rfl ?_)
 have h := st_start W
 refine Sx.ci_seq ?_
 refine Sx.ci_region Sx.lax_wide (fun _ _ h_ => by rcases h_ with ⟨h1_, _⟩ | ⟨h1_, _⟩ <;> cases h1_) (by kernel_rfl) ?_
 refine wl_v rfl rfl (ov_assign _ rfl) ?_
 refine wl_nil ?_
 refine Sx.qi_then ?_
 refine Sx.ci_seq ?_
 refine Sx.ci_regionI ?_
 refine Sx.wli_one Sx.lax_wide (fun _ _ h_ => by rcases h_ with ⟨h1_, _⟩ | ⟨h1_, _⟩ <;> cases h1_) rfl ?_
 refine wl_v rfl rfl (ov_move _ rfl) ?_
 refine wl_nil ?_
 refine qn_kx ?_
 refine Sx.wli_one Sx.lax_wide (fun _ _ h_ => by rcases h_ with ⟨h1_, _⟩ | ⟨h1_, _⟩ <;> cases h1_) rfl ?_
 refine wl_v rfl rfl (ov_bin _ rfl rfl (binR_eqnil Try.underlying66)) ?_
 refine wl_nil ?_
 refine qn_kx ?_
 refine Sx.wli_one Sx.lax_wide (fun _ _ h_ => by rcases h_ with ⟨h1_, _⟩ | ⟨h1_, _⟩ <;> cases h1_) rfl ?_
 refine wl_v rfl rfl (ov_move _ rfl) ?_
 refine wl_nil ?_
 refine qn_kx ?_
 refine Sx.wli_split 9 rfl (fun c1 => ?_) (fun c1 => ?_)
 ·
  obtain rfl := Pc.AT.ptr_none c1
  refine Sx.wli_skip Sx.lax_wide rfl rfl ?_
  refine Sx.wli_skip Sx.lax_wide rfl rfl ?_
  refine Sx.wli_skip Sx.lax_wide rfl rfl ?_
  refine Sx.wli_skip Sx.lax_wide rfl rfl ?_
  refine Sx.wli_skip Sx.lax_wide rfl rfl ?_
  refine Sx.wli_skip Sx.lax_wide rfl rfl ?_
  refine Sx.wli_skip Sx.lax_wide rfl rfl ?_
  refine Sx.wli_skip Sx.lax_wide rfl rfl ?_
  refine Sx.wli_skip Sx.lax_wide rfl rfl ?_
  refine Sx.wli_skip Sx.lax_wide rfl rfl ?_
  refine Sx.wli_skip Sx.lax_wide rfl rfl ?_
  refine Sx.wli_skip Sx.lax_wide rfl rfl ?_
  refine Sx.wli_skip Sx.lax_wide rfl rfl ?_
  refine Sx.wli_skip Sx.lax_wide rfl rfl ?_
  refine Sx.wli_skip Sx.lax_wide rfl rfl ?_
  refine Sx.wli_skip Sx.lax_wide rfl rfl ?_
  refine Sx.wli_skip Sx.lax_wide rfl rfl ?_
  refine Sx.wli_skip Sx.lax_wide rfl rfl ?_
  refine Sx.wli_skip Sx.lax_wide rfl rfl ?_
  refine Sx.wli_skip Sx.lax_wide rfl rfl ?_
  refine Sx.wli_skip Sx.lax_wide rfl rfl ?_
  refine Sx.wli_skip Sx.lax_wide rfl rfl ?_
  refine Sx.wli_skip Sx.lax_wide rfl rfl ?_
  refine Sx.wli_skip Sx.lax_wide rfl rfl ?_
  refine Sx.wli_skip Sx.lax_wide rfl rfl ?_
  refine Sx.wli_skip Sx.lax_wide rfl rfl ?_
  refine Sx.wli_one Sx.lax_wide (fun _ _ h_ => by rcases h_ with ⟨h1_, _⟩ | ⟨h1_, _⟩ <;> cases h1_) rfl ?_
  refine wl_v rfl rfl (ov_pick_true _ rfl rfl) ?_
  refine wl_nil ?_
  refine qn_kx ?_
  refine Sx.wli_one Sx.lax_wide (fun _ _ h_ => by rcases h_ with ⟨h1_, _⟩ | ⟨h1_, _⟩ <;> cases h1_) rfl ?_
  refine wl_v rfl rfl (ov_assign _ rfl) ?_
  refine wl_nil ?_
  refine qn_kx ?_
  refine Sx.wli_nil ?_
  refine Sx.qi_then ?_
  refine Sx.ci_ret ?_
  refine qn_ret [_] ⟨rfl, trivial⟩ ?_
  exact .inl ⟨rfl, by rw [show Pc.chs s0 L (Pc.AT.fl Pc.AT.nil) = [] from rfl, List.append_nil]; exact hj, hk⟩
 ·
  obtain ⟨g2, tl3, tp4, tr5, rfl⟩ := Pc.AT.ptr_some c1
  obtain ⟨hw1_, hw2_, hw3_, _⟩ := Pc.nd_facts hw
  have hcn_ : Pc.AT.cnt (Pc.AT.nd g2 tl3 tp4 tr5) = Pc.AT.cnt tl3 + 1 + Pc.AT.cnt tr5 := rfl
  have hfl_ : Pc.AT.fl (Pc.AT.nd g2 tl3 tp4 tr5) = Pc.AT.fl tl3 ++ tp4 :: Pc.AT.fl tr5 := rfl
  rw [hfl_] at hN ⊢
  obtain ⟨suf_, hD_⟩ := hN
  rw [Pc.chs_app, Pc.chs_cons] at hD_
  have hl_ := Pc.chs_len s0 L (Pc.AT.fl tl3)
  have hr_ := Pc.chs_len s0 L (Pc.AT.fl tr5)
  refine Sx.wli_one Sx.lax_wide (fun _ _ h_ => by rcases h_ with ⟨h1_, _⟩ | ⟨h1_, _⟩ <;> cases h1_) rfl ?_
  refine wl_v rfl rfl (ov_move _ rfl) ?_
  refine wl_nil ?_
  refine qn_kx ?_
  refine Sx.wli_one Sx.lax_wide (fun _ _ h_ => by rcases h_ with ⟨h1_, _⟩ | ⟨h1_, _⟩ <;> cases h1_) rfl ?_
  refine wl_v rfl rfl (ov_move _ rfl) ?_
  refine wl_nil ?_
  refine qn_kx ?_
  refine Sx.wli_one Sx.lax_wide (fun _ _ h_ => by rcases h_ with ⟨h1_, _⟩ | ⟨h1_, _⟩ <;> cases h1_) rfl ?_
  refine wl_v rfl rfl (ov_nilCheck _ rfl) ?_
  refine wl_nil ?_
  refine qn_kx ?_
  refine Sx.wli_one Sx.lax_wide (fun _ _ h_ => by rcases h_ with ⟨h1_, _⟩ | ⟨h1_, _⟩ <;> cases h1_) rfl ?_
  refine wl_v rfl rfl (ov_fieldAddr _ ⟨g2, 0, none⟩ _ rfl fo89_0 rfl) ?_
  refine wl_nil ?_
  refine qn_kx ?_
  refine Sx.wli_one Sx.lax_wide (fun _ _ h_ => by rcases h_ with ⟨h1_, _⟩ | ⟨h1_, _⟩ <;> cases h1_) rfl ?_
  refine wl_v rfl rfl (ov_load1 ⟨g2, 0, none⟩ _ rfl sh66 (((Pc.at_cell (hT _ (Sx.kc_trans hk (Sx.kc_below (st_below0 h))))) 0).trans rfl)) ?_
  refine wl_nil ?_
  refine qn_kx ?_
  refine Sx.wli_one Sx.lax_wide (fun _ _ h_ => by rcases h_ with ⟨h1_, _⟩ | ⟨h1_, _⟩ <;> cases h1_) rfl ?_
  refine wl_v rfl rfl (ov_move _ rfl) ?_
  refine wl_nil ?_
  refine qn_kx ?_
  replace hj := hJ _ _ _ hj (st_below0 h)
  replace hk := (Sx.kc_trans hk (Sx.kc_below (st_below0 h)))
  refine Sx.wli_one Sx.lax_wide (fun _ _ h_ => by rcases h_ with ⟨h1_, _⟩ | ⟨h1_, _⟩ <;> cases h1_) rfl ?_
  refine wl_call _ rfl rfl rfl ent41 (ih tl3 pre _ (fun W_ z_ => (hT W_ z_).2.1) hw1_ hj hk ⟨Pc.txP s0 L tp4 :: (Pc.chs s0 L (Pc.AT.fl tr5) ++ suf_), by rw [hD_]; simp⟩ (by omega)) ?_
  rintro e_ W2_ (⟨rfl, hj, hk⟩ | ⟨rfl, k_, hk1_, hx_⟩)
  ·
   refine ⟨_, rfl, ?_⟩
   clear h
   have h := st_start W2_
   refine wl_nil ?_
   refine qn_kx ?_
   refine Sx.wli_one Sx.lax_wide (fun _ _ h_ => by rcases h_ with ⟨h1_, _⟩ | ⟨h1_, _⟩ <;> cases h1_) rfl ?_
   refine wl_v rfl rfl (ov_move _ rfl) ?_
   refine wl_nil ?_
   refine qn_kx ?_
   refine Sx.wli_one Sx.lax_wide (fun _ _ h_ => by rcases h_ with ⟨h1_, _⟩ | ⟨h1_, _⟩ <;> cases h1_) rfl ?_
   refine wl_v rfl rfl (ov_move _ rfl) ?_
   refine wl_nil ?_
   refine qn_kx ?_
   refine Sx.wli_one Sx.lax_wide (fun _ _ h_ => by rcases h_ with ⟨h1_, _⟩ | ⟨h1_, _⟩ <;> cases h1_) rfl ?_
   refine wl_v rfl rfl (ov_move _ rfl) ?_
   refine wl_nil ?_
   refine qn_kx ?_
   refine Sx.wli_one Sx.lax_wide (fun _ _ h_ => by rcases h_ with ⟨h1_, _⟩ | ⟨h1_, _⟩ <;> cases h1_) rfl ?_
   refine wl_v rfl rfl (ov_move _ rfl) ?_
   refine wl_nil ?_
   refine qn_kx ?_
   refine Sx.wli_one Sx.lax_wide (fun _ _ h_ => by rcases h_ with ⟨h1_, _⟩ | ⟨h1_, _⟩ <;> cases h1_) rfl ?_
   refine wl_v rfl rfl (ov_nilCheck _ rfl) ?_
   refine wl_nil ?_
   refine qn_kx ?_
   refine Sx.wli_one Sx.lax_wide (fun _ _ h_ => by rcases h_ with ⟨h1_, _⟩ | ⟨h1_, _⟩ <;> cases h1_) rfl ?_
   refine wl_v rfl rfl (ov_fieldAddr _ ⟨g2, 2, none⟩ _ rfl fo89_2 rfl) ?_
   refine wl_nil ?_
   refine qn_kx ?_
   refine Sx.wli_one Sx.lax_wide (fun _ _ h_ => by rcases h_ with ⟨h1_, _⟩ | ⟨h1_, _⟩ <;> cases h1_) rfl ?_
   refine wl_v rfl rfl (ov_loadN ⟨g2, 2, none⟩ [.bool ((tp4).f0), .int .i64 ((tp4).f1), .int .i64 ((tp4).f2), .int .i64 ((tp4).f3)] rfl sh77 (Sx.rob_cells ((Pc.at_cell (hT _ (Sx.kc_trans hk (Sx.kc_below (st_below0 h)))))) 2 rfl)) ?_
   refine wl_nil ?_
   refine qn_kx ?_
   refine Sx.wli_one Sx.lax_wide (fun _ _ h_ => by rcases h_ with ⟨h1_, _⟩ | ⟨h1_, _⟩ <;> cases h1_) rfl ?_
   refine wl_call _ rfl rfl rfl ent58 (TW.textR_calls (R := []) gt s0 A c L pr tp4 hz0 hzL (Pc.wf_bd hw2_) hlc (fun _ w_ h_ => htx w_ (Sx.kc_trans hk (Sx.kc_below (st_below0 h_)))) (fun _ w_ h_ => hrow w_ (Sx.kc_trans hk (Sx.kc_below (st_below0 h_)))) h) ?_
   rintro e_ w_ ⟨rfl, h⟩
   refine ⟨_, rfl, ?_⟩
   refine wl_nil ?_
   refine qn_kx ?_
   replace hj := hJ _ _ _ hj (st_below0 h)
   replace hk := (Sx.kc_trans hk (Sx.kc_below (st_below0 h)))
   refine Sx.wli_yieldg [.string (Pc.txP s0 L tp4)] Sx.lax_wide rfl rfl rfl rfl (hY _ (Pc.txP s0 L tp4) _ hj ⟨Pc.chs s0 L (Pc.AT.fl tr5) ++ suf_, by rw [hD_]; simp⟩) ?_
   rintro e_ W2_ (⟨rfl, hj2_, hk2_⟩ | ⟨rfl, hx_⟩)
   ·
    refine ⟨_, rfl, ?_⟩
    clear h
    clear hj
    have hj := hj2_
    rw [List.append_assoc] at hj
    replace hk := Sx.kc_trans hk hk2_
    have h := st_start W2_
    refine Sx.wli_one Sx.lax_wide (fun _ _ h_ => by rcases h_ with ⟨h1_, _⟩ | ⟨h1_, _⟩ <;> cases h1_) rfl ?_
    refine wl_v rfl rfl (ov_pick_true _ rfl rfl) ?_
    refine wl_nil ?_
    refine qn_kx ?_
    refine Sx.wli_one Sx.lax_wide (fun _ _ h_ => by rcases h_ with ⟨h1_, _⟩ | ⟨h1_, _⟩ <;> cases h1_) rfl ?_
    refine wl_v rfl rfl (ov_move _ rfl) ?_
    refine wl_nil ?_
    refine qn_kx ?_
    refine Sx.wli_one Sx.lax_wide (fun _ _ h_ => by rcases h_ with ⟨h1_, _⟩ | ⟨h1_, _⟩ <;> cases h1_) rfl ?_
    refine wl_v rfl rfl (ov_move _ rfl) ?_
    refine wl_nil ?_
    refine qn_kx ?_
    refine Sx.wli_one Sx.lax_wide (fun _ _ h_ => by rcases h_ with ⟨h1_, _⟩ | ⟨h1_, _⟩ <;> cases h1_) rfl ?_
    refine wl_v rfl rfl (ov_move _ rfl) ?_
    refine wl_nil ?_
    refine qn_kx ?_
    refine Sx.wli_one Sx.lax_wide (fun _ _ h_ => by rcases h_ with ⟨h1_, _⟩ | ⟨h1_, _⟩ <;> cases h1_) rfl ?_
    refine wl_v rfl rfl (ov_nilCheck _ rfl) ?_
    refine wl_nil ?_
    refine qn_kx ?_
    refine Sx.wli_one Sx.lax_wide (fun _ _ h_ => by rcases h_ with ⟨h1_, _⟩ | ⟨h1_, _⟩ <;> cases h1_) rfl ?_
    refine wl_v rfl rfl (ov_fieldAddr _ ⟨g2, 1, none⟩ _ rfl fo89_1 rfl) ?_
    refine wl_nil ?_
    refine qn_kx ?_
    refine Sx.wli_one Sx.lax_wide (fun _ _ h_ => by rcases h_ with ⟨h1_, _⟩ | ⟨h1_, _⟩ <;> cases h1_) rfl ?_
    refine wl_v rfl rfl (ov_load1 ⟨g2, 1, none⟩ _ rfl sh66 (((Pc.at_cell (hT _ (Sx.kc_trans hk (Sx.kc_below (st_below0 h))))) 1).trans rfl)) ?_
    refine wl_nil ?_
    refine qn_kx ?_
    refine Sx.wli_one Sx.lax_wide (fun _ _ h_ => by rcases h_ with ⟨h1_, _⟩ | ⟨h1_, _⟩ <;> cases h1_) rfl ?_
    refine wl_v rfl rfl (ov_move _ rfl) ?_
    refine wl_nil ?_
    refine qn_kx ?_
    replace hj := hJ _ _ _ hj (st_below0 h)
    replace hk := (Sx.kc_trans hk (Sx.kc_below (st_below0 h)))
    refine Sx.wli_one Sx.lax_wide (fun _ _ h_ => by rcases h_ with ⟨h1_, _⟩ | ⟨h1_, _⟩ <;> cases h1_) rfl ?_
    refine wl_call _ rfl rfl rfl ent41 (ih tr5 (pre ++ (Pc.chs s0 L (Pc.AT.fl tl3) ++ [Pc.txP s0 L tp4])) _ (fun W_ z_ => (hT W_ z_).2.2) hw3_ hj hk ⟨suf_, by rw [hD_]; simp⟩ (by omega)) ?_
    rintro e_ W2_ (⟨rfl, hj, hk⟩ | ⟨rfl, k_, hk1_, hx_⟩)
    ·
     refine ⟨_, rfl, ?_⟩
     clear h
     have h := st_start W2_
     refine wl_nil ?_
     refine qn_kx ?_
     refine Sx.wli_one Sx.lax_wide (fun _ _ h_ => by rcases h_ with ⟨h1_, _⟩ | ⟨h1_, _⟩ <;> cases h1_) rfl ?_
     refine wl_v rfl rfl (ov_pick_true _ rfl rfl) ?_
     refine wl_nil ?_
     refine qn_kx ?_
     refine Sx.wli_one Sx.lax_wide (fun _ _ h_ => by rcases h_ with ⟨h1_, _⟩ | ⟨h1_, _⟩ <;> cases h1_) rfl ?_
     refine wl_v rfl rfl (ov_pick_false _ rfl rfl) ?_
     refine wl_nil ?_
     refine qn_kx ?_
     refine Sx.wli_one Sx.lax_wide (fun _ _ h_ => by rcases h_ with ⟨h1_, _⟩ | ⟨h1_, _⟩ <;> cases h1_) rfl ?_
     refine wl_v rfl rfl (ov_assign _ rfl) ?_
     refine wl_nil ?_
     refine qn_kx ?_
     refine Sx.wli_nil ?_
     refine Sx.qi_then ?_
     refine Sx.ci_ret ?_
     refine qn_ret [_] ⟨rfl, trivial⟩ ?_
     have hch_ : Pc.chs s0 L (Pc.AT.fl tl3 ++ tp4 :: Pc.AT.fl tr5) = Pc.chs s0 L (Pc.AT.fl tl3) ++ Pc.txP s0 L tp4 :: Pc.chs s0 L (Pc.AT.fl tr5) := by rw [Pc.chs_app, Pc.chs_cons]
     rw [hch_]
     exact .inl ⟨rfl, by rw [show Pc.chs s0 L (Pc.AT.fl tl3) ++ Pc.txP s0 L tp4 :: Pc.chs s0 L (Pc.AT.fl tr5) = (Pc.chs s0 L (Pc.AT.fl tl3) ++ [Pc.txP s0 L tp4]) ++ Pc.chs s0 L (Pc.AT.fl tr5) by simp, ← List.append_assoc]; exact hj, hk⟩
    ·
     refine ⟨_, rfl, ?_⟩
     clear h
     have h := st_start W2_
     refine wl_nil ?_
     refine qn_kx ?_
     refine Sx.wli_one Sx.lax_wide (fun _ _ h_ => by rcases h_ with ⟨h1_, _⟩ | ⟨h1_, _⟩ <;> cases h1_) rfl ?_
     refine wl_v rfl rfl (ov_pick_true _ rfl rfl) ?_
     refine wl_nil ?_
     refine qn_kx ?_
     refine Sx.wli_one Sx.lax_wide (fun _ _ h_ => by rcases h_ with ⟨h1_, _⟩ | ⟨h1_, _⟩ <;> cases h1_) rfl ?_
     refine wl_v rfl rfl (ov_pick_false _ rfl rfl) ?_
     refine wl_nil ?_
     refine qn_kx ?_
     refine Sx.wli_one Sx.lax_wide (fun _ _ h_ => by rcases h_ with ⟨h1_, _⟩ | ⟨h1_, _⟩ <;> cases h1_) rfl ?_
     refine wl_v rfl rfl (ov_assign _ rfl) ?_
     refine wl_nil ?_
     refine qn_kx ?_
     refine Sx.wli_nil ?_
     refine Sx.qi_then ?_
     refine Sx.ci_ret ?_
     refine qn_ret [_] ⟨rfl, trivial⟩ ?_
     have hch_ : Pc.chs s0 L (Pc.AT.fl tl3 ++ tp4 :: Pc.AT.fl tr5) = Pc.chs s0 L (Pc.AT.fl tl3) ++ Pc.txP s0 L tp4 :: Pc.chs s0 L (Pc.AT.fl tr5) := by rw [Pc.chs_app, Pc.chs_cons]
     rw [hch_]
     obtain ⟨j_, hj1_, hj2_⟩ := Pc.take_right (a := Pc.chs s0 L (Pc.AT.fl tl3) ++ [Pc.txP s0 L tp4]) hk1_
     exact .inr ⟨rfl, j_, by rw [show Pc.chs s0 L (Pc.AT.fl tl3) ++ Pc.txP s0 L tp4 :: Pc.chs s0 L (Pc.AT.fl tr5) = (Pc.chs s0 L (Pc.AT.fl tl3) ++ [Pc.txP s0 L tp4]) ++ Pc.chs s0 L (Pc.AT.fl tr5) by simp]; exact hj1_, by rw [show Pc.chs s0 L (Pc.AT.fl tl3) ++ Pc.txP s0 L tp4 :: Pc.chs s0 L (Pc.AT.fl tr5) = (Pc.chs s0 L (Pc.AT.fl tl3) ++ [Pc.txP s0 L tp4]) ++ Pc.chs s0 L (Pc.AT.fl tr5) by simp, hj2_, ← List.append_assoc]; exact hx_⟩
   ·
    refine ⟨_, rfl, ?_⟩
    clear h
    have h := st_start W2_
    refine Sx.wli_one Sx.lax_wide (fun _ _ h_ => by rcases h_ with ⟨h1_, _⟩ | ⟨h1_, _⟩ <;> cases h1_) rfl ?_
    refine wl_v rfl rfl (ov_pick_true _ rfl rfl) ?_
    refine wl_nil ?_
    refine qn_kx ?_
    refine Sx.wli_one Sx.lax_wide (fun _ _ h_ => by rcases h_ with ⟨h1_, _⟩ | ⟨h1_, _⟩ <;> cases h1_) rfl ?_
    refine wl_v rfl rfl (ov_move _ rfl) ?_
    refine wl_nil ?_
    refine qn_kx ?_
    refine Sx.wli_skip Sx.lax_wide rfl rfl ?_
    refine Sx.wli_skip Sx.lax_wide rfl rfl ?_
    refine Sx.wli_skip Sx.lax_wide rfl rfl ?_
    refine Sx.wli_skip Sx.lax_wide rfl rfl ?_
    refine Sx.wli_skip Sx.lax_wide rfl rfl ?_
    refine Sx.wli_skip Sx.lax_wide rfl rfl ?_
    refine Sx.wli_skip Sx.lax_wide rfl rfl ?_
    refine Sx.wli_one Sx.lax_wide (fun _ _ h_ => by rcases h_ with ⟨h1_, _⟩ | ⟨h1_, _⟩ <;> cases h1_) rfl ?_
    refine wl_v rfl rfl (ov_pick_false _ rfl rfl) ?_
    refine wl_nil ?_
    refine qn_kx ?_
    refine Sx.wli_one Sx.lax_wide (fun _ _ h_ => by rcases h_ with ⟨h1_, _⟩ | ⟨h1_, _⟩ <;> cases h1_) rfl ?_
    refine wl_v rfl rfl (ov_pick_false _ rfl rfl) ?_
    refine wl_nil ?_
    refine qn_kx ?_
    refine Sx.wli_one Sx.lax_wide (fun _ _ h_ => by rcases h_ with ⟨h1_, _⟩ | ⟨h1_, _⟩ <;> cases h1_) rfl ?_
    refine wl_v rfl rfl (ov_assign _ rfl) ?_
    refine wl_nil ?_
    refine qn_kx ?_
    refine Sx.wli_nil ?_
    refine Sx.qi_then ?_
    refine Sx.ci_ret ?_
    refine qn_ret [_] ⟨rfl, trivial⟩ ?_
    have hch_ : Pc.chs s0 L (Pc.AT.fl tl3 ++ tp4 :: Pc.AT.fl tr5) = Pc.chs s0 L (Pc.AT.fl tl3) ++ Pc.txP s0 L tp4 :: Pc.chs s0 L (Pc.AT.fl tr5) := by rw [Pc.chs_app, Pc.chs_cons]
    rw [hch_]
    obtain ⟨j_, hj1_, hj2_⟩ := Pc.take_right (a := Pc.chs s0 L (Pc.AT.fl tl3)) (b := Pc.txP s0 L tp4 :: Pc.chs s0 L (Pc.AT.fl tr5)) (k := 1) (by simp)
    exact .inr ⟨rfl, j_, hj1_, by rw [hj2_, ← List.append_assoc]; exact hx_⟩
  ·
   refine ⟨_, rfl, ?_⟩
   clear h
   have h := st_start W2_
   refine wl_nil ?_
   refine qn_kx ?_
   refine Sx.wli_one Sx.lax_wide (fun _ _ h_ => by rcases h_ with ⟨h1_, _⟩ | ⟨h1_, _⟩ <;> cases h1_) rfl ?_
   refine wl_v rfl rfl (ov_move _ rfl) ?_
   refine wl_nil ?_
   refine qn_kx ?_
   refine Sx.wli_skip Sx.lax_wide rfl rfl ?_
   refine Sx.wli_skip Sx.lax_wide rfl rfl ?_
   refine Sx.wli_skip Sx.lax_wide rfl rfl ?_
   refine Sx.wli_skip Sx.lax_wide rfl rfl ?_
   refine Sx.wli_skip Sx.lax_wide rfl rfl ?_
   refine Sx.wli_skip Sx.lax_wide rfl rfl ?_
   refine Sx.wli_skip Sx.lax_wide rfl rfl ?_
   refine Sx.wli_skip Sx.lax_wide rfl rfl ?_
   refine Sx.wli_one Sx.lax_wide (fun _ _ h_ => by rcases h_ with ⟨h1_, _⟩ | ⟨h1_, _⟩ <;> cases h1_) rfl ?_
   refine wl_v rfl rfl (ov_pick_false _ rfl rfl) ?_
   refine wl_nil ?_
   refine qn_kx ?_
   refine Sx.wli_one Sx.lax_wide (fun _ _ h_ => by rcases h_ with ⟨h1_, _⟩ | ⟨h1_, _⟩ <;> cases h1_) rfl ?_
   refine wl_v rfl rfl (ov_move _ rfl) ?_
   refine wl_nil ?_
   refine qn_kx ?_
   refine Sx.wli_skip Sx.lax_wide rfl rfl ?_
   refine Sx.wli_skip Sx.lax_wide rfl rfl ?_
   refine Sx.wli_skip Sx.lax_wide rfl rfl ?_
   refine Sx.wli_skip Sx.lax_wide rfl rfl ?_
   refine Sx.wli_skip Sx.lax_wide rfl rfl ?_
   refine Sx.wli_skip Sx.lax_wide rfl rfl ?_
   refine Sx.wli_skip Sx.lax_wide rfl rfl ?_
   refine Sx.wli_one Sx.lax_wide (fun _ _ h_ => by rcases h_ with ⟨h1_, _⟩ | ⟨h1_, _⟩ <;> cases h1_) rfl ?_
   refine wl_v rfl rfl (ov_pick_false _ rfl rfl) ?_
   refine wl_nil ?_
   refine qn_kx ?_
   refine Sx.wli_one Sx.lax_wide (fun _ _ h_ => by rcases h_ with ⟨h1_, _⟩ | ⟨h1_, _⟩ <;> cases h1_) rfl ?_
   refine wl_v rfl rfl (ov_pick_false _ rfl rfl) ?_
   refine wl_nil ?_
   refine qn_kx ?_
   refine Sx.wli_one Sx.lax_wide (fun _ _ h_ => by rcases h_ with ⟨h1_, _⟩ | ⟨h1_, _⟩ <;> cases h1_) rfl ?_
   refine wl_v rfl rfl (ov_assign _ rfl) ?_
   refine wl_nil ?_
   refine qn_kx ?_
   refine Sx.wli_nil ?_
   refine Sx.qi_then ?_
   refine Sx.ci_ret ?_
   refine qn_ret [_] ⟨rfl, trivial⟩ ?_
   have hch_ : Pc.chs s0 L (Pc.AT.fl tl3 ++ tp4 :: Pc.AT.fl tr5) = Pc.chs s0 L (Pc.AT.fl tl3) ++ Pc.txP s0 L tp4 :: Pc.chs s0 L (Pc.AT.fl tr5) := by rw [Pc.chs_app, Pc.chs_cons]
   rw [hch_]
   obtain ⟨j_, hj1_, hj2_⟩ := Pc.take_left (b := Pc.txP s0 L tp4 :: Pc.chs s0 L (Pc.AT.fl tr5)) hk1_
   exact .inr ⟨rfl, j_, hj1_, by rw [hj2_]; exact hx_⟩
theorem walk_calls {w : World} {gs : Sx.Gs} {gt : Nat} {s0 : ByteArray} {A : Option Addr} {c : Nat} {L : List Int} {pr : Option Addr} (hz0 : s0.size ≤ 1000000) (hzL : L.length ≤ 1000000) (htx : ∀ W, Sx.KC gs w W → ∀ j, W.cell? ⟨gt, j, none⟩ = ([.string s0, .slice A L.length c, .pointer pr] : List Value)[j]?) (hrow : ∀ W, Sx.KC gs w W → (Kd.int .u8).C W A L.length L) (hlc : L.length ≤ c) {l : Nat} {J Jx : List ByteArray → World → Prop} {D : List ByteArray} (hJ : ∀ (s_ : List ByteArray) (A_ B_ : World), J s_ A_ → Below A_.heap.size A_ B_ → J s_ B_) (hY : ∀ (pre : List ByteArray) (x : ByteArray) (W1 : World), J pre W1 → (∃ suf, D = pre ++ x :: suf) → YieldAt Fence.wide 0 Try.prog l #[.string x] W1 fun e W2 => (e = .returned (.bool true) ∧ J (pre ++ [x]) W2 ∧ Sx.KC gs W1 W2) ∨ (e = .returned (.bool false) ∧ Jx (pre ++ [x]) W2)) (T : Pc.AT) (pre : List ByteArray) (W : World) (hT : ∀ W, Sx.KC gs w W → Pc.At W T) (hw : Pc.Wf s0 L (Pc.AT.fl T)) (hj : J pre W) (hk : Sx.KC gs w W) (hN : ∃ suf, D = pre ++ (Pc.chs s0 L (Pc.AT.fl T) ++ suf)) : Calls Try.prog 41 #[.pointer (some ⟨gt, 0, none⟩), .pointer (Pc.AT.ptr T), .func (.yield l) #[] #[]] W (fun e W2 => (e = .returned (.bool true) ∧ J (pre ++ Pc.chs s0 L (Pc.AT.fl T)) W2 ∧ Sx.KC gs w W2) ∨ (e = .returned (.bool false) ∧ ∃ k, k ≤ (Pc.chs s0 L (Pc.AT.fl T)).length ∧ Jx (pre ++ (Pc.chs s0 L (Pc.AT.fl T)).take k) W2)) := by
  have key : ∀ (M : Nat) (T : Pc.AT) (pre : List ByteArray) (W : World) (hT : ∀ W, Sx.KC gs w W → Pc.At W T) (hw : Pc.Wf s0 L (Pc.AT.fl T)) (hj : J pre W) (hk : Sx.KC gs w W) (hN : ∃ suf, D = pre ++ (Pc.chs s0 L (Pc.AT.fl T) ++ suf)) (hM : Pc.AT.cnt T < M), Calls Try.prog 41 #[.pointer (some ⟨gt, 0, none⟩), .pointer (Pc.AT.ptr T), .func (.yield l) #[] #[]] W (fun e W2 => (e = .returned (.bool true) ∧ J (pre ++ Pc.chs s0 L (Pc.AT.fl T)) W2 ∧ Sx.KC gs w W2) ∨ (e = .returned (.bool false) ∧ ∃ k, k ≤ (Pc.chs s0 L (Pc.AT.fl T)).length ∧ Jx (pre ++ (Pc.chs s0 L (Pc.AT.fl T)).take k) W2)) := by
    intro M
    induction M with
    | zero => intro T pre W hT hw hj hk hN hM; omega
    | succ M ih =>
      intro T pre W hT hw hj hk hN hM
      exact walk_step hz0 hzL htx hrow hlc hJ hY (Pc.AT.cnt T) (fun T2 pre2 W2 a b c d e f => ih T2 pre2 W2 a b c d e (by omega)) T pre W hT hw hj hk hN rfl
  exact key (Pc.AT.cnt T + 1) T pre W hT hw hj hk hN (by omega)
end Go.Proofs.Ytieieindakbpoaa.TW
