/- The list's iterator. -/
import Derived.Test.YtkliboeebookeaaProg
import Derived.Test.YtkliboeebookeaaSxRanged
import Derived.Test.YtkliboeebookeaaSxKinds
import Derived.Test.YtkliboeebookeaaRunsTh
import Derived.Test.YtkliboeebookeaaSxRuns
import Derived.Test.YtkliboeebookeaaSxRunsB
namespace Go.Proofs.Ytkliboeebookeaa.Runs.I
open Go Go.RowKit Go.Proofs.YtkliboeebookeaaW.PrintWords Go.Proofs.Ytkliboeebookeaa.Kinds Go.Proofs.Ytkliboeebookeaa.Runs Go.Proofs.Ytkliboeebookeaa.Runs.B
set_option linter.unusedVariables false
set_option linter.unusedSimpArgs false
theorem sh25 : Sx.shapeOf Try.prog 25 = some (false, 1) := by kernel_rfl
theorem fo72_0 : Sx.fieldOff Try.prog 72 0 = some 0 := by kernel_rfl
theorem sh33 : Sx.shapeOf Try.prog 33 = some (false, 1) := by kernel_rfl
theorem es33 : Sx.elemSz Try.prog 33 = some (66, 2) := by kernel_rfl
theorem sh66 : Sx.shapeOf Try.prog 66 = some (true, 2) := by kernel_rfl
theorem zo66 : Sx.zeroOf Try.prog 66 = some (.agg #[.int .i64 (0), .int .i64 (0)]) := by kernel_rfl
theorem fo66_0 : Sx.fieldOff Try.prog 66 0 = some 0 := by kernel_rfl
theorem sh3 : Sx.shapeOf Try.prog 3 = some (false, 1) := by kernel_rfl

abbrev YI := Int × Rn
def sumF (L : List Rn) : Nat → Int
  | 0 => 0
  | k + 1 => sumF L k + (L.getD k z66).f0
def eachL (L : List Rn) : List YI := (List.range L.length).map fun k => (sumF L k, L.getD k z66)
theorem eachL_len (L : List Rn) : (eachL L).length = L.length := by simp [eachL]
theorem eachL_get (L : List Rn) (k : Nat) (h : k < L.length) : (eachL L)[k]? = some (sumF L k, L.getD k z66) := by simp [eachL, h]
theorem eachL_take (L : List Rn) (k : Nat) (h : k < L.length) : (eachL L).take (k + 1) = (eachL L).take k ++ [(sumF L k, L.getD k z66)] := by
  have hl : k < (eachL L).length := by rw [eachL_len]; exact h
  have e : (eachL L)[k] = (sumF L k, L.getD k z66) := by have := eachL_get L k h; rw [List.getElem?_eq_getElem hl] at this; exact Option.some.inj this
  rw [List.take_succ_eq_append_getElem hl, e]
theorem eachL_all (L : List Rn) : (eachL L).take L.length = eachL L := List.take_of_length_le (by rw [eachL_len]; exact Nat.le_refl _)
theorem eachL_tl (L : List Rn) (k : Nat) (h : k ≤ L.length) : ((eachL L).take k).length = k := by rw [List.length_take, eachL_len]; omega
abbrev encY (x : YI) : Array Value := #[.int .i64 x.1, .agg #[.int .i64 x.2.f0, .int .i64 x.2.f1]]

set_option maxRecDepth 100000 in
theorem each_stops {w : World} {gs : Sx.Gs} {gc gl : Nat} {A : Option Addr} {c : Nat} {L : List Rn} {cells : List Value} (hgs : ∀ k, Sx.inG gs k → k < w.heap.size)
    (hcap : ∀ W, Sx.KC gs w W → ∀ j, W.cell? ⟨gc, j, none⟩ = ([.pointer (some ⟨gl, 0, none⟩)] : List Value)[j]?) (hlist : ∀ W, Sx.KC gs w W → ∀ j, W.cell? ⟨gl, j, none⟩ = (Value.slice A L.length c :: cells)[j]?)
    (hrow : ∀ W, Sx.KC gs w W → k66.C W A L.length L) (hlc : L.length ≤ c) (hlen : L.length ≤ 1099511627776) (hb : ∀ k, k ≤ L.length → 0 ≤ sumF L k ∧ sumF L k ≤ 1099511627776) (hb2 : ∀ k, k < L.length → 0 ≤ (L.getD k z66).f0 ∧ (L.getD k z66).f0 ≤ 1099511627776) :
    SeqStopsK Fence.wide 1 Try.prog 44 #[.pointer (some ⟨gc, 0, none⟩)] encY (Sx.KC gs) (fun xs => xs = eachL L) (fun pre => ∃ k, k ≤ L.length ∧ pre = (eachL L).take k) L.length w := by
 intro l J Jx W hbw hJ hJx hY h0
 have hk0 : Sx.KC gs w W := Sx.kc_below hbw
 have hJ0 : ∀ {s_ W_}, J s_ W_ → J s_ W_ := id
 refine Sx.calls_fnI (vs := [.func (.yield l) #[] #[], .pointer (some ⟨gc, 0, none⟩)]) Try.func44 rfl Try.ntmps44 rfl ?_
 have h := Sx.st_start W
 have hkr : ∀ cs_ w_, Sx.St W (fun _ => False) cs_ w_ → Sx.KC gs w w_ := fun cs_ w_ h_ => Sx.kc_trans hk0 (Sx.kc_below (Sx.st_below0 h_))
 have rc : ∀ cs_ w_, Sx.St W (fun _ => False) cs_ w_ → ∀ j_, w_.cell? ⟨gc, j_, none⟩ = ([.pointer (some ⟨gl, 0, none⟩)] : List Value)[j_]? := fun cs_ w_ h_ => hcap w_ (hkr cs_ w_ h_)
 have rl : ∀ cs_ w_, Sx.St W (fun _ => False) cs_ w_ → ∀ j_, w_.cell? ⟨gl, j_, none⟩ = (Value.slice (A) L.length c :: cells)[j_]? := fun cs_ w_ h_ => hlist w_ (hkr cs_ w_ h_)
 have rr : ∀ cs_ w_, Sx.St W (fun _ => False) (cs_ ++ []) w_ → k66.C w_ (A) L.length L := fun cs_ w_ h_ => hrow w_ (hkr _ w_ h_)
 refine Sx.ci_seq ?_
 refine Sx.ci_region Sx.lax_wide (fun _ _ h_ => (And.left h_).elim fun _ e_ => by cases e_) (by kernel_rfl) ?_
 refine Sx.wl_v rfl rfl (Sx.ov_assign _ rfl) ?_
 refine Sx.wl_nil ?_
 refine Sx.qi_then ?_
 refine Sx.ci_seq ?_
 refine Sx.ci_region Sx.lax_wide (fun _ _ h_ => (And.left h_).elim fun _ e_ => by cases e_) (by kernel_rfl) ?_
 refine Sx.wl_v rfl rfl (Sx.ov_load1 ⟨gc, 0, none⟩ _ rfl sh25 ((rc _ _ h 0).trans rfl)) ?_
 refine Sx.wl_v rfl rfl (Sx.ov_nilCheck _ rfl) ?_
 refine Sx.wl_v rfl rfl (Sx.ov_fieldAddr _ ⟨gl, 0, none⟩ _ rfl fo72_0 rfl) ?_
 refine Sx.wl_v rfl rfl (Sx.ov_load1 ⟨gl, 0, none⟩ _ rfl sh33 ((rl _ _ h 0).trans rfl)) ?_
 refine Sx.wl_v rfl rfl (Sx.ov_len _ _ _ _ _ rfl es33) ?_
 refine Sx.wl_v rfl rfl (Sx.ov_move _ rfl) ?_
 refine Sx.wl_nil ?_
 refine Sx.qi_then ?_
 refine Sx.ci_block ?_
 refine Sx.ci_loop (fun i : Nat => [(0, .func (.yield l) #[] #[]), (1, .pointer (some ⟨gc, 0, none⟩)), (3, .int .i64 (sumF L i)), (9, .slice (A) (L.length) (c)), (10, .int .i64 (((L.length : Nat) : Int))), (11, .int .i64 ((i : Int)))]) (fun i w_ => J ((eachL L).take i) w_ ∧ Sx.KC gs w w_ ∧ i ≤ L.length) (fun i => L.length - i) 0 ⟨rfl, rfl, rfl, rfl, rfl, rfl, trivial⟩ ⟨by simpa using h0, hk0, by omega⟩ ?_
 rintro i W0 ⟨hj, hk, hi⟩
 clear h hkr rc rl rr
 have hbi := hb i hi
 show Sx.WCI _ _ _ _ _ _ _ [(0, .func (.yield l) #[] #[]), (1, .pointer (some ⟨gc, 0, none⟩)), (3, .int .i64 (sumF L i)), (9, .slice (A) (L.length) (c)), (10, .int .i64 (((L.length : Nat) : Int))), (11, .int .i64 ((i : Int)))] _
 have h := Sx.st_start W0
 have hkr : ∀ cs_ w_, Sx.St W0 (fun _ => False) cs_ w_ → Sx.KC gs w w_ := fun cs_ w_ h_ => Sx.kc_trans hk (Sx.kc_below (Sx.st_below0 h_))
 have rc : ∀ cs_ w_, Sx.St W0 (fun _ => False) cs_ w_ → ∀ j_, w_.cell? ⟨gc, j_, none⟩ = ([.pointer (some ⟨gl, 0, none⟩)] : List Value)[j_]? := fun cs_ w_ h_ => hcap w_ (hkr cs_ w_ h_)
 have rl : ∀ cs_ w_, Sx.St W0 (fun _ => False) cs_ w_ → ∀ j_, w_.cell? ⟨gl, j_, none⟩ = (Value.slice (A) L.length c :: cells)[j_]? := fun cs_ w_ h_ => hlist w_ (hkr cs_ w_ h_)
 have rr : ∀ cs_ w_, Sx.St W0 (fun _ => False) (cs_ ++ []) w_ → k66.C w_ (A) L.length L := fun cs_ w_ h_ => hrow w_ (hkr _ w_ h_)
 refine Sx.ci_seq ?_
 refine Sx.ci_region Sx.lax_wide (fun _ _ h_ => (And.left h_).elim fun _ e_ => by cases e_) (by kernel_rfl) ?_
 refine Sx.wl_v rfl rfl (Sx.ov_bin _ rfl rfl (Sx.binR_lss)) ?_
 refine Sx.wl_nil ?_
 refine Sx.qi_then ?_
 refine Sx.ci_seq ?_
 refine Sx.ci_cond (by rfl) (fun c1 => ?_) (fun c1 => ?_)
 ·
  have hbi2 := hb2 i (by omega)
  have hbi3 := hb (i + 1) (by omega)
  refine Sx.ci_skip ?_
  refine Sx.qi_then ?_
  refine Sx.ci_seq ?_
  refine Sx.ci_block ?_
  refine Sx.ci_seq ?_
  refine Sx.ci_region Sx.lax_wide (fun _ _ h_ => (And.left h_).elim fun _ e_ => by cases e_) (by kernel_rfl) ?_
  obtain ⟨ad2, rfl⟩ := Sx.C_some ((rr [] _ h)) (k := i) (by first | assumption | omega)
  refine Sx.wl_v rfl rfl (Sx.ov_indexAddrN _ _ _ _ _ i rfl rfl es33 rfl (by first | assumption | omega | (simp only [List.length_take, List.length_drop, List.length_set]; omega))) ?_
  obtain ⟨cl5, _, hk4, hc3⟩ := Sx.C_cells ((rr [] _ h)) (z := z66) (k := i) (by first | assumption | omega)
  obtain rfl := k66_open hk4
  refine Sx.wl_v rfl rfl (Sx.ov_loadN _ [.int .i64 (((L).getD i z66).f0), .int .i64 (((L).getD i z66).f1)] rfl sh66 (by intro j u hu; rw [Deep.add_add]; exact (hc3 _ _ hu))) ?_
  refine Sx.wl_alloc _ h rfl rfl zo66 (fun b6 _ h => ?_)
  replace h : Sx.St _ _ (Sx.blk b6 [.int .i64 (0), .int .i64 (0)] 66 :: _) _ := h
  refine Sx.wl_storebN 0 [.int .i64 (((L).getD i z66).f0), .int .i64 (((L).getD i z66).f1)] [.int .i64 (((L).getD i z66).f0), .int .i64 (((L).getD i z66).f1)] h rfl rfl rfl rfl (by simp [Value.oneCell']) sh66 rfl rfl (fun _ h => ?_)
  refine Sx.wl_nil ?_
  refine Sx.qi_then ?_
  refine Sx.ci_seq ?_
  refine Sx.ci_seq ?_
  refine Sx.ci_regionI ?_
  refine Sx.wli_v Sx.lax_wide (fun _ h_ => by cases h_) rfl (Sx.ov_move _ rfl) ?_
  refine Sx.wli_v Sx.lax_wide (fun _ h_ => by cases h_) rfl (Sx.ov_move _ rfl) ?_
  refine Sx.wli_v Sx.lax_wide (fun _ h_ => by cases h_) rfl (Sx.ov_loadbN 0 [.int .i64 (((L).getD i z66).f0), .int .i64 (((L).getD i z66).f1)] h rfl rfl sh66 rfl) ?_
  have hb1 := Sx.st_below0 h
  have hj1 := hJ _ _ _ none (hJ0 hj) (Sx.below_grown hb1) (fun r_ e_ => by cases e_)
  have hk1 := Sx.kc_trans hk (Sx.kc_below hb1)
  have hnb6 := Sx.st_blk_new h (i := 0) rfl
  refine Sx.wli_yield [.int .i64 (sumF L i), .agg #[.int .i64 (((L).getD i z66).f0), .int .i64 (((L).getD i z66).f1)]] Sx.lax_wide rfl rfl rfl (hY _ (sumF L i, L.getD i z66) _ hj1 (by rw [eachL_tl L i (by omega)]; omega)) ?_
  rintro e_ W2 (⟨rfl, hj2, hk2⟩ | ⟨rfl, hx2⟩)
  ·
   refine ⟨_, rfl, ?_⟩
   clear h hkr rc rl rr
   have hkn := Sx.kc_trans hk1 hk2
   have h := Sx.st_start W2
   have hkr : ∀ cs_ w_, Sx.St W2 (fun _ => False) cs_ w_ → Sx.KC gs w w_ := fun cs_ w_ h_ => Sx.kc_trans hkn (Sx.kc_below (Sx.st_below0 h_))
   have rc : ∀ cs_ w_, Sx.St W2 (fun _ => False) cs_ w_ → ∀ j_, w_.cell? ⟨gc, j_, none⟩ = ([.pointer (some ⟨gl, 0, none⟩)] : List Value)[j_]? := fun cs_ w_ h_ => hcap w_ (hkr cs_ w_ h_)
   have rl : ∀ cs_ w_, Sx.St W2 (fun _ => False) cs_ w_ → ∀ j_, w_.cell? ⟨gl, j_, none⟩ = (Value.slice (some ad2) L.length c :: cells)[j_]? := fun cs_ w_ h_ => hlist w_ (hkr cs_ w_ h_)
   have rr : ∀ cs_ w_, Sx.St W2 (fun _ => False) (cs_ ++ []) w_ → k66.C w_ (some ad2) L.length L := fun cs_ w_ h_ => hrow w_ (hkr _ w_ h_)
   have hqb6 := hk2.2 b6 _ (fun e_ => by have := hgs _ e_; have := hk.1; have := hnb6.1; omega) hnb6.2 rfl
   have rqb6 : ∀ cs_ w_, Sx.St W2 (fun _ => False) cs_ w_ → ∀ j_, w_.cell? ⟨b6, j_, none⟩ = ([.int .i64 (((L).getD i z66).f0), .int .i64 (((L).getD i z66).f1)] : List Value)[j_]? := fun cs_ w_ h_ => Sx.cell_at hqb6 (Sx.st_below0 h_)
   refine Sx.wli_rest Sx.lax_wide (fun _ _ h_ => (And.left h_).elim fun _ e_ => by cases e_) (by kernel_rfl) ?_
   refine Sx.wl_v rfl rfl (Sx.ov_notb _ rfl) ?_
   refine Sx.wl_nil ?_
   refine Sx.qi_then ?_
   refine Sx.ci_cond_false rfl ?_
   refine Sx.ci_skip ?_
   refine Sx.qi_then ?_
   refine Sx.ci_region Sx.lax_wide (fun _ _ h_ => (And.left h_).elim fun _ e_ => by cases e_) (by kernel_rfl) ?_
   refine Sx.wl_v rfl rfl (Sx.ov_move _ rfl) ?_
   refine Sx.wl_v rfl rfl (Sx.ov_fieldAddr _ ⟨b6, 0, none⟩ _ rfl fo66_0 rfl) ?_
   refine Sx.wl_v rfl rfl (Sx.ov_load1 ⟨b6, 0, none⟩ _ rfl sh3 ((rqb6 _ _ h 0).trans rfl)) ?_
   refine Sx.wl_v rfl rfl (Sx.ov_bin _ rfl rfl (Sx.binR_add (r := (sumF L i) + (((L).getD i z66).f0)) (Sx.w64 (by omega)))) ?_
   refine Sx.wl_v rfl rfl (Sx.ov_assign _ rfl) ?_
   refine Sx.wl_nil ?_
   refine Sx.qn_block_normal ?_
   refine Sx.qi_then ?_
   refine Sx.ci_region Sx.lax_wide (fun _ _ h_ => (And.left h_).elim fun _ e_ => by cases e_) (by kernel_rfl) ?_
   refine Sx.wl_v rfl rfl (Sx.ov_bin _ rfl rfl (Sx.binR_add (r := ((i : Int)) + 1) (Sx.w64 (by omega)))) ?_
   refine Sx.wl_v rfl rfl (Sx.ov_move _ rfl) ?_
   refine Sx.wl_nil ?_
   refine Sx.qn_next (i + 1) (by omega) ⟨rfl, rfl, (congrArg (fun z_ => some (Value.int .i64 z_)) (show ((sumF L i) + (((L).getD i z66).f0) : Int) = sumF L (i + 1) by first | rfl | omega)), rfl, rfl, (congrArg (fun z_ => some (Value.int .i64 z_)) (show (((i : Int)) + 1 : Int) = ((i + 1) : Int) by first | rfl | omega)), trivial⟩ ⟨by rw [eachL_take L i (by omega)]; exact hj2, hkn, by omega⟩
  ·
   refine ⟨_, rfl, ?_⟩
   clear h hkr rc rl rr
   have h := Sx.st_start W2
   refine Sx.wli_rest Sx.lax_wide (fun _ _ h_ => (And.left h_).elim fun _ e_ => by cases e_) (by kernel_rfl) ?_
   refine Sx.wl_v rfl rfl (Sx.ov_notb _ rfl) ?_
   refine Sx.wl_nil ?_
   refine Sx.qi_then ?_
   refine Sx.ci_cond_true rfl ?_
   refine Sx.ci_ret ?_
   refine Sx.qn_then_ret ?_
   refine Sx.qn_block_ret ?_
   refine Sx.qn_then_ret ?_
   refine Sx.qn_then_ret ?_
   refine Sx.qn_block_ret ?_
   refine Sx.qn_ret [] trivial ?_
   first | exact ⟨⟨_, rfl⟩, .inl ⟨_, rfl, (by have e_ : i = L.length := (by omega); rw [e_, eachL_all L] at hj; exact hj)⟩⟩ | exact ⟨⟨_, rfl⟩, .inr ⟨_, ⟨i + 1, by omega, (eachL_take L i (by omega)).symm⟩, hx2⟩⟩
 ·
  refine Sx.ci_exit ?_
  refine Sx.qn_then_exit ?_
  refine Sx.qn_then_exit ?_
  refine Sx.qn_block_exit ?_
  refine Sx.qn_end [] trivial ?_
  first | exact ⟨⟨_, rfl⟩, .inl ⟨_, rfl, (by have e_ : i = L.length := (by omega); rw [e_, eachL_all L] at hj; exact hj)⟩⟩ | exact ⟨⟨_, rfl⟩, .inr ⟨_, ⟨i + 1, by omega, (eachL_take L i (by omega)).symm⟩, hx2⟩⟩
end Go.Proofs.Ytkliboeebookeaa.Runs.I
