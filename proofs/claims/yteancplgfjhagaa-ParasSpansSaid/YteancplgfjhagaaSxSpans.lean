/- The index's iterator. -/
import Derived.Test.YteancplgfjhagaaProg
import Derived.Test.YteancplgfjhagaaSxRanged
import Derived.Test.YteancplgfjhagaaSxKinds
import Derived.Test.YteancplgfjhagaaParasTh
import Derived.Test.YteancplgfjhagaaSxParas
namespace Go.Proofs.Yteancplgfjhagaa.Paras.I
open Go Go.RowKit Go.Proofs.YteancplgfjhagaaW.PrintWords Go.Proofs.Yteancplgfjhagaa.Kinds Go.Proofs.Yteancplgfjhagaa.Paras
set_option linter.unusedVariables false
set_option linter.unusedSimpArgs false
theorem sh28 : Sx.shapeOf Try.prog 28 = some (false, 1) := by kernel_rfl
theorem fo60_0 : Sx.fieldOff Try.prog 60 0 = some 0 := by kernel_rfl
theorem sh23 : Sx.shapeOf Try.prog 23 = some (false, 1) := by kernel_rfl
theorem es23 : Sx.elemSz Try.prog 23 = some (3, 1) := by kernel_rfl
theorem sh3 : Sx.shapeOf Try.prog 3 = some (false, 1) := by kernel_rfl

abbrev YI := Int × Int
def sumF (L : List Int) (k : Nat) : Int := (L.take k).sum
def eachL (L : List Int) : List YI := (List.range L.length).map fun k => (sumF L k, sumF L k + L.getD k 0)
theorem sumF_succ (L : List Int) (k : Nat) (h : k < L.length) : sumF L (k + 1) = sumF L k + L.getD k 0 := sum_take_succ L k h
theorem eachL_len (L : List Int) : (eachL L).length = L.length := by simp [eachL]
theorem eachL_get (L : List Int) (k : Nat) (h : k < L.length) : (eachL L)[k]? = some (sumF L k, sumF L k + L.getD k 0) := by simp [eachL, h]
theorem eachL_take (L : List Int) (k : Nat) (h : k < L.length) : (eachL L).take (k + 1) = (eachL L).take k ++ [(sumF L k, sumF L k + L.getD k 0)] := by
  have hl : k < (eachL L).length := by rw [eachL_len]; exact h
  have e : (eachL L)[k] = (sumF L k, sumF L k + L.getD k 0) := by have := eachL_get L k h; rw [List.getElem?_eq_getElem hl] at this; exact Option.some.inj this
  rw [List.take_succ_eq_append_getElem hl, e]
theorem eachL_all (L : List Int) : (eachL L).take L.length = eachL L := List.take_of_length_le (by rw [eachL_len]; exact Nat.le_refl _)
theorem eachL_tl (L : List Int) (k : Nat) (h : k ≤ L.length) : ((eachL L).take k).length = k := by rw [List.length_take, eachL_len]; omega
theorem each_next {L : List Int} {pre : List YI} {x : YI} (h1 : pre.length < L.length) (h2 : pre = (eachL L).take pre.length) (hx : x = (sumF L pre.length, sumF L pre.length + L.getD pre.length 0)) : pre ++ [x] = (eachL L).take (pre ++ [x]).length := by
  rw [List.length_append, List.length_cons, List.length_nil, eachL_take L _ h1, ← h2, hx]
theorem each_last {L : List Int} {pre : List YI} {x : YI} (h1 : pre.length < L.length) (h : pre ++ [x] = (eachL L).take (pre ++ [x]).length) : x = (sumF L pre.length, sumF L pre.length + L.getD pre.length 0) := by
  rw [List.length_append, List.length_cons, List.length_nil, Nat.zero_add, eachL_take L _ h1] at h
  have h3 := List.append_inj_right h (by rw [eachL_tl _ _ (by omega)])
  injection h3
abbrev encY (x : YI) : Array Value := #[.int .i64 x.1, .int .i64 x.2]

set_option maxRecDepth 100000 in
theorem each_stops {w : World} {gs : Sx.Gs} {gc gl : Nat} {A : Option Addr} {c : Nat} {L : List Int} {cells : List Value} (hgs : ∀ k, Sx.inG gs k → k < w.heap.size)
    (hcap : ∀ W, Sx.KC gs w W → ∀ j, W.cell? ⟨gc, j, none⟩ = ([.pointer (some ⟨gl, 0, none⟩)] : List Value)[j]?) (hlist : ∀ W, Sx.KC gs w W → ∀ j, W.cell? ⟨gl, j, none⟩ = (Value.slice A L.length c :: cells)[j]?)
    (hrow : ∀ W, Sx.KC gs w W → (Kd.int .i64).C W A L.length L) (hlc : L.length ≤ c) (hlen : L.length ≤ 1099511627776) (hb : ∀ k, k ≤ L.length → 0 ≤ sumF L k ∧ sumF L k ≤ 1099511627776) (hb2 : ∀ k, k < L.length → 0 ≤ L.getD k 0 ∧ L.getD k 0 ≤ 1099511627776) :
    SeqStopsK Fence.wide 1 Try.prog 30 #[.pointer (some ⟨gc, 0, none⟩)] encY (Sx.KC gs) (fun xs => xs = eachL L) (fun pre => ∃ k, k ≤ L.length ∧ pre = (eachL L).take k) L.length w := by
 intro l J Jx W hbw hJ hJx hY h0
 have hk0 : Sx.KC gs w W := Sx.kc_below hbw
 have hJ0 : ∀ {s_ W_}, J s_ W_ → J s_ W_ := id
 refine Sx.calls_fnI (vs := [.func (.yield l) #[] #[], .pointer (some ⟨gc, 0, none⟩)]) Try.func30 rfl Try.ntmps30 rfl ?_
 have h := Sx.st_start W
 have hkr : ∀ cs_ w_, Sx.St W (fun _ => False) cs_ w_ → Sx.KC gs w w_ := fun cs_ w_ h_ => Sx.kc_trans hk0 (Sx.kc_below (Sx.st_below0 h_))
 have rc : ∀ cs_ w_, Sx.St W (fun _ => False) cs_ w_ → ∀ j_, w_.cell? ⟨gc, j_, none⟩ = ([.pointer (some ⟨gl, 0, none⟩)] : List Value)[j_]? := fun cs_ w_ h_ => hcap w_ (hkr cs_ w_ h_)
 have rl : ∀ cs_ w_, Sx.St W (fun _ => False) cs_ w_ → ∀ j_, w_.cell? ⟨gl, j_, none⟩ = (Value.slice (A) L.length c :: cells)[j_]? := fun cs_ w_ h_ => hlist w_ (hkr cs_ w_ h_)
 have rr : ∀ cs_ w_, Sx.St W (fun _ => False) (cs_ ++ []) w_ → (Kd.int .i64).C w_ (A) L.length L := fun cs_ w_ h_ => hrow w_ (hkr _ w_ h_)
 refine Sx.ci_seq ?_
 refine Sx.ci_region Sx.lax_wide (fun _ _ h_ => (And.left h_).elim fun _ e_ => by cases e_) (by kernel_rfl) ?_
 refine Sx.wl_v rfl rfl (Sx.ov_assign _ rfl) ?_
 refine Sx.wl_nil ?_
 refine Sx.qi_then ?_
 refine Sx.ci_seq ?_
 refine Sx.ci_region Sx.lax_wide (fun _ _ h_ => (And.left h_).elim fun _ e_ => by cases e_) (by kernel_rfl) ?_
 refine Sx.wl_v rfl rfl (Sx.ov_load1 ⟨gc, 0, none⟩ _ rfl sh28 ((rc _ _ h 0).trans rfl)) ?_
 refine Sx.wl_v rfl rfl (Sx.ov_nilCheck _ rfl) ?_
 refine Sx.wl_v rfl rfl (Sx.ov_fieldAddr _ ⟨gl, 0, none⟩ _ rfl fo60_0 rfl) ?_
 refine Sx.wl_v rfl rfl (Sx.ov_load1 ⟨gl, 0, none⟩ _ rfl sh23 ((rl _ _ h 0).trans rfl)) ?_
 refine Sx.wl_v rfl rfl (Sx.ov_len _ _ _ _ _ rfl es23) ?_
 refine Sx.wl_v rfl rfl (Sx.ov_move _ rfl) ?_
 refine Sx.wl_nil ?_
 refine Sx.qi_then ?_
 refine Sx.ci_block ?_
 refine Sx.ci_loop (fun i : Nat => [(0, .func (.yield l) #[] #[]), (1, .pointer (some ⟨gc, 0, none⟩)), (3, .int .i64 (sumF L i)), (9, .slice (A) (L.length) (c)), (10, .int .i64 (((L.length : Nat) : Int))), (11, .int .i64 ((i : Int)))]) (fun i w_ => J ((eachL L).take i) w_ ∧ Sx.KC gs w w_ ∧ i ≤ L.length) (fun i => L.length - i) 0 ⟨rfl, rfl, rfl, rfl, rfl, rfl, trivial⟩ ⟨by simpa using h0, hk0, by omega⟩ ?_
 rintro i W0 ⟨hj, hk, hi⟩
 clear h hkr rc rl rr
 have hbi := hb i hi
 show Sx.WCI _ _ _ _ _ _ _ [(0, .func (.yield l) #[] #[]), (1, .pointer (some ⟨gc, 0, none⟩)), (3, .int .i64 (sumF L i)), (9, .slice (A) (L.length) (c)), (10, .int .i64 (((L.length : Nat) : Int))), (11, .int .i64 ((i : Int)))] _
 have h := Sx.st_start W0
 have hkr : ∀ cs_ w_, Sx.St W0 (fun _ => False) cs_ w_ → Sx.KC gs w w_ := fun cs_ w_ h_ => Sx.kc_trans hk (Sx.kc_below (Sx.st_below0 h_))
 have rc : ∀ cs_ w_, Sx.St W0 (fun _ => False) cs_ w_ → ∀ j_, w_.cell? ⟨gc, j_, none⟩ = ([.pointer (some ⟨gl, 0, none⟩)] : List Value)[j_]? := fun cs_ w_ h_ => hcap w_ (hkr cs_ w_ h_)
 have rl : ∀ cs_ w_, Sx.St W0 (fun _ => False) cs_ w_ → ∀ j_, w_.cell? ⟨gl, j_, none⟩ = (Value.slice (A) L.length c :: cells)[j_]? := fun cs_ w_ h_ => hlist w_ (hkr cs_ w_ h_)
 have rr : ∀ cs_ w_, Sx.St W0 (fun _ => False) (cs_ ++ []) w_ → (Kd.int .i64).C w_ (A) L.length L := fun cs_ w_ h_ => hrow w_ (hkr _ w_ h_)
 refine Sx.ci_seq ?_
 refine Sx.ci_region Sx.lax_wide (fun _ _ h_ => (And.left h_).elim fun _ e_ => by cases e_) (by kernel_rfl) ?_
 refine Sx.wl_v rfl rfl (Sx.ov_bin _ rfl rfl (Sx.binR_lss)) ?_
 refine Sx.wl_nil ?_
 refine Sx.qi_then ?_
 refine Sx.ci_seq ?_
 refine Sx.ci_cond (by rfl) (fun c1 => ?_) (fun c1 => ?_)
 ·
  have hbi2 := hb2 i (by omega)
  have hbi3 := hb (i + 1) (by omega)
  have hss_ := sumF_succ L i (by omega)
  refine Sx.ci_skip ?_
  refine Sx.qi_then ?_
  refine Sx.ci_seq ?_
  refine Sx.ci_block ?_
  refine Sx.ci_seq ?_
  refine Sx.ci_region Sx.lax_wide (fun _ _ h_ => (And.left h_).elim fun _ e_ => by cases e_) (by kernel_rfl) ?_
  obtain ⟨ad2, rfl⟩ := Sx.C_some ((rr [] _ h)) (k := i) (by first | assumption | omega)
  refine Sx.wl_v rfl rfl (Sx.ov_indexAddrN _ _ _ _ _ i rfl rfl es23 rfl (by first | assumption | omega | (simp only [List.length_take, List.length_drop, List.length_set]; omega))) ?_
  obtain ⟨cl5, _, hk4, hc3⟩ := Sx.C_cells ((rr [] _ h)) (z := (0 : Int)) (k := i) (by first | assumption | omega)
  obtain rfl : cl5 = [.int .i64 _] := hk4
  refine Sx.wl_v rfl rfl (Sx.ov_load1 _ _ rfl sh3 ((hc3 0 _ rfl))) ?_
  refine Sx.wl_v rfl rfl (Sx.ov_assign _ rfl) ?_
  refine Sx.wl_nil ?_
  refine Sx.qi_then ?_
  refine Sx.ci_seq ?_
  refine Sx.ci_seq ?_
  refine Sx.ci_regionI ?_
  refine Sx.wli_v Sx.lax_wide (fun _ h_ => by cases h_) rfl (Sx.ov_move _ rfl) ?_
  refine Sx.wli_v Sx.lax_wide (fun _ h_ => by cases h_) rfl (Sx.ov_move _ rfl) ?_
  refine Sx.wli_v Sx.lax_wide (fun _ h_ => by cases h_) rfl (Sx.ov_move _ rfl) ?_
  refine Sx.wli_v Sx.lax_wide (fun _ h_ => by cases h_) rfl (Sx.ov_move _ rfl) ?_
  refine Sx.wli_v Sx.lax_wide (fun _ h_ => by cases h_) rfl (Sx.ov_bin _ rfl rfl (Sx.binR_add (r := (sumF L i) + ((L).getD i (0 : Int))) (Sx.w64 (by omega)))) ?_
  have hb1 := Sx.st_below0 h
  have hj1 := hJ _ _ _ none (hJ0 hj) (Sx.below_grown hb1) (fun r_ e_ => by cases e_)
  have hk1 := Sx.kc_trans hk (Sx.kc_below hb1)
  refine Sx.wli_yield [.int .i64 (sumF L i), .int .i64 ((sumF L i) + ((L).getD i (0 : Int)))] Sx.lax_wide rfl rfl rfl (hY _ (sumF L i, sumF L i + L.getD i 0) _ hj1 (by rw [eachL_tl L i (by omega)]; omega)) ?_
  rintro e_ W2 (⟨rfl, hj2, hk2⟩ | ⟨rfl, hx2⟩)
  ·
   refine ⟨_, rfl, ?_⟩
   clear h hkr rc rl rr
   have hkn := Sx.kc_trans hk1 hk2
   have h := Sx.st_start W2
   have hkr : ∀ cs_ w_, Sx.St W2 (fun _ => False) cs_ w_ → Sx.KC gs w w_ := fun cs_ w_ h_ => Sx.kc_trans hkn (Sx.kc_below (Sx.st_below0 h_))
   have rc : ∀ cs_ w_, Sx.St W2 (fun _ => False) cs_ w_ → ∀ j_, w_.cell? ⟨gc, j_, none⟩ = ([.pointer (some ⟨gl, 0, none⟩)] : List Value)[j_]? := fun cs_ w_ h_ => hcap w_ (hkr cs_ w_ h_)
   have rl : ∀ cs_ w_, Sx.St W2 (fun _ => False) cs_ w_ → ∀ j_, w_.cell? ⟨gl, j_, none⟩ = (Value.slice (some ad2) L.length c :: cells)[j_]? := fun cs_ w_ h_ => hlist w_ (hkr cs_ w_ h_)
   have rr : ∀ cs_ w_, Sx.St W2 (fun _ => False) (cs_ ++ []) w_ → (Kd.int .i64).C w_ (some ad2) L.length L := fun cs_ w_ h_ => hrow w_ (hkr _ w_ h_)
   refine Sx.wli_rest Sx.lax_wide (fun _ _ h_ => (And.left h_).elim fun _ e_ => by cases e_) (by kernel_rfl) ?_
   refine Sx.wl_v rfl rfl (Sx.ov_notb _ rfl) ?_
   refine Sx.wl_nil ?_
   refine Sx.qi_then ?_
   refine Sx.ci_cond_false rfl ?_
   refine Sx.ci_skip ?_
   refine Sx.qi_then ?_
   refine Sx.ci_region Sx.lax_wide (fun _ _ h_ => (And.left h_).elim fun _ e_ => by cases e_) (by kernel_rfl) ?_
   refine Sx.wl_v rfl rfl (Sx.ov_move _ rfl) ?_
   refine Sx.wl_v rfl rfl (Sx.ov_move _ rfl) ?_
   refine Sx.wl_v rfl rfl (Sx.ov_bin _ rfl rfl (Sx.binR_add (r := (sumF L i) + ((L).getD i (0 : Int))) (Sx.w64 (by omega)))) ?_
   refine Sx.wl_v rfl rfl (Sx.ov_assign _ rfl) ?_
   refine Sx.wl_nil ?_
   refine Sx.qn_block_normal ?_
   refine Sx.qi_then ?_
   refine Sx.ci_region Sx.lax_wide (fun _ _ h_ => (And.left h_).elim fun _ e_ => by cases e_) (by kernel_rfl) ?_
   refine Sx.wl_v rfl rfl (Sx.ov_bin _ rfl rfl (Sx.binR_add (r := ((i : Int)) + 1) (Sx.w64 (by omega)))) ?_
   refine Sx.wl_v rfl rfl (Sx.ov_move _ rfl) ?_
   refine Sx.wl_nil ?_
   refine Sx.qn_next (i + 1) (by omega) ⟨rfl, rfl, (congrArg (fun z_ => some (Value.int .i64 z_)) (show ((sumF L i) + ((L).getD i (0 : Int)) : Int) = sumF L (i + 1) by first | rfl | omega)), rfl, rfl, (congrArg (fun z_ => some (Value.int .i64 z_)) (show (((i : Int)) + 1 : Int) = ((i + 1) : Int) by first | rfl | omega)), trivial⟩ ⟨by rw [eachL_take L i (by omega)]; exact hj2, hkn, by omega⟩
  ·
   refine ⟨_, rfl, ?_⟩
   clear h hkr rc rl rr
   have h := Sx.st_start W2
   refine Sx.wli_rest Sx.lax_wide (fun _ _ h_ => (And.left h_).elim fun _ e_ => by cases e_) (by kernel_rfl) ?_
   refine Sx.wl_v rfl rfl (Sx.ov_notb _ rfl) ?_
   refine Sx.wl_nil ?_
   refine Sx.qi_then ?_
   refine Sx.ci_cond_true rfl ?_
   refine Sx.ci_ret ?_
   refine Sx.qn_then_ret ?_
   refine Sx.qn_block_ret ?_
   refine Sx.qn_then_ret ?_
   refine Sx.qn_then_ret ?_
   refine Sx.qn_block_ret ?_
   refine Sx.qn_ret [] trivial ?_
   first | exact ⟨⟨_, rfl⟩, .inl ⟨_, rfl, (by have e_ : i = L.length := (by omega); rw [e_, eachL_all L] at hj; exact hj)⟩⟩ | exact ⟨⟨_, rfl⟩, .inr ⟨_, ⟨i + 1, by omega, (eachL_take L i (by omega)).symm⟩, hx2⟩⟩
 ·
  refine Sx.ci_exit ?_
  refine Sx.qn_then_exit ?_
  refine Sx.qn_then_exit ?_
  refine Sx.qn_block_exit ?_
  refine Sx.qn_end [] trivial ?_
  first | exact ⟨⟨_, rfl⟩, .inl ⟨_, rfl, (by have e_ : i = L.length := (by omega); rw [e_, eachL_all L] at hj; exact hj)⟩⟩ | exact ⟨⟨_, rfl⟩, .inr ⟨_, ⟨i + 1, by omega, (eachL_take L i (by omega)).symm⟩, hx2⟩⟩
end Go.Proofs.Yteancplgfjhagaa.Paras.I
