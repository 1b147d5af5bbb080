/- Pruned by wip/prune.py. -/
import Derived.Test.YtmlkajmlhmfdgaaQCaRef
namespace Go.Proofs.Ytmlkajmlhmfdgaa.Ca
open Go Go.RowKit Go.Proofs.YtmlkajmlhmfdgaaW.PrintWords Go.Proofs.Ytmlkajmlhmfdgaa.Kinds Go.Proofs.Ytmlkajmlhmfdgaa.Runs Go.Proofs.Ytmlkajmlhmfdgaa.Sx
set_option linter.unusedVariables false
set_option linter.unusedSimpArgs false
structure OH where
  op : OPS
  A : Option Addr
  c : Nat
def kOH : Kd OH := Kd.iso (Kd.pair (Kd.int .i64) (Kd.pair kKH (Kd.int .i64))) (fun x : OH => (x.op.f0, (⟨x.op.f1, x.A, x.c⟩ : KH), x.op.f2))
def cellsOH (x : OH) : List Value := [.int .i64 x.op.f0, .string x.op.f1.f0, .slice x.A x.op.f1.f1.length x.c, .int .i64 x.op.f1.f2, .int .i64 x.op.f1.f3, .int .i64 x.op.f1.f4.f0, .int .i64 x.op.f1.f4.f1, .int .i64 x.op.f1.f4.f2, .int .i64 x.op.f1.f4.f3, .int .i64 x.op.f1.f4.f4, .int .i64 x.op.f1.f4.f5, .int .i64 x.op.f1.f4.f6, .int .i64 x.op.f2]
theorem kOH_open {w : World} {x : OH} {cs : List Value} (h : kOH.K w x cs) : cs = cellsOH x := by
  obtain ⟨_, _, rfl, rfl, ⟨_, _, rfl, h1, rfl⟩⟩ := h
  rw [kKH_open h1]; rfl
theorem kOH_mkM (w : World) (base : Nat) (ok : Nat → Prop) (x : OH) : kOH.M w base ok x (cellsOH x) := ⟨[.int .i64 x.op.f0], _, rfl, rfl, ⟨_, [.int .i64 x.op.f2], rfl, kKH_mkM w base ok ⟨x.op.f1, x.A, x.c⟩, rfl⟩⟩
theorem k_nil_key {w : World} {x : OPS} (h : x.f1.f1 = []) : k69.K w x (cellsOH ⟨x, none, 0⟩) := by
  refine ⟨[.int .i64 x.f0], _, rfl, rfl, ⟨cellsKH ⟨x.f1, none, 0⟩, [.int .i64 x.f2], rfl, ?_, rfl⟩⟩
  refine ⟨[.string x.f1.f0], _, rfl, rfl, ⟨[.slice none x.f1.f1.length 0], _, rfl, ⟨none, 0, rfl, by show x.f1.f1.length ≤ 0; rw [h]; exact Nat.le_refl _, by show k50.C w none x.f1.f1.length x.f1.f1; rw [h]; exact Kd.C_nil _ _⟩, ⟨[.int .i64 x.f1.f2], _, rfl, rfl, ⟨[.int .i64 x.f1.f3], _, rfl, rfl, ?_⟩⟩⟩⟩
  exact k31.K_of_M (k31_mkM w 0 (fun _ => True) x.f1.f4)
theorem oh_C {w : World} {A : Option Addr} {n : Nat} {L : List OH} (h : kOH.C w A n L) (hL : ∀ x ∈ L, x.A = none ∧ x.c = 0 ∧ x.op.f1.f1 = []) : k69.C w A n (L.map (·.op)) := by
  obtain ⟨h1, h2, h3⟩ := h
  refine ⟨by rw [List.length_map]; exact h1, by simpa using h2, fun h0 => ?_⟩
  obtain ⟨ad, e, hc⟩ := h3 h0
  refine ⟨ad, e, fun k x hx => ?_⟩
  rw [List.getElem?_map] at hx
  cases e2 : L[k]? with
  | none => rw [e2] at hx; cases hx
  | some y =>
    rw [e2] at hx
    injection hx with hx
    subst hx
    obtain ⟨cl, c1, c2, c3⟩ := hc k y e2
    obtain ⟨b1, b2, b3⟩ := hL y (List.mem_of_getElem? e2)
    refine ⟨cl, c1, ?_, c3⟩
    rw [kOH_open c2]
    have := k_nil_key (w := w) b3
    obtain ⟨op, A', c'⟩ := y
    obtain rfl : A' = none := b1
    obtain rfl : c' = 0 := b2
    exact this
def kt (b : UInt8) : KV := ⟨ByteArray.mk #[b], [], 0, 0, ⟨0, 0, 0, 0, 0, 0, 0⟩⟩
def exOps : List OPS := [⟨0, kt 97, 1⟩, ⟨0, kt 98, 2⟩, ⟨1, kt 97, 0⟩, ⟨0, kt 99, 3⟩]
theorem ex_play : playV 2 exOps 4 = ([(kt 99, 3), (kt 97, 1)], 1, 0) := by decide +kernel
theorem getD_key {K : List KH} {i : Nat} (h : i < K.length) : (K.getD i zKH).key = (K.map (·.key)).getD i z33 := by
  simp [List.getD, h]
def KeepP (M : LM Int) (k : KV) (v : Int) (n : Nat) : Prop := ∃ P Q, M = P ++ (k, v) :: Q ∧ P.length ≤ n
theorem keep_first {room : Int} (h : room ≠ 0) (M : LM Int) (k : KV) (v : Int) (hM : M = []) : KeepP (putM room M k v) k v 0 := by
  subst hM
  rw [putM_none h (fun p hp => by cases hp), if_neg (by simpa using fun z => h z.symm)]
  exact ⟨[], [], rfl, Nat.le_refl _⟩
theorem keep_put {room : Int} {M : LM Int} {k k' : KV} {v v' : Int} {n : Nat} (hr : room ≠ 0) (h : KeepP M k v n) (hu : alikeB k' k = false) (hn : (n : Int) < room - 1) : KeepP (putM room M k' v') k v (n + 1) := by
  obtain ⟨P, Q, rfl, hP⟩ := h
  cases hf : findI (P ++ (k, v) :: Q) k' with
  | none =>
    have e : putM room (P ++ (k, v) :: Q) k' v' = (k', v') :: (if ((P ++ (k, v) :: Q).length : Int) = room then (P ++ (k, v) :: Q).dropLast else P ++ (k, v) :: Q) := by unfold putM; simp only [if_neg hr, hf]
    rw [e]
    by_cases c : ((P ++ (k, v) :: Q).length : Int) = room
    · rw [if_pos c]
      rcases List.eq_nil_or_concat Q with rfl | ⟨Q', q, rfl⟩
      · simp only [List.length_append, List.length_cons, List.length_nil] at c
        omega
      · refine ⟨(k', v') :: P, Q', ?_, by simp; omega⟩
        rw [List.concat_eq_append, show P ++ (k, v) :: (Q' ++ [q]) = (P ++ (k, v) :: Q') ++ [q] by simp, List.dropLast_concat]; rfl
    · rw [if_neg c]
      exact ⟨(k', v') :: P, Q, rfl, by simp; omega⟩
  | some i =>
    obtain ⟨p, hp, ha⟩ := find_some hf
    have e : putM room (P ++ (k, v) :: Q) k' v' = (p.1, v') :: (P ++ (k, v) :: Q).eraseIdx i := by unfold putM; simp only [if_neg hr, hf, hp]
    rw [e]
    rcases Nat.lt_trichotomy i P.length with c | c | c
    · rw [List.eraseIdx_append_of_lt_length c]
      refine ⟨(p.1, v') :: P.eraseIdx i, Q, rfl, ?_⟩
      rw [List.length_cons, List.length_eraseIdx, if_pos c]; omega
    · subst c
      rw [get_mid] at hp
      injection hp with hp
      subst hp
      rw [alike_comm, hu] at ha
      cases ha
    · rw [List.eraseIdx_append_of_length_le (by omega), show i - P.length = (i - P.length - 1) + 1 by omega, List.eraseIdx_cons_succ]
      exact ⟨(p.1, v') :: P, Q.eraseIdx (i - P.length - 1), rfl, by simp; omega⟩
theorem keep_get {M : LM Int} {k : KV} {v : Int} {n : Nat} (hu : Unlike M) (h : KeepP M k v n) : (getM M k).2 = some v := by
  obtain ⟨P, Q, rfl, _⟩ := h
  rw [getM_at hu (alike_refl k)]
end Go.Proofs.Ytmlkajmlhmfdgaa.Ca
