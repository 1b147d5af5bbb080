/- Pruned by wip/prune.py. -/
import Derived.Test.YtmlkajmlhmfdgaaQCaRef
namespace Go.Proofs.Ytmlkajmlhmfdgaa.Ca
open Go Go.RowKit Go.Proofs.YtmlkajmlhmfdgaaW.PrintWords Go.Proofs.Ytmlkajmlhmfdgaa.Kinds Go.Proofs.Ytmlkajmlhmfdgaa.Runs Go.Proofs.Ytmlkajmlhmfdgaa.Sx
set_option linter.unusedVariables false
set_option linter.unusedSimpArgs false
structure OH where
  op : OPS
  A : Option Addr
  c : Nat
def kOH : Kd OH := Kd.iso (Kd.pair (Kd.int .i64) (Kd.pair kKH (Kd.int .i64))) (fun x : OH => (x.op.f0, (⟨x.op.f1, x.A, x.c⟩ : KH), x.op.f2))
def cellsOH (x : OH) : List Value := [.int .i64 x.op.f0, .string x.op.f1.f0, .slice x.A x.op.f1.f1.length x.c, .int .i64 x.op.f1.f2, .int .i64 x.op.f1.f3, .int .i64 x.op.f1.f4.f0, .int .i64 x.op.f1.f4.f1, .int .i64 x.op.f1.f4.f2, .int .i64 x.op.f1.f4.f3, .int .i64 x.op.f1.f4.f4, .int .i64 x.op.f1.f4.f5, .int .i64 x.op.f1.f4.f6, .int .i64 x.op.f2]
theorem kOH_open {w : World} {x : OH} {cs : List Value} (h : kOH.K w x cs) : cs = cellsOH x := by
  obtain ⟨_, _, rfl, rfl, ⟨_, _, rfl, h1, rfl⟩⟩ := h
  rw [kKH_open h1]; rfl
theorem kOH_mkM (w : World) (base : Nat) (ok : Nat → Prop) (x : OH) : kOH.M w base ok x (cellsOH x) := ⟨[.int .i64 x.op.f0], _, rfl, rfl, ⟨_, [.int .i64 x.op.f2], rfl, kKH_mkM w base ok ⟨x.op.f1, x.A, x.c⟩, rfl⟩⟩
theorem k_nil_key {w : World} {x : OPS} (h : x.f1.f1 = []) : k69.K w x (cellsOH ⟨x, none, 0⟩) := by
  refine ⟨[.int .i64 x.f0], _, rfl, rfl, ⟨cellsKH ⟨x.f1, none, 0⟩, [.int .i64 x.f2], rfl, ?_, rfl⟩⟩
  refine ⟨[.string x.f1.f0], _, rfl, rfl, ⟨[.slice none x.f1.f1.length 0], _, rfl, ⟨none, 0, rfl, by show x.f1.f1.length ≤ 0; rw [h]; exact Nat.le_refl _, by show k50.C w none x.f1.f1.length x.f1.f1; rw [h]; exact Kd.C_nil _ _⟩, ⟨[.int .i64 x.f1.f2], _, rfl, rfl, ⟨[.int .i64 x.f1.f3], _, rfl, rfl, ?_⟩⟩⟩⟩
  exact k31.K_of_M (k31_mkM w 0 (fun _ => True) x.f1.f4)
theorem oh_C {w : World} {A : Option Addr} {n : Nat} {L : List OH} (h : kOH.C w A n L) (hL : ∀ x ∈ L, x.A = none ∧ x.c = 0 ∧ x.op.f1.f1 = []) : k69.C w A n (L.map (·.op)) := by
  obtain ⟨h1, h2, h3⟩ := h
  refine ⟨by rw [List.length_map]; exact h1, by simpa using h2, fun h0 => ?_⟩
  obtain ⟨ad, e, hc⟩ := h3 h0
  refine ⟨ad, e, fun k x hx => ?_⟩
  rw [List.getElem?_map] at hx
  cases e2 : L[k]? with
  | none => rw [e2] at hx; cases hx
  | some y =>
    rw [e2] at hx
    injection hx with hx
    subst hx
    obtain ⟨cl, c1, c2, c3⟩ := hc k y e2
    obtain ⟨b1, b2, b3⟩ := hL y (List.mem_of_getElem? e2)
    refine ⟨cl, c1, ?_, c3⟩
    rw [kOH_open c2]
    have := k_nil_key (w := w) b3
    obtain ⟨op, A', c'⟩ := y
    obtain rfl : A' = none := b1
    obtain rfl : c' = 0 := b2
    exact this
def kt (b : UInt8) : KV := ⟨ByteArray.mk #[b], [], 0, 0, ⟨0, 0, 0, 0, 0, 0, 0⟩⟩
def exOps : List OPS := [⟨0, kt 97, 1⟩, ⟨0, kt 98, 2⟩, ⟨1, kt 97, 0⟩, ⟨0, kt 99, 3⟩]
theorem ex_play : playV 2 exOps 4 = ([(kt 99, 3), (kt 97, 1)], 1, 0) := by decide +kernel
theorem getD_key {K : List KH} {i : Nat} (h : i < K.length) : (K.getD i zKH).key = (K.map (·.key)).getD i z33 := by
  simp [List.getD, h]
def kw (t : ByteArray) (n : Int) : KV := ⟨t, [], 0, n, ⟨0, 0, 0, 0, 0, 0, 0⟩⟩
theorem kw_unlike (t : ByteArray) {a b : Int} (h : a ≠ b) : alikeB (kw t a) (kw t b) = false := decide_eq_false (fun z => h z.2.2.1)
def goesL (t : ByteArray) : Nat → LM Int
  | 0 => []
  | i + 1 => (kw t ((i : Int) + 1), (i : Int)) :: goesL t i
theorem goes_mem {t : ByteArray} : ∀ {i : Nat} {p : KV × Int}, p ∈ goesL t i → ∃ j : Nat, j < i ∧ p.1 = kw t ((j : Int) + 1)
  | 0, p, h => by cases h
  | i + 1, p, h => by
    rcases List.mem_cons.1 h with rfl | h
    · exact ⟨i, by omega, rfl⟩
    · obtain ⟨j, h1, h2⟩ := goes_mem h
      exact ⟨j, by omega, h2⟩
theorem goes_len (t : ByteArray) : ∀ i, (goesL t i).length = i
  | 0 => rfl
  | i + 1 => by simp [goesL, goes_len t i]
/-- What is there behind i keys. -/
def goesM (t : ByteArray) (room : Int) (i : Nat) : LM Int := if room = 0 then [] else goesL t i ++ (if (i : Int) < room then [(kw t 0, 1)] else [])
theorem goes_zero (t : ByteArray) {room : Int} (h : 0 ≤ room) : putM room ([] : LM Int) (kw t 0) 1 = goesM t room 0 := by
  unfold goesM
  by_cases c : room = 0
  · rw [if_pos c]; unfold putM; rw [if_pos c]
  · rw [if_neg c, if_pos (by omega), putM_none c (fun p hp => by cases hp), if_neg (by simpa using fun z => c z.symm)]; rfl
theorem goes_succ (t : ByteArray) {room : Int} {i : Nat} (h : (i : Int) < room) : putM room (goesM t room i) (kw t ((i : Int) + 1)) (i : Int) = goesM t room (i + 1) := by
  have c : room ≠ 0 := by omega
  have hu : ∀ p ∈ goesM t room i, alikeB p.1 (kw t ((i : Int) + 1)) = false := fun p hp => by
    unfold goesM at hp
    rw [if_neg c, if_pos h] at hp
    rcases List.mem_append.1 hp with hp | hp
    · obtain ⟨j, h1, h2⟩ := goes_mem hp
      rw [h2]; exact kw_unlike t (by omega)
    · rw [List.mem_singleton.1 hp]; exact kw_unlike t (by omega)
  rw [putM_none c hu]
  unfold goesM
  rw [if_neg c, if_pos h, if_neg c]
  have hl : (goesL t i ++ [(kw t 0, (1 : Int))]).length = i + 1 := by rw [List.length_append, goes_len]; rfl
  rw [hl]
  by_cases c2 : ((i + 1 : Nat) : Int) = room
  · rw [if_pos c2, if_neg (by omega), List.dropLast_concat, List.append_nil]; rfl
  · rw [if_neg c2, if_pos (by omega)]; rfl
theorem goes_end (t : ByteArray) {room : Int} {i : Nat} (h0 : 0 ≤ room) (h : ¬ (i : Int) < room) (h2 : (i : Int) ≤ room) : (getM (goesM t room i) (kw t 0)).2 = none ∧ ((goesM t room i).length : Int) = room ∧ (getM (goesM t room i) (kw t 0)).1.length = (goesM t room i).length := by
  have hu : ∀ p ∈ goesM t room i, alikeB p.1 (kw t 0) = false := fun p hp => by
    unfold goesM at hp
    by_cases c : room = 0
    · rw [if_pos c] at hp; cases hp
    · rw [if_neg c, if_neg h, List.append_nil] at hp
      obtain ⟨j, h1, h3⟩ := goes_mem hp
      rw [h3]; exact kw_unlike t (by omega)
  refine ⟨by rw [getM_none hu], ?_, getM_len _ _⟩
  unfold goesM
  by_cases c : room = 0
  · rw [if_pos c, c]; rfl
  · rw [if_neg c, if_neg h, List.append_nil, goes_len]; omega
end Go.Proofs.Ytmlkajmlhmfdgaa.Ca
