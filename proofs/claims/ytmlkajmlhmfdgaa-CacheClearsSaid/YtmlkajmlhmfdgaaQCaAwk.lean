/- Pruned by wip/prune.py. -/
import Derived.Test.YtmlkajmlhmfdgaaQCaRef
namespace Go.Proofs.Ytmlkajmlhmfdgaa.Ca
open Go Go.RowKit Go.Proofs.YtmlkajmlhmfdgaaW.PrintWords Go.Proofs.Ytmlkajmlhmfdgaa.Kinds Go.Proofs.Ytmlkajmlhmfdgaa.Runs Go.Proofs.Ytmlkajmlhmfdgaa.Sx
set_option linter.unusedVariables false
set_option linter.unusedSimpArgs false
structure OH where
  op : OPS
  A : Option Addr
  c : Nat
def kOH : Kd OH := Kd.iso (Kd.pair (Kd.int .i64) (Kd.pair kKH (Kd.int .i64))) (fun x : OH => (x.op.f0, (⟨x.op.f1, x.A, x.c⟩ : KH), x.op.f2))
def cellsOH (x : OH) : List Value := [.int .i64 x.op.f0, .string x.op.f1.f0, .slice x.A x.op.f1.f1.length x.c, .int .i64 x.op.f1.f2, .int .i64 x.op.f1.f3, .int .i64 x.op.f1.f4.f0, .int .i64 x.op.f1.f4.f1, .int .i64 x.op.f1.f4.f2, .int .i64 x.op.f1.f4.f3, .int .i64 x.op.f1.f4.f4, .int .i64 x.op.f1.f4.f5, .int .i64 x.op.f1.f4.f6, .int .i64 x.op.f2]
theorem kOH_open {w : World} {x : OH} {cs : List Value} (h : kOH.K w x cs) : cs = cellsOH x := by
  obtain ⟨_, _, rfl, rfl, ⟨_, _, rfl, h1, rfl⟩⟩ := h
  rw [kKH_open h1]; rfl
theorem kOH_mkM (w : World) (base : Nat) (ok : Nat → Prop) (x : OH) : kOH.M w base ok x (cellsOH x) := ⟨[.int .i64 x.op.f0], _, rfl, rfl, ⟨_, [.int .i64 x.op.f2], rfl, kKH_mkM w base ok ⟨x.op.f1, x.A, x.c⟩, rfl⟩⟩
theorem k_nil_key {w : World} {x : OPS} (h : x.f1.f1 = []) : k69.K w x (cellsOH ⟨x, none, 0⟩) := by
  refine ⟨[.int .i64 x.f0], _, rfl, rfl, ⟨cellsKH ⟨x.f1, none, 0⟩, [.int .i64 x.f2], rfl, ?_, rfl⟩⟩
  refine ⟨[.string x.f1.f0], _, rfl, rfl, ⟨[.slice none x.f1.f1.length 0], _, rfl, ⟨none, 0, rfl, by show x.f1.f1.length ≤ 0; rw [h]; exact Nat.le_refl _, by show k50.C w none x.f1.f1.length x.f1.f1; rw [h]; exact Kd.C_nil _ _⟩, ⟨[.int .i64 x.f1.f2], _, rfl, rfl, ⟨[.int .i64 x.f1.f3], _, rfl, rfl, ?_⟩⟩⟩⟩
  exact k31.K_of_M (k31_mkM w 0 (fun _ => True) x.f1.f4)
theorem oh_C {w : World} {A : Option Addr} {n : Nat} {L : List OH} (h : kOH.C w A n L) (hL : ∀ x ∈ L, x.A = none ∧ x.c = 0 ∧ x.op.f1.f1 = []) : k69.C w A n (L.map (·.op)) := by
  obtain ⟨h1, h2, h3⟩ := h
  refine ⟨by rw [List.length_map]; exact h1, by simpa using h2, fun h0 => ?_⟩
  obtain ⟨ad, e, hc⟩ := h3 h0
  refine ⟨ad, e, fun k x hx => ?_⟩
  rw [List.getElem?_map] at hx
  cases e2 : L[k]? with
  | none => rw [e2] at hx; cases hx
  | some y =>
    rw [e2] at hx
    injection hx with hx
    subst hx
    obtain ⟨cl, c1, c2, c3⟩ := hc k y e2
    obtain ⟨b1, b2, b3⟩ := hL y (List.mem_of_getElem? e2)
    refine ⟨cl, c1, ?_, c3⟩
    rw [kOH_open c2]
    have := k_nil_key (w := w) b3
    obtain ⟨op, A', c'⟩ := y
    obtain rfl : A' = none := b1
    obtain rfl : c' = 0 := b2
    exact this
def kt (b : UInt8) : KV := ⟨ByteArray.mk #[b], [], 0, 0, ⟨0, 0, 0, 0, 0, 0, 0⟩⟩
def exOps : List OPS := [⟨0, kt 97, 1⟩, ⟨0, kt 98, 2⟩, ⟨1, kt 97, 0⟩, ⟨0, kt 99, 3⟩]
theorem ex_play : playV 2 exOps 4 = ([(kt 99, 3), (kt 97, 1)], 1, 0) := by decide +kernel
theorem getD_key {K : List KH} {i : Nat} (h : i < K.length) : (K.getD i zKH).key = (K.map (·.key)).getD i z33 := by
  simp [List.getD, h]
theorem put_one {V : Type} {room : Int} (k : KV) (v : V) (h0 : 0 ≤ room) : (room = 0 ∧ putM room ([] : LM V) k v = [] ∧ getM (putM room ([] : LM V) k v) k = ([], none)) ∨ (room ≠ 0 ∧ putM room ([] : LM V) k v = [(k, v)] ∧ getM (putM room ([] : LM V) k v) k = ([(k, v)], some v)) := by
  by_cases h : room = 0
  · have e : putM room ([] : LM V) k v = [] := by unfold putM; rw [if_pos h]
    refine .inl ⟨h, e, ?_⟩
    rw [e]
    exact getM_none (fun p hp => by cases hp)
  · have e : putM room ([] : LM V) k v = [(k, v)] := by
      rw [putM_none h (fun p hp => by cases hp), if_neg (by simpa using fun z => h z.symm)]
    refine .inr ⟨h, e, ?_⟩
    rw [e]
    exact getM_at (M1 := []) (M2 := []) (List.pairwise_singleton _ _) (alike_refl k)
theorem get_nil {V : Type} (k : KV) : getM ([] : LM V) k = ([], none) := getM_none (fun p hp => by cases hp)
end Go.Proofs.Ytmlkajmlhmfdgaa.Ca
