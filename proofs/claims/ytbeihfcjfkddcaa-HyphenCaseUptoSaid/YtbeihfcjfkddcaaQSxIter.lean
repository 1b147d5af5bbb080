/- Pruned by wip/prune.py. -/
import Derived.Test.YtbeihfcjfkddcaaQSxGlue
import Derived.Laws.RangeAny
import Derived.Lib.OthersKept
namespace Go.Proofs.Ytbeihfcjfkddcaa.Sx
open Go Go.Lib Go.RowKit Go.Proofs.YtbeihfcjfkddcaaW.PrintWords
set_option linter.unusedVariables false
set_option linter.unusedSimpArgs false
def siter (g : Nat) (s : ByteArray) (p : Nat) : HP where
  p := fun w F => F g ∧ w.heap[g]? = some (.stringIter s p)
  mono := fun hF h => ⟨hF _ h.1, h.2⟩
  bound := fun h => ⟨⟨h.1, (Array.getElem?_eq_some_iff.1 h.2).1⟩, h.2⟩
  move := fun hm h => ⟨h.1, (hm _ h.1).trans h.2⟩
section
variable {P : Program} {ops : Array Oper} {Q : Exit → Act → World → Prop} {n d : Nat} {rest : List Oper} {f : List (Nat × Value)} {w w0 : World} {F0 : Nat → Prop} {cs : List HP} {ty : TypeId} {ps : String} {af : Array Edge} {g : Option (Nat × Bool)}
theorem wl_range {t : Nat} {x : Operand} (s : ByteArray) (h : St w0 F0 cs w) (hw : gw ops f g = some true) (hn : Nat.blt d n = true) (hx : ev f x = some (.string s)) (hu : P.underlying t = some .string)
    (k : ∀ b w', St w0 F0 (siter b s 0 :: cs) w' → WL P ops Q n rest ((d, .pointer (some ⟨b, 0, none⟩)) :: f) w') : WL P ops Q n (⟨some d, .range t x, ty, ps, af, g⟩ :: rest) f w :=
  wl_step (.pointer (some ⟨w.heap.size, 0, none⟩)) (w.iter s 0) hw hn (fun a fa => by
    simp only [execOp, ev_eval fa hx, Sem.run_bind, run_range_string w t s hu, Result.andThen]
    rfl) (k _ _ (st_add h ((Below.refl _ _).alloc (Nat.le_refl _) _) ⟨Nat.le_refl _, World.iter_heap w s 0⟩))
theorem wl_next {b p i : Nat} {s : ByteArray} {x : Operand} (h : St w0 F0 cs w) (hi : cs[i]? = some (siter b s p)) (hw : gw ops f g = some true) (hn : Nat.blt d n = true) (hx : ev f x = some (.pointer (some ⟨b, 0, none⟩)))
    (k1 : p < s.size → ∀ w', St w0 F0 (cs.set i (siter b s (p + (Utf8.decode s p).2))) w' → WL P ops Q n rest ((d, .tuple #[.bool true, .int .i64 (p : Int), .int .i32 ((Utf8.decode s p).1 : Nat)]) :: f) w')
    (k2 : ¬ p < s.size → ∀ w', St w0 F0 cs w' → WL P ops Q n rest ((d, .tuple #[.bool false]) :: f) w') : WL P ops Q n (⟨some d, .next x true, ty, ps, af, g⟩ :: rest) f w := by
  obtain ⟨G, g1, ⟨g2, g2'⟩, g3⟩ := st_upd h hi
  by_cases hp : p < s.size
  · have hst := g3 (siter b s (p + (Utf8.decode s p).2)) (w.iterAt b s (p + (Utf8.decode s p).2)) ⟨rfl, rfl, rfl, by rw [iterAt_size]; exact Nat.le_refl _, fun q hq hn => iterAt_other w b q s _ (fun e => hn (by rw [e]; exact g2))⟩ ⟨.inl g2, iterAt_heap _ _ _ _ _ g2'⟩
    exact wl_step _ _ hw hn (fun a fa => by
      simp only [execOp, ev_eval fa hx, Sem.run_bind, run_next_any_at w b s p _ g2' hp, Result.andThen]
      rfl) (k1 hp _ hst)
  · exact wl_step _ _ hw hn (fun a fa => by
      simp only [execOp, ev_eval fa hx, Sem.run_bind, run_next_end_at w b s p _ g2' hp, Result.andThen]
      rfl) (k2 hp _ h)
end
end Go.Proofs.Ytbeihfcjfkddcaa.Sx
