/- A row that is told shorter: out[:n], and appended to. -/
import Derived.Test.YtbakllppgekmoaaSxJoin
namespace Go.Proofs.Ytbakllppgekmoaa.Sx
open Go Go.RowKit Go.Proofs.YtbakllppgekmoaaW.PrintWords
set_option linter.unusedVariables false
theorem R_take {α : Type} {d : Kd α} {e : Nat} {w : World} {base : Nat} {ok : Nat → Prop} {A : Option Addr} {c : Nat} {L : List α} {n : Nat} (hn : n ≤ L.length) (h : d.R e w base ok (.slice A L.length c) L) : d.R e w base ok (.slice A (L.take n).length c) (L.take n) := by
  have hl : (L.take n).length = n := by rw [List.length_take]; omega
  obtain ⟨hok, inner, ⟨ho1, ho2⟩, hr1, hr2⟩ := h
  have hle : n * d.sz ≤ L.length * d.sz := Nat.mul_le_mul_right _ hn
  refine ⟨fun k hk => hok k (by cases A <;> exact hk), inner.take (n * d.sz), ⟨by rw [List.length_take, hl, ho1]; omega, ?_⟩, by rw [List.length_take, hl, ho1]; omega, fun j p hj => ?_⟩
  · rcases ho2 with ⟨h1, h2⟩ | ⟨g, cap, cur, h1, h2, h3, h4, h5, h6, h7⟩
    · left
      injection h1 with ha hb hc
      exact ⟨by rw [ha, hc, hl, show n = 0 by omega], by rw [hl]; omega⟩
    · right
      injection h1 with ha hb hc
      refine ⟨g, cap, cur, by rw [ha, hc], h2, h3, by omega, h5, h6, ?_⟩
      rw [hl, ← h7, List.take_take, Nat.min_eq_left hle]
  · rw [List.getElem?_take] at hj
    split at hj
    · rename_i hjn
      have := hr2 j p hj
      have e1 : ((inner.take (n * d.sz)).drop (j * d.sz)).take d.sz = (inner.drop (j * d.sz)).take d.sz := by
        rw [List.drop_take, List.take_take, Nat.min_eq_left]
        have : (j + 1) * d.sz ≤ n * d.sz := Nat.mul_le_mul_right _ hjn
        rw [Nat.succ_mul] at this
        omega
      rw [e1]
      cases A <;> exact this
    · cases hj
theorem st_shrink {α : Type} {d : Kd α} {e : Nat} {A : Option Addr} {c : Nat} {L : List α} {w0 w : World} {F0 : Nat → Prop} {cs : List HP} (n : Nat) (hn : n ≤ L.length) (h : St w0 F0 (row d e A c L :: cs) w) : St w0 F0 (row d e A c (L.take n) :: cs) w :=
  st_imp h fun G hG => R_take hn hG
theorem cut_addr {A A2 : Option Addr} {c sz : Nat} (h : (if c = 0 then A else Option.map (·.add (0 * sz)) A) = A2) : A2 = A := by
  rw [← h]
  split
  · rfl
  · cases A with
    | none => rfl
    | some a => simp [Addr.add]
end Go.Proofs.Ytbakllppgekmoaa.Sx
