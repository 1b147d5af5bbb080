/- Pruned by wip/prune.py. -/
import Derived.Test.YtieieindakbpoaaQPcTree
namespace Go.Proofs.Ytieieindakbpoaa.Pc
open Go AT
set_option linter.unusedVariables false
set_option linter.unusedSimpArgs false
def JR (h : Int) (T : AT) : Prop := ht T = h ∨ (ht T = h + 1 ∧ ht (lf T) = h - 1 ∧ ht (rt T) = h)
def JL (h : Int) (T : AT) : Prop := ht T = h ∨ (ht T = h + 1 ∧ ht (rt T) = h - 1 ∧ ht (lf T) = h)
section
variable {g gl gr g2 g3 g4 g5 gc gt : Nat} {ll c cl cr r rr l t tl tr : AT} {lp p cp rp tp : P1}
theorem jr_a (hl : bal (nd gl ll lp c)) (hr : bal r) (hh : ht r + 1 < ht (nd gl ll lp c)) (h1 : ht c ≤ ht r + 1) (h2 : ht (nd g c p r) ≤ ht ll + 1) : fl (nd g2 ll lp (nd g c p r)) = fl (nd gl ll lp c) ++ p :: fl r ∧ bal (nd g2 ll lp (nd g c p r)) ∧ JR (ht (nd gl ll lp c)) (nd g2 ll lp (nd g c p r)) := by
  obtain ⟨a, b, d, e⟩ := hl
  unfold JR
  simp only [ht, lf, rt] at *
  exact ⟨by simp [fl], ⟨a, ⟨b, hr, by omega, by omega⟩, by simp only [ht]; omega, by simp only [ht]; omega⟩, by omega⟩
theorem jr_b (hl : bal (nd gl ll lp (nd gc cl cp cr))) (hr : bal r) (hh : ht r + 1 < ht (nd gl ll lp (nd gc cl cp cr))) (h1 : ht (nd gc cl cp cr) ≤ ht r + 1) (h2 : ¬ ht (nd g (nd gc cl cp cr) p r) ≤ ht ll + 1) :
    fl (nd g4 (nd g3 ll lp cl) cp (nd g5 cr p r)) = fl (nd gl ll lp (nd gc cl cp cr)) ++ p :: fl r ∧ bal (nd g4 (nd g3 ll lp cl) cp (nd g5 cr p r)) ∧ JR (ht (nd gl ll lp (nd gc cl cp cr))) (nd g4 (nd g3 ll lp cl) cp (nd g5 cr p r)) := by
  obtain ⟨a, ⟨b1, b2, b3, b4⟩, d, e⟩ := hl
  unfold JR
  simp only [ht, lf, rt] at *
  exact ⟨by simp [fl], ⟨⟨a, b1, by omega, by omega⟩, ⟨b2, hr, by omega, by omega⟩, by simp only [ht]; omega, by simp only [ht]; omega⟩, by omega⟩
theorem jr_c (hl : bal (nd gl ll lp c)) (hf : fl t = fl c ++ p :: fl r) (ht1 : bal t) (hj : JR (ht c) t) (h2 : ht t ≤ ht ll + 1) : fl (nd g ll lp t) = fl (nd gl ll lp c) ++ p :: fl r ∧ bal (nd g ll lp t) ∧ JR (ht (nd gl ll lp c)) (nd g ll lp t) := by
  obtain ⟨a, b, d, e⟩ := hl
  unfold JR at *
  simp only [ht, lf, rt] at *
  exact ⟨by simp [fl, hf], ⟨a, ht1, by omega, by omega⟩, by omega⟩
theorem jr_d (hl : bal (nd gl ll lp c)) (hf : fl (nd gt tl tp tr) = fl c ++ p :: fl r) (ht1 : bal (nd gt tl tp tr)) (hj : JR (ht c) (nd gt tl tp tr)) (h2 : ¬ ht (nd gt tl tp tr) ≤ ht ll + 1) : fl (nd g4 (nd g3 ll lp tl) tp tr) = fl (nd gl ll lp c) ++ p :: fl r ∧ bal (nd g4 (nd g3 ll lp tl) tp tr) ∧ JR (ht (nd gl ll lp c)) (nd g4 (nd g3 ll lp tl) tp tr) := by
  obtain ⟨a, b, d, e⟩ := hl
  obtain ⟨t1, t2, t3, t4⟩ := ht1
  unfold JR at *
  simp only [ht, lf, rt, fl] at *
  refine ⟨?_, ⟨⟨a, t1, by omega, by omega⟩, t2, by simp only [ht]; omega, by simp only [ht]; omega⟩, by omega⟩
  rw [List.append_assoc, List.append_assoc]
  rw [show lp :: fl tl ++ tp :: fl tr = lp :: (fl tl ++ tp :: fl tr) from rfl, hf]
  rfl
theorem jl_a (hl : bal l) (hr : bal (nd gr c rp rr)) (hh : ht l + 1 < ht (nd gr c rp rr)) (h1 : ht c ≤ ht l + 1) (h2 : ht (nd g l p c) ≤ ht rr + 1) : fl (nd g2 (nd g l p c) rp rr) = fl l ++ p :: fl (nd gr c rp rr) ∧ bal (nd g2 (nd g l p c) rp rr) ∧ JL (ht (nd gr c rp rr)) (nd g2 (nd g l p c) rp rr) := by
  obtain ⟨a, b, d, e⟩ := hr
  unfold JL
  simp only [ht, lf, rt] at *
  exact ⟨by simp [fl], ⟨⟨hl, a, by omega, by omega⟩, b, by simp only [ht]; omega, by simp only [ht]; omega⟩, by omega⟩
theorem jl_b (hl : bal l) (hr : bal (nd gr (nd gc cl cp cr) rp rr)) (hh : ht l + 1 < ht (nd gr (nd gc cl cp cr) rp rr)) (h1 : ht (nd gc cl cp cr) ≤ ht l + 1) (h2 : ¬ ht (nd g l p (nd gc cl cp cr)) ≤ ht rr + 1) :
    fl (nd g4 (nd g5 l p cl) cp (nd g3 cr rp rr)) = fl l ++ p :: fl (nd gr (nd gc cl cp cr) rp rr) ∧ bal (nd g4 (nd g5 l p cl) cp (nd g3 cr rp rr)) ∧ JL (ht (nd gr (nd gc cl cp cr) rp rr)) (nd g4 (nd g5 l p cl) cp (nd g3 cr rp rr)) := by
  obtain ⟨⟨b1, b2, b3, b4⟩, a, d, e⟩ := hr
  unfold JL
  simp only [ht, lf, rt] at *
  exact ⟨by simp [fl], ⟨⟨hl, b1, by omega, by omega⟩, ⟨b2, a, by omega, by omega⟩, by simp only [ht]; omega, by simp only [ht]; omega⟩, by omega⟩
theorem jl_c (hr : bal (nd gr c rp rr)) (hf : fl t = fl l ++ p :: fl c) (ht1 : bal t) (hj : JL (ht c) t) (h2 : ht t ≤ ht rr + 1) : fl (nd g t rp rr) = fl l ++ p :: fl (nd gr c rp rr) ∧ bal (nd g t rp rr) ∧ JL (ht (nd gr c rp rr)) (nd g t rp rr) := by
  obtain ⟨a, b, d, e⟩ := hr
  unfold JL at *
  simp only [ht, lf, rt] at *
  exact ⟨by simp [fl, hf], ⟨ht1, b, by omega, by omega⟩, by omega⟩
theorem jl_d (hr : bal (nd gr c rp rr)) (hf : fl (nd gt tl tp tr) = fl l ++ p :: fl c) (ht1 : bal (nd gt tl tp tr)) (hj : JL (ht c) (nd gt tl tp tr)) (h2 : ¬ ht (nd gt tl tp tr) ≤ ht rr + 1) : fl (nd g4 tl tp (nd g3 tr rp rr)) = fl l ++ p :: fl (nd gr c rp rr) ∧ bal (nd g4 tl tp (nd g3 tr rp rr)) ∧ JL (ht (nd gr c rp rr)) (nd g4 tl tp (nd g3 tr rp rr)) := by
  obtain ⟨a, b, d, e⟩ := hr
  obtain ⟨t1, t2, t3, t4⟩ := ht1
  unfold JL at *
  simp only [ht, lf, rt, fl] at *
  refine ⟨?_, ⟨t1, ⟨t2, b, by omega, by omega⟩, by simp only [ht]; omega, by simp only [ht]; omega⟩, by omega⟩
  have : fl tl ++ tp :: (fl tr ++ rp :: fl rr) = (fl tl ++ tp :: fl tr) ++ rp :: fl rr := by simp
  rw [this, hf]
  simp
end
end Go.Proofs.Ytieieindakbpoaa.Pc
