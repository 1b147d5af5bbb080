/- A right text as a list of runes with their places; the laws of that. -/
import Derived.Test.YtbbnhameafolgaaRunesTh
import Derived.Test.YtbbnhameafolgaaPureRunesKinds
import Derived.Test.YtbbnhameafolgaaGivenRange
namespace Go.Proofs.Ytbbnhameafolgaa.Pure
open Go.RowKit Go.Proofs.Ytbbnhameafolgaa.PAll Go.Proofs.YtbbnhameafolgaaW.PrintWords Go.Proofs.YtbbnhameafolgaaW.PrintLast Go.Proofs.YtbbnhameafolgaaW.PrintMore Go.Proofs.Ytbbnhameafolgaa.Given

set_option linter.unusedVariables false
/-- As Option.bind_some, but no law by sight: simp's proof is then no comparison of whole goals by the kernel. -/
theorem bind_s {α β : Type} (a : α) (f : α → Option β) : (some a).bind f = f a := congrArg (fun x => x) rfl
/-- The places and runes from a place on; the first wrong byte, or -1. -/
def refGo (s : ByteArray) : Nat → Int → List (Int × Int) × Int
  | 0, _ => ([], -1)
  | k + 1, p => if p < (s.size : Int) then (if (readV s p).2 = 0 then ([], p) else ((p, (readV s p).1) :: (refGo s k (p + (readV s p).2)).1, (refGo s k (p + (readV s p).2)).2)) else ([], -1)
/-- A parse from a place to another one. -/
inductive Par (s : ByteArray) : Int → List (Int × Int) → Int → Prop where
  | nil (p : Int) : Par s p [] p
  | cons {p e : Int} {l : List (Int × Int)} (h0 : 0 ≤ p) (h1 : p < s.size) (hk : 0 < (readV s p).2) (h : Par s (p + (readV s p).2) l e) : Par s p ((p, (readV s p).1) :: l) e

theorem read_bounds (s : ByteArray) (p : Int) (h0 : 0 ≤ p) (h1 : p < s.size) : 0 ≤ (readV s p).2 ∧ (readV s p).2 ≤ 4 ∧ p + (readV s p).2 ≤ s.size := by
  have h := sizeV_bounds s p h0 (by omega)
  rw [size_read s p h0 h1] at h
  exact h
theorem refGo_bad (s : ByteArray) : ∀ (k : Nat) (p : Int), 0 ≤ p → p ≤ s.size → badGo s k p = (refGo s k p).2
  | 0, _, _, _ => rfl
  | k + 1, p, h0, h1 => by
    simp only [badGo, refGo]
    by_cases e : p = (s.size : Int)
    · rw [if_pos e, if_neg (by omega)]
    rw [if_neg e, size_read s p h0 (by omega), if_pos (show p < (s.size : Int) by omega)]
    by_cases z : (readV s p).2 = 0
    · rw [if_pos z, if_pos z]
    rw [if_neg z, if_neg z]
    have := read_bounds s p h0 (by omega)
    exact refGo_bad s k _ (by omega) (by omega)
theorem refGo_two (s : ByteArray) : ∀ (k : Nat) (p : Int), 0 ≤ p → p ≤ s.size → (refGo s k p).2 = -1 ∨ (p ≤ (refGo s k p).2 ∧ (refGo s k p).2 < s.size)
  | 0, _, _, _ => .inl rfl
  | k + 1, p, h0, h1 => by
    simp only [refGo]
    by_cases e : p < (s.size : Int)
    · rw [if_pos e]
      by_cases z : (readV s p).2 = 0
      · rw [if_pos z]; exact .inr ⟨Int.le_refl _, e⟩
      rw [if_neg z]
      have hb := read_bounds s p h0 e
      rcases refGo_two s k (p + (readV s p).2) (by omega) (by omega) with h | ⟨h, h'⟩
      · exact .inl h
      · exact .inr ⟨by omega, h'⟩
    · rw [if_neg e]; exact .inl rfl
theorem ref_par (s : ByteArray) : ∀ (k : Nat) (p : Int), 0 ≤ p → p ≤ s.size → (s.size : Int) < p + k → (refGo s k p).2 = -1 → Par s p (refGo s k p).1 s.size
  | 0, p, _, _, h, _ => by omega
  | k + 1, p, h0, h1, h, hb => by
    simp only [refGo] at hb ⊢
    by_cases e : p < (s.size : Int)
    · rw [if_pos e] at hb ⊢
      by_cases z : (readV s p).2 = 0
      · rw [if_pos z] at hb; simp only at hb; omega
      rw [if_neg z] at hb ⊢
      have hr := read_bounds s p h0 e
      exact .cons h0 e (by omega) (ref_par s k _ (by omega) (by omega) (by omega) hb)
    · rw [if_neg e]
      have : p = s.size := by omega
      rw [this]
      exact .nil _
theorem par_le {s : ByteArray} {p e : Int} {l : List (Int × Int)} (h : Par s p l e) : p ≤ e ∧ p + l.length ≤ e := by
  induction h with
  | nil => simp
  | cons h0 h1 hk _ ih => simp only [List.length_cons]; omega
theorem par_ref {s : ByteArray} {p e : Int} {l : List (Int × Int)} (h : Par s p l e) : e = s.size → ∀ k : Nat, (s.size : Int) < p + k → refGo s k p = (l, -1) := by
  induction h with
  | nil p =>
    intro e k hk
    cases k with
    | zero => rfl
    | succ k => simp only [refGo]; rw [if_neg (by omega)]
  | @cons p e l h0 h1 hp h ih =>
    intro he k hk
    cases k with
    | zero => omega
    | succ k =>
      simp only [refGo]
      rw [if_pos h1, if_neg (by omega), ih he k (by omega)]
theorem par_append {s : ByteArray} {p q e : Int} {l m : List (Int × Int)} (h : Par s p l q) (g : Par s q m e) : Par s p (l ++ m) e := by
  induction h with
  | nil => exact g
  | cons h0 h1 hk _ ih => exact .cons h0 h1 hk (ih g)
theorem par_split {s : ByteArray} {p e : Int} {l : List (Int × Int)} (h : Par s p l e) (q : Int) (hq : q = e ∨ ∃ x ∈ l, x.1 = q) : ∃ l1 l2, l = l1 ++ l2 ∧ Par s p l1 q ∧ Par s q l2 e := by
  induction h with
  | nil p =>
    rcases hq with rfl | ⟨x, hx, _⟩
    · exact ⟨[], [], rfl, .nil _, .nil _⟩
    · cases hx
  | @cons p e l h0 h1 hk h ih =>
    by_cases e1 : p = q
    · subst e1
      exact ⟨[], _, rfl, .nil _, .cons h0 h1 hk h⟩
    · obtain ⟨l1, l2, rfl, g1, g2⟩ := ih (by
        rcases hq with hq | ⟨x, hx, hx'⟩
        · exact .inl hq
        · rcases List.mem_cons.1 hx with rfl | hx
          · exact absurd hx' e1
          · exact .inr ⟨x, hx, hx'⟩)
      exact ⟨_ :: l1, l2, rfl, .cons h0 h1 hk g1, g2⟩
/-- What a rune is hangs on its own bytes alone. -/
theorem read_transfer (s t : ByteArray) (p q : Int) (h0 : 0 ≤ p) (hk : 0 < (readV s p).2) (hq : q + (readV s p).2 ≤ t.size) (he : ∀ i : Int, 0 ≤ i → i < (readV s p).2 → bt t (q + i) = bt s (p + i)) : readV t q = readV s p := by
  have b0 := he 0 (by omega) hk
  rw [Int.add_zero, Int.add_zero] at b0
  unfold readV at hk hq he ⊢
  rw [b0]
  by_cases c1 : bt s p < 128
  · rw [if_pos c1, if_pos c1]
  rw [if_neg c1] at hk hq he ⊢
  rw [if_neg c1]
  by_cases c2 : p + 2 ≤ s.size ∧ m2 (bt s p) (bt s (p + 1))
  · rw [if_pos c2] at hk hq he
    rw [if_pos c2, he 1 (by omega) (by simp), if_pos ⟨by simpa using hq, c2.2⟩]
  rw [if_neg c2] at hk hq he
  by_cases c3 : p + 3 ≤ s.size ∧ m3 (bt s p) (bt s (p + 1)) (bt s (p + 2))
  · rw [if_pos c3] at hk hq he
    have c3' := c3.2
    unfold m3 at c3'
    rw [if_neg c2, if_pos c3, he 1 (by omega) (by simp), he 2 (by omega) (by simp), if_neg (by unfold m2; omega), if_pos ⟨by simpa using hq, c3.2⟩]
  rw [if_neg c3] at hk hq he
  by_cases c4 : p + 4 ≤ s.size ∧ m4 (bt s p) (bt s (p + 1)) (bt s (p + 2)) (bt s (p + 3))
  · rw [if_pos c4] at hk hq he
    have c4' := c4.2
    unfold m4 at c4'
    rw [if_neg c2, if_neg c3, if_pos c4, he 1 (by omega) (by simp), he 2 (by omega) (by simp), he 3 (by omega) (by simp), if_neg (by unfold m2; omega), if_neg (by unfold m3; omega), if_pos ⟨by simpa using hq, c4.2⟩]
  rw [if_neg c4] at hk
  simp at hk
theorem par_shift {s t : ByteArray} {p e : Int} {l : List (Int × Int)} (h : Par s p l e) (d : Int) (hd : 0 ≤ p + d) (ht : e + d ≤ t.size) (he : ∀ i, p ≤ i → i < e → bt t (i + d) = bt s i) :
    Par t (p + d) (l.map fun x => (x.1 + d, x.2)) (e + d) := by
  induction h with
  | nil => exact .nil _
  | @cons p e l h0 h1 hk h ih =>
    have hl := par_le h
    have e1 : readV t (p + d) = readV s p := read_transfer s t p (p + d) h0 hk (by omega) fun i hi hi' => by
      rw [show p + d + i = (p + i) + d by omega]; exact he _ (by omega) (by omega)
    have g := ih (by omega) ht fun i hi hi' => he i (by omega) hi'
    have g' : Par t (p + d + (readV t (p + d)).2) (l.map fun x => (x.1 + d, x.2)) (e + d) := by rw [e1]; rw [show p + d + (readV s p).2 = p + (readV s p).2 + d by omega]; exact g
    have g2 := Par.cons (s := t) (p := p + d) hd (by omega) (by rw [e1]; exact hk) g'
    rw [e1] at g2
    exact g2
/-- 'range' over a right text tells its runes. -/
theorem par_decs {s : ByteArray} {p e : Int} {l : List (Int × Int)} (h : Par s p l e) : e = s.size → ∀ k : Nat, (s.size : Int) ≤ p + k → decs s k p.toNat = l.map fun x => (x.1.toNat, x.2.toNat) := by
  induction h with
  | nil p =>
    intro he k hk
    cases k with
    | zero => rfl
    | succ k => simp only [decs]; rw [if_neg (by omega)]; rfl
  | @cons p e l h0 h1 hk h ih =>
    intro he k hk'
    cases k with
    | zero => omega
    | succ k =>
      simp only [decs]
      rw [if_pos (by omega), decode_read, Int.toNat_of_nonneg h0, if_neg (by omega)]
      simp only [List.map_cons]
      rw [← ih he k (by omega), show p.toNat + (readV s p).2.toNat = (p + (readV s p).2).toNat by omega]
theorem par_runesV {s : ByteArray} {l : List (Int × Int)} (h : Par s 0 l s.size) : runesV s = l.map fun x => (x.1.toNat, x.2.toNat) := by
  unfold runesV
  exact par_decs h rfl s.size (by omega)
/-- A rune's first byte is none within a rune; its others are. -/
def inside (c : Int) : Bool := decide (128 ≤ c) && decide (c ≤ 191)
theorem first_not (s : ByteArray) (p : Int) (hk : 0 < (readV s p).2) : inside (bt s p) = false ∧ ∀ i, 0 < i → i < (readV s p).2 → inside (bt s (p + i)) = true := by
  rw [readV_snd] at hk ⊢
  have hb := bt_nonneg s p
  unfold inside
  by_cases c1 : bt s p < 128
  · rw [if_pos c1] at hk ⊢
    exact ⟨by simp; omega, fun i h h' => by omega⟩
  rw [if_neg c1] at hk ⊢
  by_cases c2 : p + 2 ≤ s.size ∧ m2 (bt s p) (bt s (p + 1))
  · rw [if_pos c2] at hk ⊢
    obtain ⟨_, c2⟩ := c2
    unfold m2 at c2
    refine ⟨by simp; omega, fun i h h' => ?_⟩
    obtain rfl : i = 1 := by omega
    simp; omega
  rw [if_neg c2] at hk ⊢
  by_cases c3 : p + 3 ≤ s.size ∧ m3 (bt s p) (bt s (p + 1)) (bt s (p + 2))
  · rw [if_pos c3] at hk ⊢
    obtain ⟨_, c3⟩ := c3
    unfold m3 at c3
    refine ⟨by simp; omega, fun i h h' => ?_⟩
    rcases (show i = 1 ∨ i = 2 by omega) with rfl | rfl <;> (simp; omega)
  rw [if_neg c3] at hk ⊢
  by_cases c4 : p + 4 ≤ s.size ∧ m4 (bt s p) (bt s (p + 1)) (bt s (p + 2)) (bt s (p + 3))
  · rw [if_pos c4] at hk ⊢
    obtain ⟨_, c4⟩ := c4
    unfold m4 at c4
    refine ⟨by simp; omega, fun i h h' => ?_⟩
    rcases (show i = 1 ∨ i = 2 ∨ i = 3 by omega) with rfl | rfl | rfl <;> (simp; omega)
  rw [if_neg c4] at hk
  omega
theorem par_place {s : ByteArray} {p e : Int} {l : List (Int × Int)} (h : Par s p l e) : ∀ q, p ≤ q → q < e → ((∃ x ∈ l, x.1 = q) ↔ inside (bt s q) = false) := by
  induction h with
  | nil p => intro q h1 h2; omega
  | @cons p e l h0 h1 hk h ih =>
    intro q hq hq'
    have hf := first_not s p hk
    have hl := par_le h
    by_cases e1 : q = p
    · subst e1
      exact ⟨fun _ => hf.1, fun _ => ⟨_, List.mem_cons_self, rfl⟩⟩
    by_cases e2 : q < p + (readV s p).2
    · have hi := hf.2 (q - p) (by omega) (by omega)
      rw [show p + (q - p) = q by omega] at hi
      constructor
      · rintro ⟨x, hx, rfl⟩
        rcases List.mem_cons.1 hx with rfl | hx
        · exact absurd rfl e1
        · exfalso
          have : ∀ {a b : Int} {m : List (Int × Int)}, Par s a m b → ∀ y ∈ m, a ≤ y.1 := by
            intro a b m g
            induction g with
            | nil => intro y hy; cases hy
            | cons h0 h1 hk _ ih => intro y hy; rcases List.mem_cons.1 hy with rfl | hy; exact Int.le_refl _; have := ih y hy; omega
          have := this h x hx
          omega
      · intro h'; rw [hi] at h'; cases h'
    · rw [← ih q (by omega) hq']
      constructor
      · rintro ⟨x, hx, rfl⟩
        rcases List.mem_cons.1 hx with rfl | hx
        · exact absurd rfl e1
        · exact ⟨x, hx, rfl⟩
      · rintro ⟨x, hx, rfl⟩; exact ⟨x, List.mem_cons_of_mem _ hx, rfl⟩
theorem par_mem {s : ByteArray} {p e : Int} {l : List (Int × Int)} (h : Par s p l e) : ∀ x ∈ l, p ≤ x.1 ∧ x.1 < e ∧ 0 ≤ x.1 ∧ x.1 < s.size := by
  induction h with
  | nil => intro x hx; cases hx
  | cons h0 h1 hk h ih =>
    have hl := par_le h
    intro x hx
    rcases List.mem_cons.1 hx with rfl | hx
    · exact ⟨Int.le_refl _, by simp only; omega, h0, h1⟩
    · have := ih x hx; omega
/-- The document's list of runes. -/
theorem runes_go (s : ByteArray) (hs : s.size ≤ 17592186044416) : ∀ (m : Nat) (k : Nat) (p : Int) (xs ys : List Int), 0 ≤ p → p ≤ s.size → (s.size : Int) < p + m → m + 21 ≤ k → xs.length ≤ p → ys.length ≤ p →
    regletref02_Runes.l0 k s xs ys p = some (xs ++ (refGo s m p).1.map (·.2), ys ++ (refGo s m p).1.map (·.1), (refGo s m p).2)
  | 0, k, p, xs, ys, h0, h1, hm, hk, hx, hy => by omega
  | m + 1, k, p, xs, ys, h0, h1, hm, hk, hx, hy => by
    obtain ⟨k, rfl⟩ : ∃ j, k = j + 1 := ⟨k - 1, by omega⟩
    simp only [regletref02_Runes.l0, refGo]
    by_cases e : p < (s.size : Int)
    · rw [if_pos e, if_pos e]
      have hr := read_bounds s p h0 e
      obtain ⟨j, rfl⟩ : ∃ j, k = j + 20 := ⟨k - 20, by omega⟩
      rw [read_ok s p h0 e (by omega)]
      simp only [Option.bind_some]
      by_cases z : (readV s p).2 = 0
      · rw [if_pos z, if_pos z]; simp
      rw [if_neg z, if_neg z, if_pos (by omega), if_pos (by omega), wrap_id (by omega) (by omega),
        runes_go s hs m (j + 20) _ _ _ (by omega) (by omega) (by omega) (by omega) (by simp; omega) (by simp; omega)]
      simp [List.append_assoc]
    · rw [if_neg e, if_neg e]; simp
def refV (s : ByteArray) : List (Int × Int) × Int := refGo s (s.size + 1) 0
theorem runes_ok (s : ByteArray) (hs : s.size ≤ 17592186044416) (k : Nat) (hk : s.size + 22 ≤ k) : regletref02_Runes.f k s = some ((refV s).1.map (·.2), (refV s).1.map (·.1), (refV s).2) := by
  unfold regletref02_Runes.f refV
  rw [runes_go s hs (s.size + 1) k 0 [] [] (by omega) (by omega) (by omega) (by omega) (by simp) (by simp)]
  simp
theorem bad_ref (s : ByteArray) : badV s = (refV s).2 := refGo_bad s _ 0 (by omega) (by omega)
/-- A text is right, and has these runes; or it has a first wrong byte. -/
theorem right_or (s : ByteArray) : ((refV s).2 = -1 ∧ Par s 0 (refV s).1 s.size) ∨ (0 ≤ (refV s).2 ∧ (refV s).2 < s.size) := by
  rcases refGo_two s (s.size + 1) 0 (by omega) (by omega) with h | h
  · exact .inl ⟨h, ref_par s _ 0 (by omega) (by omega) (by omega) h⟩
  · exact .inr h
theorem par_refV {s : ByteArray} {l : List (Int × Int)} (h : Par s 0 l s.size) : refV s = (l, -1) := par_ref h rfl _ (by omega)
theorem bad_or (s : ByteArray) : (badV s = -1 ∧ Par s 0 (refV s).1 s.size) ∨ (0 ≤ badV s ∧ badV s < s.size) := by rw [bad_ref]; exact right_or s
theorem par_bad {s : ByteArray} {l : List (Int × Int)} (h : Par s 0 l s.size) : badV s = -1 := by rw [bad_ref, par_refV h]
theorem bad_f (s : ByteArray) (hs : s.size ≤ 1125899906842624) : runes_Bad.f s = some (badV s) := by unfold runes_Bad.f; rw [if_pos hs]
theorem count_f (s : ByteArray) (hs : s.size ≤ 1125899906842624) : runes_Count.f s = some ((runesV s).length : Int) := by unfold runes_Count.f; rw [if_pos hs]
theorem lines_f (s : ByteArray) (hs : s.size ≤ 1125899906842624) : runes_Lines.f s = some (linesOf (runesV s)) := by unfold runes_Lines.f; rw [if_pos hs]
theorem right_f (s : ByteArray) (hs : s.size ≤ 17592186044416) (k : Nat) (hk : s.size + 22 ≤ k) : regletref02_Right.f k s = some (decide ((refV s).2 < 0)) := by
  unfold regletref02_Right.f; rw [runes_ok s hs k hk]; rfl
/-- Inside of a byte. -/
theorem inside_f (c : Int) (h : 0 ≤ c) (h' : c ≤ 255) : runes_Inside.f c = some (inside c) := by
  unfold runes_Inside.f inside
  have : ∀ n : Nat, n < 256 → (Go.bits .and .u8 (n : Int) 192 == 128) = (decide (128 ≤ (n : Int)) && decide ((n : Int) ≤ 191)) := by decide +kernel
  have g := this c.toNat (by omega)
  rw [Int.toNat_of_nonneg h] at g
  rw [g]
theorem rd_mid (pre : List Int) (x : Int) (l : List Int) : rd (pre ++ x :: l) (pre.length : Int) = x := by simp [rd]
theorem wf64 {a : Int} (h : (Lit.int .i64 a).wf = true) : -9223372036854775808 ≤ a ∧ a ≤ 9223372036854775807 := by
  simp only [Lit.wf, IntKind.min, IntKind.max, IntKind.signed, IntKind.bits, Bool.and_eq_true, decide_eq_true_eq, if_true] at h
  omega
end Go.Proofs.Ytbbnhameafolgaa.Pure
