/- The document's reading of a rune is the program's: what regletref02.Read tells is what sizeV tells. -/
import Derived.Test.YtbbnhameafolgaaPAllx2
import Derived.Test.YtbbnhameafolgaaRunesV
namespace Go.Proofs.Ytbbnhameafolgaa.Pure
open Go.RowKit Go.Proofs.Ytbbnhameafolgaa.PAll Go.Proofs.YtbbnhameafolgaaW.PrintWords Go.Proofs.YtbbnhameafolgaaW.PrintLast Go.Proofs.YtbbnhameafolgaaW.PrintMore Go.Proofs.Ytbbnhameafolgaa.Given

theorem wrap_id {x : Int} (h0 : -9223372036854775808 ≤ x) (h1 : x ≤ 9223372036854775807) : wrap64 x = x := by unfold wrap64; omega
theorem tmod_pos {x m : Int} (h : 0 ≤ x) : Int.tmod x m = x % m := Int.tmod_eq_emod_of_nonneg h
theorem tdiv_pos {x m : Int} (h : 0 ≤ x) : Int.tdiv x m = x / m := Int.tdiv_eq_ediv_of_nonneg h
/-! what the bytes must be for a rune of so many -/
def m2 (c b : Int) : Prop := 194 ≤ c ∧ c ≤ 223 ∧ 128 ≤ b ∧ b ≤ 191
def m3 (c b d : Int) : Prop := 224 ≤ c ∧ c ≤ 239 ∧ (c = 224 → 160 ≤ b) ∧ (c = 237 → b ≤ 159) ∧ 128 ≤ b ∧ b ≤ 191 ∧ 128 ≤ d ∧ d ≤ 191
def m4 (c b d e : Int) : Prop := 240 ≤ c ∧ c ≤ 244 ∧ (c = 240 → 144 ≤ b) ∧ (c = 244 → b ≤ 143) ∧ 128 ≤ b ∧ b ≤ 191 ∧ 128 ≤ d ∧ d ≤ 191 ∧ 128 ≤ e ∧ e ≤ 191
instance (c b : Int) : Decidable (m2 c b) := by unfold m2; infer_instance
instance (c b d : Int) : Decidable (m3 c b d) := by unfold m3; infer_instance
instance (c b d e : Int) : Decidable (m4 c b d e) := by unfold m4; infer_instance
def v2 (c b : Int) : Int := c % 32 * 64 + b % 64
def v3 (c b d : Int) : Int := (c % 16 * 64 + b % 64) * 64 + d % 64
def v4 (c b d e : Int) : Int := ((c % 8 * 64 + b % 64) * 64 + d % 64) * 64 + e % 64

theorem value_1 (k : Nat) (s : ByteArray) (p : Int) (h0 : 0 ≤ p) (h1 : p < s.size) : regletref02_value.f k s p 1 = some (bt s p) := by
  have hb := bt_nonneg s p
  unfold regletref02_value.f
  rw [if_pos h0, if_pos h1, if_pos rfl, wrap_id (by omega) (by omega)]
theorem value_step (k : Nat) (s : ByteArray) (p n r i i' : Int) (hi' : i + 1 = i') (h0 : 0 ≤ p) (hi : 0 ≤ i) (hn : i < n) (h : p + i < s.size) (hs : s.size ≤ 1125899906842624) (hr0 : 0 ≤ r) (hr : r ≤ 10000000) :
    regletref02_value.l0 (k + 1) s p n r i = regletref02_value.l0 k s p n (r * 64 + bt s (p + i) % 64) i' := by
  have hb := bt_nonneg s (p + i)
  simp only [regletref02_value.l0]
  rw [if_pos hn, wrap_id (x := p + i) (by omega) (by omega), if_pos (by omega), if_pos h, wrap_id (x := bt s (p + i)) (by omega) (by omega), tmod_pos hb.1,
    wrap_id (x := r * 64) (by omega) (by omega), wrap_id (x := r * 64 + bt s (p + i) % 64) (by omega) (by omega), wrap_id (x := i + 1) (by omega) (by omega), hi']
theorem value_end (k : Nat) (s : ByteArray) (p n r : Int) : regletref02_value.l0 (k + 1) s p n r n = some r := by
  simp only [regletref02_value.l0]
  rw [if_neg (by omega)]
theorem value_2 (k : Nat) (s : ByteArray) (p : Int) (h0 : 0 ≤ p) (h : p + 2 ≤ s.size) (hs : s.size ≤ 1125899906842624) :
    regletref02_value.f (k + 4) s p 2 = some (v2 (bt s p) (bt s (p + 1))) := by
  have hb := bt_nonneg s p
  unfold regletref02_value.f
  rw [if_pos h0, if_pos (by omega), if_neg (by omega), if_pos (by decide +kernel), if_neg (by decide +kernel), wrap_id (x := bt s p) (by omega) (by omega),
    show shl .i64 1 (wrap64 (7 - 2)) = 32 by decide +kernel, tmod_pos hb.1,
    value_step _ s p 2 _ 1 2 (by omega) h0 (by omega) (by omega) (by omega) hs (by omega) (by omega), value_end]
  rfl
theorem value_3 (k : Nat) (s : ByteArray) (p : Int) (h0 : 0 ≤ p) (h : p + 3 ≤ s.size) (hs : s.size ≤ 1125899906842624) :
    regletref02_value.f (k + 4) s p 3 = some (v3 (bt s p) (bt s (p + 1)) (bt s (p + 2))) := by
  have hb := bt_nonneg s p
  have hb1 := bt_nonneg s (p + 1)
  unfold regletref02_value.f
  rw [if_pos h0, if_pos (by omega), if_neg (by omega), if_pos (by decide +kernel), if_neg (by decide +kernel), wrap_id (x := bt s p) (by omega) (by omega),
    show shl .i64 1 (wrap64 (7 - 3)) = 16 by decide +kernel, tmod_pos hb.1,
    value_step _ s p 3 _ 1 2 (by omega) h0 (by omega) (by omega) (by omega) hs (by omega) (by omega), value_step _ s p 3 _ 2 3 (by omega) h0 (by omega) (by omega) (by omega) hs (by omega) (by omega), value_end]
  rfl
theorem value_4 (k : Nat) (s : ByteArray) (p : Int) (h0 : 0 ≤ p) (h : p + 4 ≤ s.size) (hs : s.size ≤ 1125899906842624) :
    regletref02_value.f (k + 4) s p 4 = some (v4 (bt s p) (bt s (p + 1)) (bt s (p + 2)) (bt s (p + 3))) := by
  have hb := bt_nonneg s p
  have hb1 := bt_nonneg s (p + 1)
  have hb2 := bt_nonneg s (p + 2)
  unfold regletref02_value.f
  rw [if_pos h0, if_pos (by omega), if_neg (by omega), if_pos (by decide +kernel), if_neg (by decide +kernel), wrap_id (x := bt s p) (by omega) (by omega),
    show shl .i64 1 (wrap64 (7 - 4)) = 8 by decide +kernel, tmod_pos hb.1,
    value_step _ s p 4 _ 1 2 (by omega) h0 (by omega) (by omega) (by omega) hs (by omega) (by omega), value_step _ s p 4 _ 2 3 (by omega) h0 (by omega) (by omega) (by omega) hs (by omega) (by omega),
    value_step _ s p 4 _ 3 4 (by omega) h0 (by omega) (by omega) (by omega) hs (by omega) (by omega), value_end]
  rfl

/-- A rune's bytes. -/
def bytesV (r : Int) : List Int :=
  if r < 0 ∨ 1114111 < r ∨ (55296 ≤ r ∧ r ≤ 57343) then [] else if r < 128 then [r] else if r < 2048 then [192 + r / 64, 128 + r % 64]
  else if r < 65536 then [224 + r / 4096, 128 + r / 64 % 64, 128 + r % 64] else [240 + r / 262144, 128 + r / 4096 % 64, 128 + r / 64 % 64, 128 + r % 64]
theorem isRune (r : Int) : regletref02_IsRune.f r = some (decide (¬ (r < 0 ∨ 1114111 < r ∨ (55296 ≤ r ∧ r ≤ 57343)))) := by
  unfold regletref02_IsRune.f
  repeat' split
  all_goals (congr 1; symm)
  · rw [decide_eq_true_eq]; omega
  · rw [decide_eq_decide]; omega
  · rw [decide_eq_false_iff_not]; omega
  · rw [decide_eq_false_iff_not]; omega
theorem bytes (r : Int) : regletref02_Bytes.f r = some (bytesV r) := by
  unfold regletref02_Bytes.f bytesV
  rw [isRune]
  simp only [Option.bind_some, decide_eq_true_eq]
  by_cases h : r < 0 ∨ 1114111 < r ∨ (55296 ≤ r ∧ r ≤ 57343)
  · rw [if_neg (fun h' => h' h), if_pos h]
  · rw [if_pos h, if_neg h]
    have e0 : ∀ m, Int.tdiv r m = r / m := fun m => tdiv_pos (by omega)
    have e1 : ∀ m, Int.tmod r m = r % m := fun m => tmod_pos (by omega)
    rw [e0, e0, e0, e1, wrap_id (x := r / 64) (by omega) (by omega), wrap_id (x := r / 4096) (by omega) (by omega), wrap_id (x := r / 262144) (by omega) (by omega),
      tmod_pos (x := r / 64) (by omega), tmod_pos (x := r / 4096) (by omega)]
    by_cases h1 : r < 128
    · rw [if_pos h1, if_pos h1]
    rw [if_neg h1, if_neg h1]
    by_cases h2 : r < 2048
    · rw [if_pos h2, if_pos h2, wrap_id (by omega) (by omega), wrap_id (by omega) (by omega)]
    rw [if_neg h2, if_neg h2]
    by_cases h3 : r < 65536
    · rw [if_pos h3, if_pos h3, wrap_id (by omega) (by omega), wrap_id (by omega) (by omega), wrap_id (by omega) (by omega)]
    rw [if_neg h3, if_neg h3, wrap_id (by omega) (by omega), wrap_id (by omega) (by omega), wrap_id (by omega) (by omega), wrap_id (by omega) (by omega)]

def bytesAt (s : ByteArray) : Nat → Int → List Int
  | 0, _ => []
  | n + 1, p => bt s p :: bytesAt s n (p + 1)
theorem bytesAt_len (s : ByteArray) : ∀ (n : Nat) (p : Int), (bytesAt s n p).length = n
  | 0, _ => rfl
  | n + 1, p => by simp [bytesAt, bytesAt_len s n]
theorem begins_go (s : ByteArray) (p : Int) (h0 : 0 ≤ p) (hs : s.size ≤ 1125899906842624) : ∀ (l pre : List Int) (k : Nat), l.length < k → p + (pre.length : Int) + (l.length : Int) ≤ s.size →
    regletref02_begins.l0 k s p (pre ++ l) (pre.length : Int) = some (decide (l = bytesAt s l.length (p + (pre.length : Int))))
  | [], pre, k, hk, h => by
    obtain ⟨k, rfl⟩ : ∃ m, k = m + 1 := ⟨k - 1, by simp at hk; omega⟩
    simp only [regletref02_begins.l0, List.append_nil]
    rw [if_neg (by omega)]
    simp [bytesAt]
  | x :: l, pre, k, hk, h => by
    obtain ⟨k, rfl⟩ : ∃ m, k = m + 1 := ⟨k - 1, by simp at hk; omega⟩
    simp only [List.length_cons] at hk h
    have hb := bt_nonneg s (p + (pre.length : Int))
    simp only [regletref02_begins.l0, List.length_append, List.length_cons]
    rw [if_pos (by omega), wrap_id (x := p + (pre.length : Int)) (by omega) (by omega), if_pos (by omega), if_pos (by omega), if_pos (by omega), wrap_id (x := bt s (p + (pre.length : Int))) (by omega) (by omega), wrap_id (x := (pre.length : Int) + 1) (by omega) (by omega)]
    have hr : rd (pre ++ x :: l) (pre.length : Int) = x := by simp [rd]
    rw [hr]
    by_cases e : bt s (p + (pre.length : Int)) = x
    · rw [if_pos e]
      have ih := begins_go s p h0 hs l (pre ++ [x]) k (by omega) (by simp; omega)
      simp only [List.append_assoc, List.cons_append, List.nil_append, List.length_append, List.length_cons, List.length_nil, Int.natCast_add, Int.natCast_one, Nat.zero_add] at ih
      rw [ih]
      simp only [bytesAt, e, List.cons.injEq, true_and, Int.add_assoc]
    · rw [if_neg e]
      have : ¬ x = bt s (p + (pre.length : Int)) := fun q => e q.symm
      simp [bytesAt, this]
theorem begins_ok (s : ByteArray) (p : Int) (h0 : 0 ≤ p) (hs : s.size ≤ 1125899906842624) (l : List Int) (k : Nat) (hk : l.length + 1 < k) (hl : l ≠ []) (h : p + (l.length : Int) ≤ s.size) :
    regletref02_begins.f k s p l = some (decide (l = bytesAt s l.length p)) := by
  have hn : 0 < l.length := List.length_pos_iff.2 hl
  obtain ⟨k, rfl⟩ : ∃ m, k = m + 1 := ⟨k - 1, by omega⟩
  unfold regletref02_begins.f
  rw [if_neg (by omega), wrap_id (by omega) (by omega)]
  simp only [regletref02_begins.j0]
  rw [if_neg (by simp; omega)]
  have g := begins_go s p h0 hs l [] k (by omega) (by simpa using h)
  simpa using g

/-- One try: as many bytes as n. -/
theorem read_step (s : ByteArray) (p : Int) (h0 : 0 ≤ p) (hs : s.size ≤ 1125899906842624) (n : Nat) (h1 : 1 ≤ n) (h4 : n ≤ 4) (h : p + n ≤ s.size) (k : Nat) (hk : 8 ≤ k) (r : Int) (hv : regletref02_value.f k s p n = some r) :
    regletref02_Read.l0 (k + 2) s p n = if bytesV r = bytesAt s n p then some (r, (n : Int)) else regletref02_Read.l0 k s p ((n + 1 : Nat) : Int) := by
  simp only [regletref02_Read.l0]
  rw [if_pos (by omega), wrap_id (x := p + n) (by omega) (by omega), decide_eq_true h]
  simp only [regletref02_Read.j1, if_true]
  rw [hv]
  simp only [Option.bind_some]
  rw [bytes]
  simp only [Option.bind_some]
  rw [wrap_id (x := (n : Int) + 1) (by omega) (by omega)]
  by_cases e : (bytesV r).length = n
  · rw [if_pos (by omega), begins_ok s p h0 hs _ k (by omega) (by intro q; rw [q] at e; simp at e; omega) (by omega), e]
    simp only [Option.bind_some, decide_eq_true_eq]
    rfl
  · rw [if_neg (by omega), if_neg (by intro q; rw [q, bytesAt_len] at e; exact e rfl)]
    rfl
theorem read_stop (s : ByteArray) (p : Int) (h0 : 0 ≤ p) (hp : p ≤ s.size) (hs : s.size ≤ 1125899906842624) (n : Nat) (h : 4 < n ∨ (n ≤ 4 ∧ s.size < p + n)) (k : Nat) :
    regletref02_Read.l0 (k + 2) s p n = some (-1, 0) := by
  simp only [regletref02_Read.l0]
  rcases h with h | ⟨h, h'⟩
  · rw [if_neg (by omega)]
    simp only [regletref02_Read.j1]
    rfl
  · rw [if_pos (by omega), wrap_id (x := p + n) (by omega) (by omega), decide_eq_false (by omega)]
    simp only [regletref02_Read.j1]
    rfl

theorem b1 (c : Int) (h : 0 ≤ c) (h' : c ≤ 255) : (bytesV c = [c]) ↔ c < 128 := by
  unfold bytesV
  rw [if_neg (by omega)]
  repeat' split
  all_goals simp
  all_goals omega
theorem b2 (c b : Int) (h : 0 ≤ c) (h' : c ≤ 255) (g : 0 ≤ b) (g' : b ≤ 255) : (bytesV (v2 c b) = [c, b]) ↔ m2 c b := by
  unfold bytesV m2 v2
  repeat' split
  all_goals simp
  all_goals omega
theorem b3 (c b d : Int) (h : 0 ≤ c) (h' : c ≤ 255) (g : 0 ≤ b) (g' : b ≤ 255) (f : 0 ≤ d) (f' : d ≤ 255) : (bytesV (v3 c b d) = [c, b, d]) ↔ m3 c b d := by
  unfold bytesV m3 v3
  repeat' split
  all_goals simp
  all_goals omega
theorem b4 (c b d e : Int) (h : 0 ≤ c) (h' : c ≤ 255) (g : 0 ≤ b) (g' : b ≤ 255) (f : 0 ≤ d) (f' : d ≤ 255) (i : 0 ≤ e) (i' : e ≤ 255) : (bytesV (v4 c b d e) = [c, b, d, e]) ↔ m4 c b d e := by
  unfold bytesV m4 v4
  repeat' split
  all_goals simp
  all_goals omega

/-- The rune at a place, and its bytes' number; -1 and 0: none. -/
def readV (s : ByteArray) (p : Int) : Int × Int :=
  if bt s p < 128 then (bt s p, 1)
  else if p + 2 ≤ s.size ∧ m2 (bt s p) (bt s (p + 1)) then (v2 (bt s p) (bt s (p + 1)), 2)
  else if p + 3 ≤ s.size ∧ m3 (bt s p) (bt s (p + 1)) (bt s (p + 2)) then (v3 (bt s p) (bt s (p + 1)) (bt s (p + 2)), 3)
  else if p + 4 ≤ s.size ∧ m4 (bt s p) (bt s (p + 1)) (bt s (p + 2)) (bt s (p + 3)) then (v4 (bt s p) (bt s (p + 1)) (bt s (p + 2)) (bt s (p + 3)), 4)
  else (-1, 0)
theorem read_ok (s : ByteArray) (p : Int) (h0 : 0 ≤ p) (h1 : p < s.size) (hs : s.size ≤ 1125899906842624) (k : Nat) : regletref02_Read.f (k + 20) s p = some (readV s p) := by
  have hb := bt_nonneg s p
  have hb1 := bt_nonneg s (p + 1)
  have hb2 := bt_nonneg s (p + 2)
  have hb3 := bt_nonneg s (p + 3)
  have q1 : bytesAt s 1 p = [bt s p] := rfl
  have q2 : bytesAt s 2 p = [bt s p, bt s (p + 1)] := rfl
  have q3 : bytesAt s 3 p = [bt s p, bt s (p + 1), bt s (p + 2)] := by simp only [bytesAt]; rw [show p + 1 + 1 = p + 2 by omega]
  have q4 : bytesAt s 4 p = [bt s p, bt s (p + 1), bt s (p + 2), bt s (p + 3)] := by simp only [bytesAt]; rw [show p + 1 + 1 = p + 2 by omega, show p + 2 + 1 = p + 3 by omega]
  unfold regletref02_Read.f readV
  have s1 := read_step s p h0 hs 1 (by omega) (by omega) (by omega) (k + 18) (by omega) _ (value_1 (k + 18) s p h0 h1)
  rw [show ((1 : Nat) : Int) = 1 from rfl] at s1
  rw [s1]
  by_cases c1 : bt s p < 128
  · rw [if_pos (((b1 _ hb.1 hb.2).2 c1).trans q1.symm), if_pos c1]
  rw [if_neg (fun h => c1 ((b1 _ hb.1 hb.2).1 (h.trans q1))), if_neg c1]
  by_cases l2 : p + 2 ≤ s.size
  case neg =>
    rw [if_neg (fun h => l2 h.1), if_neg (fun h => l2 (by omega)), if_neg (fun h => l2 (by omega))]
    exact read_stop s p h0 (by omega) hs 2 (.inr ⟨by omega, by omega⟩) _
  have s2 := read_step s p h0 hs 2 (by omega) (by omega) (by omega) (k + 16) (by omega) _ (value_2 (k + 12) s p h0 l2 hs)
  rw [show (((1 + 1 : Nat)) : Int) = ((2 : Nat) : Int) from rfl, s2]
  by_cases c2 : m2 (bt s p) (bt s (p + 1))
  · rw [if_pos (((b2 _ _ hb.1 hb.2 hb1.1 hb1.2).2 c2).trans q2.symm), if_pos ⟨l2, c2⟩]; rfl
  rw [if_neg (fun h => c2 ((b2 _ _ hb.1 hb.2 hb1.1 hb1.2).1 (h.trans q2))), if_neg (fun h => c2 h.2)]
  by_cases l3 : p + 3 ≤ s.size
  case neg =>
    rw [if_neg (fun h => l3 h.1), if_neg (fun h => l3 (by omega))]
    exact read_stop s p h0 (by omega) hs 3 (.inr ⟨by omega, by omega⟩) _
  have s3 := read_step s p h0 hs 3 (by omega) (by omega) (by omega) (k + 14) (by omega) _ (value_3 (k + 10) s p h0 l3 hs)
  rw [show (((2 + 1 : Nat)) : Int) = ((3 : Nat) : Int) from rfl, s3]
  by_cases c3 : m3 (bt s p) (bt s (p + 1)) (bt s (p + 2))
  · rw [if_pos (((b3 _ _ _ hb.1 hb.2 hb1.1 hb1.2 hb2.1 hb2.2).2 c3).trans q3.symm), if_pos ⟨l3, c3⟩]; rfl
  rw [if_neg (fun h => c3 ((b3 _ _ _ hb.1 hb.2 hb1.1 hb1.2 hb2.1 hb2.2).1 (h.trans q3))), if_neg (fun h => c3 h.2)]
  by_cases l4 : p + 4 ≤ s.size
  case neg =>
    rw [if_neg (fun h => l4 h.1)]
    exact read_stop s p h0 (by omega) hs 4 (.inr ⟨by omega, by omega⟩) _
  have s4 := read_step s p h0 hs 4 (by omega) (by omega) (by omega) (k + 12) (by omega) _ (value_4 (k + 8) s p h0 l4 hs)
  rw [show (((3 + 1 : Nat)) : Int) = ((4 : Nat) : Int) from rfl, s4]
  by_cases c4 : m4 (bt s p) (bt s (p + 1)) (bt s (p + 2)) (bt s (p + 3))
  · rw [if_pos (((b4 _ _ _ _ hb.1 hb.2 hb1.1 hb1.2 hb2.1 hb2.2 hb3.1 hb3.2).2 c4).trans q4.symm), if_pos ⟨l4, c4⟩]; rfl
  rw [if_neg (fun h => c4 ((b4 _ _ _ _ hb.1 hb.2 hb1.1 hb1.2 hb2.1 hb2.2 hb3.1 hb3.2).1 (h.trans q4))), if_neg (fun h => c4 h.2)]
  exact read_stop s p h0 (by omega) hs 5 (.inl (by omega)) _
theorem cont_iff (s : ByteArray) (n lo hi : Int) : cont s n lo hi = true ↔ n < s.size ∧ lo ≤ bt s n ∧ bt s n ≤ hi := by
  unfold cont; simp
theorem readV_snd (s : ByteArray) (p : Int) : (readV s p).2 = if bt s p < 128 then 1 else if p + 2 ≤ s.size ∧ m2 (bt s p) (bt s (p + 1)) then 2
    else if p + 3 ≤ s.size ∧ m3 (bt s p) (bt s (p + 1)) (bt s (p + 2)) then 3 else if p + 4 ≤ s.size ∧ m4 (bt s p) (bt s (p + 1)) (bt s (p + 2)) (bt s (p + 3)) then 4 else 0 := by
  unfold readV
  by_cases c1 : bt s p < 128
  · rw [if_pos c1, if_pos c1]
  rw [if_neg c1, if_neg c1]
  by_cases c2 : p + 2 ≤ s.size ∧ m2 (bt s p) (bt s (p + 1))
  · rw [if_pos c2, if_pos c2]
  rw [if_neg c2, if_neg c2]
  by_cases c3 : p + 3 ≤ s.size ∧ m3 (bt s p) (bt s (p + 1)) (bt s (p + 2))
  · rw [if_pos c3, if_pos c3]
  rw [if_neg c3, if_neg c3]
  by_cases c4 : p + 4 ≤ s.size ∧ m4 (bt s p) (bt s (p + 1)) (bt s (p + 2)) (bt s (p + 3))
  · rw [if_pos c4, if_pos c4]
  rw [if_neg c4, if_neg c4]
/-- What the program finds is what the document finds. -/
theorem size_read (s : ByteArray) (p : Int) (h0 : 0 ≤ p) (h1 : p < s.size) : sizeV s p = (readV s p).2 := by
  have hb := bt_nonneg s p
  rw [readV_snd]
  unfold sizeV
  rw [if_neg (by omega), if_neg (by omega)]
  simp only [sizeGo, cont_iff]
  rw [show p + 1 + 1 = p + 2 by omega, show p + 2 + 1 = p + 3 by omega, show p + 3 + 1 = p + 4 by omega]
  unfold m2 m3 m4
  repeat' split
  all_goals first
    | rfl
    | omega
theorem get_bt (s : ByteArray) (i : Nat) : ((s.get! i).toNat : Int) = bt s i := by
  unfold bt
  simp only [Int.toNat_natCast]
  split
  · rename_i h
    have e : s.get! i = s[i]'h := get_at s i h
    rw [e]
  · rename_i h
    simp [ByteArray.get!, h]
    rfl

theorem valid_iff (r : Int) : Utf8.valid r = true ↔ (0 ≤ r ∧ r < 55296) ∨ (57344 ≤ r ∧ r ≤ 1114111) := by
  unfold Utf8.valid
  rw [Bool.or_eq_true, Bool.and_eq_true, Bool.and_eq_true, decide_eq_true_eq, decide_eq_true_eq, decide_eq_true_eq, decide_eq_true_eq]
def okR (r : Nat) : Prop := r < 55296 ∨ (57344 ≤ r ∧ r ≤ 1114111)
instance (r : Nat) : Decidable (okR r) := by unfold okR; infer_instance
def decP (c b d e n p : Nat) : Nat × Nat :=
  if c < 128 then (c, 1)
  else if c / 32 = 6 ∧ p + 1 < n ∧ b / 64 = 2 then (if 128 ≤ c % 32 * 64 + b % 64 then (c % 32 * 64 + b % 64, 2) else (65533, 1))
  else if c / 16 = 14 ∧ p + 1 < n ∧ b / 64 = 2 ∧ p + 2 < n ∧ d / 64 = 2 then
    (if 2048 ≤ c % 16 * 4096 + b % 64 * 64 + d % 64 ∧ okR (c % 16 * 4096 + b % 64 * 64 + d % 64) then (c % 16 * 4096 + b % 64 * 64 + d % 64, 3) else (65533, 1))
  else if c / 8 = 30 ∧ p + 1 < n ∧ b / 64 = 2 ∧ p + 2 < n ∧ d / 64 = 2 ∧ p + 3 < n ∧ e / 64 = 2 then
    (if 65536 ≤ c % 8 * 262144 + b % 64 * 4096 + d % 64 * 64 + e % 64 ∧ okR (c % 8 * 262144 + b % 64 * 4096 + d % 64 * 64 + e % 64) then (c % 8 * 262144 + b % 64 * 4096 + d % 64 * 64 + e % 64, 4) else (65533, 1))
  else (65533, 1)
theorem valid_ok (r : Nat) : (Utf8.valid (r : Int) = true) = okR r := by
  rw [eq_iff_iff, valid_iff]; unfold okR; omega
theorem decode_dec (s : ByteArray) (p : Nat) : Utf8.decode s p = decP (s.get! p).toNat (s.get! (p + 1)).toNat (s.get! (p + 2)).toNat (s.get! (p + 3)).toNat s.size p := by
  unfold Utf8.decode decP
  simp only [Nat.add_zero, Bool.and_eq_true, decide_eq_true_eq, beq_iff_eq, valid_ok, Utf8.runeError, and_assoc, ge_iff_le]
theorem dec_no (c b d e n p : Nat) (hc : c < 256) (hb : b < 256) (hd : d < 256) (he : e < 256) (k1 : ¬ c < 128) (k2 : ¬ ((p : Int) + 2 ≤ n ∧ m2 c b)) (k3 : ¬ ((p : Int) + 3 ≤ n ∧ m3 c b d))
    (k4 : ¬ ((p : Int) + 4 ≤ n ∧ m4 c b d e)) : decP c b d e n p = (65533, 1) := by
  unfold decP
  rw [if_neg k1]
  by_cases a2 : c / 32 = 6 ∧ p + 1 < n ∧ b / 64 = 2
  · rw [if_pos a2, if_neg]
    intro h
    apply k2
    unfold m2
    omega
  rw [if_neg a2]
  by_cases a3 : c / 16 = 14 ∧ p + 1 < n ∧ b / 64 = 2 ∧ p + 2 < n ∧ d / 64 = 2
  · rw [if_pos a3, if_neg]
    rintro ⟨h, h'⟩
    apply k3
    unfold m3
    unfold okR at h'
    refine ⟨by omega, by omega, by omega, fun _ => by omega, fun _ => by omega, by omega, by omega, by omega, by omega⟩
  rw [if_neg a3]
  by_cases a4 : c / 8 = 30 ∧ p + 1 < n ∧ b / 64 = 2 ∧ p + 2 < n ∧ d / 64 = 2 ∧ p + 3 < n ∧ e / 64 = 2
  · rw [if_pos a4, if_neg]
    rintro ⟨h, h'⟩
    apply k4
    unfold m4
    unfold okR at h'
    refine ⟨by omega, by omega, by omega, fun _ => by omega, fun _ => by omega, by omega, by omega, by omega, by omega, by omega, by omega⟩
  rw [if_neg a4]
theorem dec_2 (c b d e n p : Nat) (hc : c < 256) (hb : b < 256) (l : (p : Int) + 2 ≤ n) (k : m2 c b) : decP c b d e n p = ((v2 c b).toNat, 2) := by
  unfold m2 at k
  unfold decP v2
  rw [if_neg (by omega), if_pos (by omega), if_pos (by omega)]
  simp only [Prod.mk.injEq, and_true]
  omega
theorem dec_3 (c b d e n p : Nat) (hc : c < 256) (hb : b < 256) (hd : d < 256) (l : (p : Int) + 3 ≤ n) (k : m3 c b d) : decP c b d e n p = ((v3 c b d).toNat, 3) := by
  unfold m3 at k
  unfold decP v3
  rw [if_neg (by omega), if_neg (by omega), if_pos (by omega), if_pos (by unfold okR; omega)]
  simp only [Prod.mk.injEq, and_true]
  omega
theorem dec_4 (c b d e n p : Nat) (hc : c < 256) (hb : b < 256) (hd : d < 256) (he : e < 256) (l : (p : Int) + 4 ≤ n) (k : m4 c b d e) : decP c b d e n p = ((v4 c b d e).toNat, 4) := by
  unfold m4 at k
  unfold decP v4
  rw [if_neg (by omega), if_neg (by omega), if_neg (by omega), if_pos (by omega), if_pos (by unfold okR; omega)]
  simp only [Prod.mk.injEq, and_true]
  omega
/-- 'range' over a text reads what the document reads, where a rune begins; else one byte as U+FFFD. -/
theorem decode_read (s : ByteArray) (p : Nat) : Utf8.decode s p = if (readV s p).2 = 0 then (65533, 1) else ((readV s p).1.toNat, (readV s p).2.toNat) := by
  have e0 : bt s (p : Int) = ((s.get! p).toNat : Int) := (get_bt s p).symm
  have e1 : bt s ((p : Int) + 1) = ((s.get! (p + 1)).toNat : Int) := (get_bt s (p + 1)).symm
  have e2 : bt s ((p : Int) + 2) = ((s.get! (p + 2)).toNat : Int) := (get_bt s (p + 2)).symm
  have e3 : bt s ((p : Int) + 3) = ((s.get! (p + 3)).toNat : Int) := (get_bt s (p + 3)).symm
  have h0 := (s.get! p).toNat_lt
  have h1 := (s.get! (p + 1)).toNat_lt
  have h2 := (s.get! (p + 2)).toNat_lt
  have h3 := (s.get! (p + 3)).toNat_lt
  rw [decode_dec]
  unfold readV
  rw [e0, e1, e2, e3]
  by_cases c1 : ((s.get! p).toNat : Int) < 128
  · rw [if_pos c1, if_neg (by simp)]
    unfold decP
    rw [if_pos (by omega)]
    simp
  rw [if_neg c1]
  by_cases k2 : (p : Int) + 2 ≤ s.size ∧ m2 (s.get! p).toNat (s.get! (p + 1)).toNat
  · rw [if_pos k2, if_neg (by simp)]
    exact dec_2 _ _ _ _ _ _ h0 h1 k2.1 k2.2
  rw [if_neg k2]
  by_cases k3 : (p : Int) + 3 ≤ s.size ∧ m3 (s.get! p).toNat (s.get! (p + 1)).toNat (s.get! (p + 2)).toNat
  · rw [if_pos k3, if_neg (by simp)]
    exact dec_3 _ _ _ _ _ _ h0 h1 h2 k3.1 k3.2
  rw [if_neg k3]
  by_cases k4 : (p : Int) + 4 ≤ s.size ∧ m4 (s.get! p).toNat (s.get! (p + 1)).toNat (s.get! (p + 2)).toNat (s.get! (p + 3)).toNat
  · rw [if_pos k4, if_neg (by simp)]
    exact dec_4 _ _ _ _ _ _ h0 h1 h2 h3 k4.1 k4.2
  rw [if_neg k4, if_pos rfl]
  exact dec_no _ _ _ _ _ _ h0 h1 h2 h3 (by omega) k2 k3 k4
end Go.Proofs.Ytbbnhameafolgaa.Pure
