/- Pruned by wip/prune.py. -/
import Derived.Test.YtieieindakbpoaaQSxFlow
import Derived.Test.YtieieindakbpoaaQSxKinds
namespace Go.Proofs.Ytieieindakbpoaa.Pc
open Go Go.RowKit Go.Proofs.YtieieindakbpoaaW.PrintWords Go.Proofs.Ytieieindakbpoaa.Kinds Go.Proofs.Ytieieindakbpoaa.Sx
set_option linter.unusedVariables false
set_option linter.unusedSimpArgs false
abbrev P1 := S77
inductive AT where
  | nil : AT
  | nd (g : Nat) (l : AT) (p : P1) (r : AT) : AT
namespace AT
def ptr : AT → Option Addr
  | nil => none
  | nd g _ _ _ => some ⟨g, 0, none⟩
def fl : AT → List P1
  | nil => []
  | nd _ l p r => fl l ++ p :: fl r
def ht : AT → Int
  | nil => 0
  | nd _ l _ r => 1 + max (ht l) (ht r)
def cnt : AT → Nat
  | nil => 0
  | nd _ l _ r => cnt l + 1 + cnt r
def lf : AT → AT
  | nil => nil
  | nd _ l _ _ => l
def rt : AT → AT
  | nil => nil
  | nd _ _ _ r => r
def bal : AT → Prop
  | nil => True
  | nd _ l _ r => bal l ∧ bal r ∧ ht l ≤ ht r + 1 ∧ ht r ≤ ht l + 1
theorem ptr_none {T : AT} (h : T.ptr = none) : T = nil := by
  cases T with
  | nil => rfl
  | nd g l p r => cases h
theorem ptr_some {T : AT} (h : ¬ T.ptr = none) : ∃ g l p r, T = nd g l p r := by
  cases T with
  | nil => exact absurd rfl h
  | nd g l p r => exact ⟨g, l, p, r, rfl⟩
theorem ht_nonneg : ∀ T : AT, 0 ≤ ht T
  | nil => by simp [ht]
  | nd g l p r => by
    have h1 := ht_nonneg l
    simp only [ht]
    omega
theorem ht_le : ∀ T : AT, ht T ≤ (fl T).length
  | nil => by simp [ht, fl]
  | nd g l p r => by
    have h1 := ht_le l
    have h2 := ht_le r
    simp only [ht, fl, List.length_append, List.length_cons]
    omega
theorem cnt_fl : ∀ T : AT, (fl T).length = cnt T
  | nil => rfl
  | nd g l p r => by
    have h1 := cnt_fl l
    have h2 := cnt_fl r
    simp only [fl, cnt, List.length_append, List.length_cons]
    omega
theorem ht_pos {T : AT} (h : 0 < ht T) : ∃ g l p r, T = nd g l p r := by
  cases T with
  | nil => simp [ht] at h
  | nd g l p r => exact ⟨g, l, p, r, rfl⟩
end AT
open AT
def szF (l : List P1) : Int := (l.map (·.f2)).sum
def lnF (l : List P1) : Int := (l.map (·.f3)).sum
theorem szF_app (a b : List P1) : szF (a ++ b) = szF a + szF b := by simp [szF]
theorem lnF_app (a b : List P1) : lnF (a ++ b) = lnF a + lnF b := by simp [lnF]
theorem szF_cons (p : P1) (b : List P1) : szF (p :: b) = p.f2 + szF b := by simp [szF]
theorem lnF_cons (p : P1) (b : List P1) : lnF (p :: b) = p.f3 + lnF b := by simp [lnF]
theorem szF_nil : szF [] = 0 := rfl
theorem lnF_nil : lnF [] = 0 := rfl
/-- Small enough to be counted. -/
def Sm (l : List P1) : Prop := l.length ≤ 1000000 ∧ ∀ p ∈ l, 0 ≤ p.f2 ∧ p.f2 ≤ 1000000 ∧ 0 ≤ p.f3 ∧ p.f3 ≤ 1000000
theorem sm_sums : ∀ {l : List P1}, (∀ p ∈ l, 0 ≤ p.f2 ∧ p.f2 ≤ 1000000 ∧ 0 ≤ p.f3 ∧ p.f3 ≤ 1000000) → 0 ≤ szF l ∧ szF l ≤ 1000000 * l.length ∧ 0 ≤ lnF l ∧ lnF l ≤ 1000000 * l.length
  | [], _ => by simp [szF, lnF]
  | p :: l, h => by
    have h1 := sm_sums (l := l) fun q hq => h q (List.mem_cons_of_mem _ hq)
    have h2 := h p List.mem_cons_self
    rw [szF_cons, lnF_cons, List.length_cons]
    omega
theorem sm_all {l : List P1} (h : Sm l) : 0 ≤ szF l ∧ szF l ≤ 1000000000000 ∧ 0 ≤ lnF l ∧ lnF l ≤ 1000000000000 := by
  have h1 := sm_sums h.2
  have h2 := h.1
  omega
theorem sm_app {a b : List P1} : Sm (a ++ b) → Sm a ∧ Sm b := fun ⟨h1, h2⟩ => by
  rw [List.length_append] at h1
  exact ⟨⟨by omega, fun p hp => h2 p (List.mem_append_left _ hp)⟩, ⟨by omega, fun p hp => h2 p (List.mem_append_right _ hp)⟩⟩
theorem sm_mid {a b : List P1} {p : P1} (h : Sm (a ++ p :: b)) : Sm a ∧ Sm b ∧ (0 ≤ p.f2 ∧ p.f2 ≤ 1000000 ∧ 0 ≤ p.f3 ∧ p.f3 ≤ 1000000) ∧ a.length + b.length + 1 ≤ 1000000 := by
  obtain ⟨h1, h2⟩ := sm_app h
  obtain ⟨h3, h4⟩ := h2
  refine ⟨h1, ⟨by rw [List.length_cons] at h3; omega, fun q hq => h4 q (List.mem_cons_of_mem _ hq)⟩, h4 p List.mem_cons_self, ?_⟩
  have := h.1
  rw [List.length_append, List.length_cons] at this
  omega
theorem sm_of {a b : List P1} (h : Sm a) (hl : b.length ≤ a.length) (hm : ∀ p ∈ b, p ∈ a) : Sm b := ⟨Nat.le_trans hl h.1, fun p hp => h.2 p (hm p hp)⟩
theorem sm_last {a b c : List P1} {p q : P1} (h : Sm (a ++ p :: c)) (e : c = b ++ [q]) : Sm (a ++ p :: b) := by
  subst e
  exact sm_of h (by simp) (fun x hx => by simp only [List.mem_append, List.mem_cons] at hx ⊢; grind)
theorem sm_eq {a b : List P1} (h : Sm a) (e : b = a) : Sm b := e ▸ h
/-- What a node's block has. -/
def ndc (l : AT) (p : P1) (r : AT) : List Value := [.pointer l.ptr, .pointer r.ptr, .bool p.f0, .int .i64 p.f1, .int .i64 p.f2, .int .i64 p.f3, .int .i64 (1 + max l.ht r.ht), .int .i64 (szF l.fl + p.f2 + szF r.fl), .int .i64 (lnF l.fl + p.f3 + lnF r.fl), .int .i64 ((l.fl.length : Int) + 1 + (r.fl.length : Int))]
def At (w : World) : AT → Prop
  | .nil => True
  | .nd g l p r => w.heap[g]? = some (.cells (ndc l p r).toArray 89 (0, 0)) ∧ At w l ∧ At w r
theorem at_cell {w : World} {g : Nat} {l r : AT} {p : P1} (h : At w (.nd g l p r)) (j : Nat) : w.cell? ⟨g, j, none⟩ = ([.pointer l.ptr, .pointer r.ptr, .bool p.f0, .int .i64 p.f1, .int .i64 p.f2, .int .i64 p.f3, .int .i64 (1 + max l.ht r.ht), .int .i64 (szF l.fl + p.f2 + szF r.fl), .int .i64 (lnF l.fl + p.f3 + lnF r.fl), .int .i64 ((l.fl.length : Int) + 1 + (r.fl.length : Int))] : List Value)[j]? := by
  simp [World.cell?, h.1, ndc]
def Ft (φ : World → Prop) (w : World) (F : Nat → Prop) : Prop := ∀ W' : World, (∀ k, F k → k < w.heap.size → W'.heap[k]? = w.heap[k]?) → φ W'
def lib (φ : World → Prop) : HP where
  p := fun w F => Ft φ w F
  mono := fun hF h W' hW => h W' fun k hk hl => hW k (hF k hk) hl
  bound := fun h W' hW => h W' fun k hk hl => hW k ⟨hk, hl⟩ hl
  move := fun {w w1 F} hm h W' hW => h W' fun k hk hl => by
    have h1 := hm k hk
    refine (hW k hk ?_).trans h1
    refine Classical.byContradiction fun hn => ?_
    rw [Array.getElem?_eq_none (by omega), Array.getElem?_eq_getElem hl] at h1
    cases h1
section
variable {w0 w : World} {F0 : Nat → Prop} {cs : List HP} {i : Nat} {φ ψ : World → Prop}
theorem lib_now (h : St w0 F0 cs w) (hi : cs[i]? = some (lib φ)) : φ w := by
  obtain ⟨G, _, hg⟩ := st_get h hi
  exact hg w fun _ _ _ => rfl
theorem lib_nil (h : St w0 F0 cs w) : St w0 F0 (lib (fun _ => True) :: cs) w := st_free h fun W' _ => trivial
theorem lib_weakn : ∀ (i : Nat) {cs : List HP}, (∀ W, ψ W → φ W) → St w0 F0 cs w → cs[i]? = some (lib ψ) → St w0 F0 (cs.set i (lib φ)) w := fun i cs hs h hi => by
  have key : ∀ (i : Nat) (cs : List HP) (F : Nat → Prop), Sep cs w F → cs[i]? = some (lib ψ) → Sep (cs.set i (lib φ)) w F := by
    intro i
    induction i with
    | zero =>
      intro cs F h hi
      cases cs with
      | nil => exact h
      | cons c cs =>
        obtain ⟨G, h1, h2, h3⟩ := h
        simp at hi
        subst hi
        exact ⟨G, h1, fun W' hW => hs W' (h2 W' hW), h3⟩
    | succ i ih =>
      intro cs F h hi
      cases cs with
      | nil => exact h
      | cons c cs =>
        obtain ⟨G, h1, h2, h3⟩ := h
        exact ⟨G, h1, h2, ih cs _ h3 (by simpa using hi)⟩
  obtain ⟨h1, h2, h3, h4, F, h5, h6, h7, h8⟩ := h
  exact ⟨h1, h2, h3, h4, F, key i cs F h5 hi, h6, h7, h8⟩
/-- A block that is written no more. -/
theorem lib_add {g T : Nat} {cells : List Value} (h : St w0 F0 (blk g cells T :: lib φ :: cs) w) : St w0 F0 (lib (fun W => φ W ∧ W.heap[g]? = some (.cells cells.toArray T (0, 0))) :: cs) w := by
  refine st_imp (st_star h) fun F hF => ?_
  obtain ⟨G1, i1, ⟨hb1, hb2⟩, hS⟩ := hF
  intro W' hW
  exact ⟨hS W' fun k hk hl => hW k hk.1 hl, (hW g (i1 g hb1) (Array.getElem?_eq_some_iff.1 hb2).1).trans hb2⟩
end
end Go.Proofs.Ytieieindakbpoaa.Pc
