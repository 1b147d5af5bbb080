/- Pruned by wip/prune.py. -/
import Derived.Test.YtmlkajmlhmfdgaaQSxOps
import Derived.Test.YtmlkajmlhmfdgaaQWWords
namespace Go.Proofs.Ytmlkajmlhmfdgaa.Sx
open Go Go.RowKit Go.Proofs.YtmlkajmlhmfdgaaW.PrintWords
set_option linter.unusedVariables false
set_option linter.unusedSimpArgs false
structure HP where
  p : World → (Nat → Prop) → Prop
  mono : ∀ {w F F'}, (∀ k, F k → F' k) → p w F → p w F'
  bound : ∀ {w F}, p w F → p w (fun k => F k ∧ k < w.heap.size)
  move : ∀ {w w1 : World} {F}, (∀ k, F k → w1.heap[k]? = w.heap[k]?) → p w F → p w1 F
def Sep : List HP → World → (Nat → Prop) → Prop
  | [], _, _ => True
  | c :: cs, w, F => ∃ G, (∀ k, G k → F k) ∧ c.p w G ∧ Sep cs w (fun k => F k ∧ ¬ G k)
theorem Sep_mono : ∀ {cs : List HP} {w : World} {F F' : Nat → Prop}, (∀ k, F k → F' k) → Sep cs w F → Sep cs w F'
  | [], _, _, _, _, _ => trivial
  | c :: cs, w, F, F', hF, ⟨G, h1, h2, h3⟩ => ⟨G, fun k hk => hF k (h1 k hk), h2, Sep_mono (fun k hk => ⟨hF k hk.1, hk.2⟩) h3⟩
theorem Sep_bound : ∀ {cs : List HP} {w : World} {F : Nat → Prop}, Sep cs w F → Sep cs w (fun k => F k ∧ k < w.heap.size)
  | [], _, _, _ => trivial
  | c :: cs, w, F, ⟨G, h1, h2, h3⟩ => ⟨_, fun k hk => ⟨h1 k hk.1, hk.2⟩, c.bound h2, Sep_mono (fun k hk => ⟨⟨hk.1.1, hk.2⟩, fun e => hk.1.2 e.1⟩) (Sep_bound h3)⟩
theorem Sep_move : ∀ {cs : List HP} {w w1 : World} {F : Nat → Prop}, (∀ k, F k → w1.heap[k]? = w.heap[k]?) → Sep cs w F → Sep cs w1 F
  | [], _, _, _, _, _ => trivial
  | c :: cs, w, w1, F, hm, ⟨G, h1, h2, h3⟩ => ⟨G, h1, c.move (fun k hk => hm k (h1 k hk)) h2, Sep_move (fun k hk => hm k hk.1) h3⟩
theorem Sep_swap {a b : HP} {cs : List HP} {w : World} {F : Nat → Prop} (h : Sep (a :: b :: cs) w F) : Sep (b :: a :: cs) w F := by
  obtain ⟨G, h1, h2, G2, h3, h4, h5⟩ := h
  exact ⟨G2, fun k hk => (h3 k hk).1, h4, G, fun k hk => ⟨h1 k hk, fun e => (h3 k e).2 hk⟩, h2, Sep_mono (fun k hk => ⟨⟨hk.1.1, hk.2⟩, hk.1.2⟩) h5⟩
/-- Piece number i to the front. -/
def front : Nat → List HP → List HP
  | 0, l => l
  | _ + 1, [] => []
  | i + 1, a :: l => match front i l with
    | [] => [a]
    | b :: r => b :: a :: r
theorem Sep_front : ∀ (i : Nat) {cs : List HP} {w : World} {F : Nat → Prop}, Sep cs w F → Sep (front i cs) w F
  | 0, _, _, _, h => h
  | i + 1, [], _, _, h => h
  | i + 1, a :: l, w, F, h => by
    obtain ⟨G, h1, h2, h3⟩ := h
    have h4 := Sep_front i h3
    show Sep (match front i l with | [] => [a] | b :: r => b :: a :: r) w F
    cases hf : front i l with
    | nil => exact ⟨G, h1, h2, trivial⟩
    | cons b r => rw [hf] at h4; exact Sep_swap ⟨G, h1, h2, h4⟩
theorem Sep_get : ∀ {cs : List HP} {i : Nat} {c : HP} {w : World} {F : Nat → Prop}, Sep cs w F → cs[i]? = some c → ∃ G, (∀ k, G k → F k) ∧ c.p w G
  | [], i, c, _, _, _, hi => by simp at hi
  | a :: l, 0, c, w, F, ⟨G, h1, h2, _⟩, hi => by
    simp at hi
    subst hi
    exact ⟨G, h1, h2⟩
  | a :: l, i + 1, c, w, F, ⟨G, h1, h2, h3⟩, hi => by
    obtain ⟨G2, h4, h5⟩ := Sep_get (i := i) (c := c) h3 (by simpa using hi)
    exact ⟨G2, fun k hk => (h4 k hk).1, h5⟩
theorem Sep_set : ∀ {cs : List HP} {i : Nat} {c : HP} {w : World} {F : Nat → Prop}, Sep cs w F → cs[i]? = some c → (∀ k, F k → k < w.heap.size) →
    ∃ G, (∀ k, G k → F k) ∧ c.p w G ∧ ∀ (c' : HP) (w' : World) (N : Nat → Prop), (∀ k, F k → ¬ G k → w'.heap[k]? = w.heap[k]?) → (∀ k, N k → w.heap.size ≤ k) → c'.p w' (fun k => G k ∨ N k) → Sep (cs.set i c') w' (fun k => F k ∨ N k)
  | [], i, c, _, _, _, hi, _ => by simp at hi
  | a :: l, 0, c, w, F, ⟨G, h1, h2, h3⟩, hi, hb => by
    simp at hi
    subst hi
    refine ⟨G, h1, h2, fun c' w' N hm hN hc => ?_⟩
    show Sep (c' :: l) w' _
    refine ⟨_, fun k hk => hk.imp (h1 k) id, hc, ?_⟩
    refine Sep_mono (fun k hk => ⟨.inl hk.1, fun e => e.elim hk.2 fun e => ?_⟩) (Sep_move (fun k hk => hm k hk.1 hk.2) h3)
    have := hb k hk.1
    have := hN k e
    omega
  | a :: l, i + 1, c, w, F, ⟨G0, h1, h2, h3⟩, hi, hb => by
    obtain ⟨G, h4, h5, h6⟩ := Sep_set (i := i) (c := c) h3 (by simpa using hi) (fun k hk => hb k hk.1)
    refine ⟨G, fun k hk => (h4 k hk).1, h5, fun c' w' N hm hN hc => ?_⟩
    have h7 := h6 c' w' N (fun k hk hg => hm k hk.1 hg) hN hc
    show Sep (a :: l.set i c') w' _
    refine ⟨G0, fun k hk => .inl (h1 k hk), a.move (fun k hk => hm k (h1 k hk) (fun e => (h4 k e).2 hk)) h2, Sep_mono (fun k hk => ?_) h7⟩
    rcases hk with hk | hk
    · exact ⟨.inl hk.1, hk.2⟩
    · refine ⟨.inr hk, fun e => ?_⟩
      have := hb k (h1 k e)
      have := hN k hk
      omega
/-- What is known of memory: since world w0 (whose blocks F0 may have been written), the pieces cs. -/
structure St (w0 : World) (F0 : Nat → Prop) (cs : List HP) (w : World) : Prop where
  os : w.os = w0.os
  tape : w.tape = w0.tape
  output : w.output = w0.output
  size : w0.heap.size ≤ w.heap.size
  sep : ∃ F, Sep cs w F ∧ (∀ k, F k → k < w.heap.size) ∧ (∀ k, F k → F0 k ∨ w0.heap.size ≤ k) ∧ (∀ k, k < w0.heap.size → ¬ F0 k → w.heap[k]? = w0.heap[k]?)
section
variable {w0 w w' : World} {F0 : Nat → Prop} {cs cs' : List HP} {c c' : HP} {i : Nat}
theorem st_start (w : World) : St w (fun _ => False) [] w := ⟨rfl, rfl, rfl, Nat.le_refl _, fun _ => False, trivial, fun _ h => h.elim, fun _ h => h.elim, fun _ _ _ => rfl⟩
theorem st_below0 (h : St w (fun _ => False) cs w') : Below w.heap.size w w' := by
  obtain ⟨h1, h2, h3, h4, F, _, _, _, h5⟩ := h
  exact ⟨h1, h2, h3, h4, fun k hk => h5 k hk (fun e => e)⟩
theorem st_front (i : Nat) (h : St w0 F0 cs w) : St w0 F0 (front i cs) w := by
  obtain ⟨h1, h2, h3, h4, F, h5, h6, h7, h8⟩ := h
  exact ⟨h1, h2, h3, h4, F, Sep_front i h5, h6, h7, h8⟩
theorem st_drop (h : St w0 F0 (c :: cs) w) : St w0 F0 cs w := by
  obtain ⟨h1, h2, h3, h4, F, ⟨G, _, _, h5⟩, h6, h7, h8⟩ := h
  exact ⟨h1, h2, h3, h4, F, Sep_mono (fun k hk => hk.1) h5, h6, h7, h8⟩
theorem st_get (h : St w0 F0 cs w) (hi : cs[i]? = some c) : ∃ G, (∀ k, G k → k < w.heap.size) ∧ c.p w G := by
  obtain ⟨_, _, _, _, F, h5, h6, _, _⟩ := h
  obtain ⟨G, h1, h2⟩ := Sep_get h5 hi
  exact ⟨G, fun k hk => h6 k (h1 k hk), h2⟩
theorem st_below (h : St w0 F0 cs w) (hb : Below w.heap.size w w') : St w0 F0 cs w' := by
  obtain ⟨h1, h2, h3, h4, F, h5, h6, h7, h8⟩ := h
  exact ⟨hb.os.trans h1, hb.tape.trans h2, hb.output.trans h3, Nat.le_trans h4 hb.size, F, Sep_move (fun k hk => hb.block k (h6 k hk)) h5, fun k hk => Nat.lt_of_lt_of_le (h6 k hk) hb.size, h7,
    fun k hk hn => (hb.block k (Nat.lt_of_lt_of_le hk h4)).trans (h8 k hk hn)⟩
theorem st_drew (h : St w0 F0 cs w) : St w0 F0 cs w.drew := st_below h (below_drew (Below.refl _ _))
theorem st_cast (e : cs = cs') (h : St w0 F0 cs w) : St w0 F0 cs' w := e ▸ h
/-- A piece more, in new blocks. -/
theorem st_add (h : St w0 F0 cs w) (hb : Below w.heap.size w w') (hc : c.p w' (fun k => w.heap.size ≤ k)) : St w0 F0 (c :: cs) w' := by
  obtain ⟨h1, h2, h3, h4, F, h5, h6, h7, h8⟩ := h
  refine ⟨hb.os.trans h1, hb.tape.trans h2, hb.output.trans h3, Nat.le_trans h4 hb.size, fun k => F k ∨ (w.heap.size ≤ k ∧ k < w'.heap.size), ?_, fun k hk => hk.elim (fun e => Nat.lt_of_lt_of_le (h6 k e) hb.size) (·.2), fun k hk => hk.elim (h7 k) (fun e => .inr (Nat.le_trans h4 e.1)),
    fun k hk hn => (hb.block k (Nat.lt_of_lt_of_le hk h4)).trans (h8 k hk hn)⟩
  refine ⟨_, fun k hk => .inr hk, c.bound hc, Sep_mono (fun k hk => ⟨.inl hk, fun e => ?_⟩) (Sep_move (fun k hk => hb.block k (h6 k hk)) h5)⟩
  have := h6 k hk
  omega
/-- A piece that needs no block. -/
theorem st_free (h : St w0 F0 cs w) (hc : c.p w (fun _ => False)) : St w0 F0 (c :: cs) w := by
  obtain ⟨h1, h2, h3, h4, F, h5, h6, h7, h8⟩ := h
  exact ⟨h1, h2, h3, h4, F, ⟨fun _ => False, fun _ e => e.elim, hc, Sep_mono (fun k hk => ⟨hk, id⟩) h5⟩, h6, h7, h8⟩
/-- One piece has been changed. -/
structure Upd (w w' : World) (G : Nat → Prop) : Prop where
  os : w'.os = w.os
  tape : w'.tape = w.tape
  output : w'.output = w.output
  size : w.heap.size ≤ w'.heap.size
  block : ∀ k, k < w.heap.size → ¬ G k → w'.heap[k]? = w.heap[k]?
theorem st_upd (h : St w0 F0 cs w) (hi : cs[i]? = some c) : ∃ G, (∀ k, G k → k < w.heap.size) ∧ c.p w G ∧ ∀ (c' : HP) (w' : World), Upd w w' G → c'.p w' (fun k => G k ∨ w.heap.size ≤ k) → St w0 F0 (cs.set i c') w' := by
  obtain ⟨h1, h2, h3, h4, F, h5, h6, h7, h8⟩ := h
  obtain ⟨G, g1, g2, g3⟩ := Sep_set h5 hi h6
  refine ⟨G, fun k hk => h6 k (g1 k hk), g2, fun c' w' hu hc => ?_⟩
  refine ⟨hu.os.trans h1, hu.tape.trans h2, hu.output.trans h3, Nat.le_trans h4 hu.size, _, Sep_mono (F' := fun k => F k ∨ (w.heap.size ≤ k ∧ k < w'.heap.size)) (fun k hk => hk) (g3 c' w' (fun k => w.heap.size ≤ k ∧ k < w'.heap.size) (fun k hk hn => hu.block k (h6 k hk) hn) (fun k hk => hk.1) ?_), ?_, ?_, ?_⟩
  · refine c'.mono (fun k hk => ?_) (c'.bound hc)
    rcases hk with ⟨hk | hk, hlt⟩
    · exact .inl hk
    · exact .inr ⟨hk, hlt⟩
  · exact fun k hk => hk.elim (fun e => Nat.lt_of_lt_of_le (h6 k e) hu.size) (·.2)
  · exact fun k hk => hk.elim (h7 k) (fun e => .inr (Nat.le_trans h4 e.1))
  · intro k hk hn
    rw [hu.block k (Nat.lt_of_lt_of_le hk h4) (fun e => ?_)]
    · exact h8 k hk hn
    · rcases h7 k (g1 k e) with e2 | e2
      · exact hn e2
      · omega
theorem st_imp (h : St w0 F0 (c :: cs) w) (hc : ∀ G, c.p w G → c'.p w G) : St w0 F0 (c' :: cs) w := by
  obtain ⟨h1, h2, h3, h4, F, ⟨G, g1, g2, g3⟩, h6, h7, h8⟩ := h
  exact ⟨h1, h2, h3, h4, F, ⟨G, g1, hc G g2, g3⟩, h6, h7, h8⟩
end
def HP.star (a b : HP) : HP where
  p := fun w F => ∃ G, (∀ k, G k → F k) ∧ a.p w G ∧ b.p w (fun k => F k ∧ ¬ G k)
  mono := fun hF ⟨G, h1, h2, h3⟩ => ⟨G, fun k hk => hF k (h1 k hk), h2, b.mono (fun k hk => ⟨hF k hk.1, hk.2⟩) h3⟩
  bound := fun ⟨G, h1, h2, h3⟩ => ⟨_, fun k hk => ⟨h1 k hk.1, hk.2⟩, a.bound h2, b.mono (fun k hk => ⟨⟨hk.1.1, hk.2⟩, fun e => hk.1.2 e.1⟩) (b.bound h3)⟩
  move := fun hm ⟨G, h1, h2, h3⟩ => ⟨G, h1, a.move (fun k hk => hm k (h1 k hk)) h2, b.move (fun k hk => hm k hk.1) h3⟩
def HP.ex {ι : Type} (a : ι → HP) : HP where
  p := fun w F => ∃ x, (a x).p w F
  mono := fun hF ⟨x, h⟩ => ⟨x, (a x).mono hF h⟩
  bound := fun ⟨x, h⟩ => ⟨x, (a x).bound h⟩
  move := fun hm ⟨x, h⟩ => ⟨x, (a x).move hm h⟩
def HP.pure (q : Prop) : HP where
  p := fun _ _ => q
  mono := fun _ h => h
  bound := fun h => h
  move := fun _ h => h
/-- A block that is known whole. -/
def blk (g : Nat) (cells : List Value) (T : Nat) : HP where
  p := fun w F => F g ∧ w.heap[g]? = some (.cells cells.toArray T (0, 0))
  mono := fun hF h => ⟨hF _ h.1, h.2⟩
  bound := fun h => ⟨⟨h.1, (Array.getElem?_eq_some_iff.1 h.2).1⟩, h.2⟩
  move := fun hm h => ⟨h.1, (hm _ h.1).trans h.2⟩
/-- A row of elements (of type e) that may grow. -/
def row {α : Type} (d : Kd α) (e : Nat) (A : Option Addr) (c : Nat) (L : List α) : HP where
  p := fun w F => d.R e w 0 F (.slice A L.length c) L
  mono := fun hF h => Kd.R_mono h hF
  bound := fun h => Kd.R_mono (Kd.R_bound h) (fun k hk => ⟨hk.1, hk.2.2.1⟩)
  move := fun hm h => Kd.R_move h hm
section
variable {w0 w w' : World} {F0 : Nat → Prop} {cs cs' : List HP} {c c' a b : HP} {i : Nat}
theorem st_unstar (h : St w0 F0 (a.star b :: cs) w) : St w0 F0 (a :: b :: cs) w := by
  obtain ⟨h1, h2, h3, h4, F, ⟨G, g1, ⟨G2, g2, g3, g4⟩, g5⟩, h6, h7, h8⟩ := h
  refine ⟨h1, h2, h3, h4, F, ⟨G2, fun k hk => g1 k (g2 k hk), g3, fun k => G k ∧ ¬ G2 k, fun k hk => ⟨g1 k hk.1, hk.2⟩, g4, Sep_mono (fun k hk => ⟨⟨hk.1, fun e => hk.2 (g2 k e)⟩, fun e => hk.2 e.1⟩) g5⟩, h6, h7, h8⟩
open Classical in
theorem st_star (h : St w0 F0 (a :: b :: cs) w) : St w0 F0 (a.star b :: cs) w := by
  obtain ⟨h1, h2, h3, h4, F, ⟨G, g1, g2, G2, g3, g4, g5⟩, h6, h7, h8⟩ := h
  refine ⟨h1, h2, h3, h4, F, ⟨fun k => G k ∨ G2 k, fun k hk => hk.elim (g1 k) (fun e => (g3 k e).1), ⟨G, fun k hk => .inl hk, g2, b.mono (fun k hk => ⟨.inr hk, (g3 k hk).2⟩) g4⟩, Sep_mono (fun k hk => ⟨hk.1.1, fun e => e.elim hk.1.2 hk.2⟩) g5⟩, h6, h7, h8⟩
theorem st_unex {ι : Type} {q : ι → HP} (h : St w0 F0 (HP.ex q :: cs) w) : ∃ x, St w0 F0 (q x :: cs) w := by
  obtain ⟨h1, h2, h3, h4, F, ⟨G, g1, ⟨x, g2⟩, g3⟩, h6, h7, h8⟩ := h
  exact ⟨x, h1, h2, h3, h4, F, ⟨G, g1, g2, g3⟩, h6, h7, h8⟩
theorem st_ex {ι : Type} {q : ι → HP} (x : ι) (h : St w0 F0 (q x :: cs) w) : St w0 F0 (HP.ex q :: cs) w := st_imp h fun G hG => ⟨x, hG⟩
theorem st_pure {q : Prop} (h : St w0 F0 (HP.pure q :: cs) w) : q ∧ St w0 F0 cs w := by
  obtain ⟨G, _, hq⟩ := st_get (i := 0) h rfl
  exact ⟨hq, st_drop h⟩
theorem st_alloc (h : St w0 F0 cs w) (cells : List Value) (T : Nat) : St w0 F0 (blk w.heap.size cells T :: cs) (w.alloc (.cells cells.toArray T)) := by
  refine st_add h ((Below.refl _ _).alloc (Nat.le_refl _) _) ⟨Nat.le_refl _, ?_⟩
  show (w.heap.push _)[w.heap.size]? = _
  exact Array.getElem?_push_size
theorem st_nilrow {α : Type} (d : Kd α) (e : Nat) (h : St w0 F0 cs w) : St w0 F0 (row d e none 0 [] :: cs) w := st_free h (Kd.R_nil d e w 0 _)
theorem blk_cell {g : Nat} {cells : List Value} {T : Nat} (h : St w0 F0 cs w) (hi : cs[i]? = some (blk g cells T)) (j : Nat) : w.cell? ⟨g, j, none⟩ = cells[j]? := by
  obtain ⟨G, _, _, hg⟩ := st_get h hi
  simp [World.cell?, hg]
theorem blk_free {g : Nat} {cells : List Value} {T : Nat} (h : St w0 F0 cs w) (hi : cs[i]? = some (blk g cells T)) (j : Nat) : w.frozen? ⟨g, j, none⟩ = false := by
  obtain ⟨G, _, _, hg⟩ := st_get h hi
  simp [World.frozen?, hg]
theorem blk_lt {g : Nat} {cells : List Value} {T : Nat} (h : St w0 F0 cs w) (hi : cs[i]? = some (blk g cells T)) : g < w.heap.size := by
  obtain ⟨G, h1, h2, _⟩ := st_get h hi
  exact h1 g h2
theorem row_reads {α : Type} {d : Kd α} {e : Nat} {A : Option Addr} {cp : Nat} {L : List α} (h : St w0 F0 cs w) (hi : cs[i]? = some (row d e A cp L)) : L.length ≤ cp ∧ d.C w A L.length L := by
  obtain ⟨G, _, hr⟩ := st_get h hi
  exact (Kd.R_reads' hr).2
end
section
variable {P : Program} {ops : Array Oper} {Q : Exit → Act → World → Prop} {n : Nat} {f : List (Nat × Value)} {w w0 : World} {F0 : Nat → Prop} {cs : List HP} {i : Nat} {rest : List Oper} {d : Nat} {ty : TypeId} {ps : String} {af : Array Edge} {g : Option (Nat × Bool)}
theorem shape_one {t sz : Nat} (h : shapeOf P t = some (false, sz)) : (isAgg t).run P w = .ok false w ∧ (sizeOf t).run P w = .ok sz w := by
  unfold shapeOf at h
  split at h
  · simp at h
  · simp at h
  · rename_i u h1 h2 hu
    obtain ⟨i, hi, e⟩ := Option.map_eq_some_iff.1 h
    simp only [Prod.mk.injEq, true_and] at e
    subst e
    refine ⟨?_, run_sizeOf hi⟩
    simp only [isAgg, Sem.run_bind, run_underlying hu, Result.andThen]
    cases u <;> simp_all
  · cases h
theorem shape_agg {t sz : Nat} (h : shapeOf P t = some (true, sz)) : (isAgg t).run P w = .ok true w ∧ (sizeOf t).run P w = .ok sz w := by
  unfold shapeOf at h
  split at h
  · rename_i u hu
    obtain ⟨i, hi, e⟩ := Option.map_eq_some_iff.1 h
    simp only [Prod.mk.injEq, true_and] at e
    subst e
    exact ⟨by simp [isAgg, run_underlying hu, Result.andThen], run_sizeOf hi⟩
  · rename_i u hu
    obtain ⟨i, hi, e⟩ := Option.map_eq_some_iff.1 h
    simp only [Prod.mk.injEq, true_and] at e
    subst e
    exact ⟨by simp [isAgg, run_underlying hu, Result.andThen], run_sizeOf hi⟩
  · rename_i u hu h1 h2
    obtain ⟨i, hi, e⟩ := Option.map_eq_some_iff.1 h
    simp at e
  · cases h
theorem loadVar1 {t sz : Nat} {ad : Addr} {v : Value} (ht : shapeOf P t = some (false, sz)) (hc : w.cell? ad = some v) : (loadVar t ad).run P w = .ok v w := by
  simp [loadVar, (shape_one (w := w) ht).1, Result.andThen, hc]
theorem loadVarN {t : Nat} {ad : Addr} {vs : List Value} (ht : shapeOf P t = some (true, vs.length)) (hc : ∀ j v, vs[j]? = some v → w.cell? (ad.add j) = some v) : (loadVar t ad).run P w = .ok (.agg vs.toArray) w := by
  simp [loadVar, (shape_agg (w := w) ht).1, (shape_agg (w := w) ht).2, Result.andThen, run_loadCells_list w ad vs hc]
theorem ov_load1 {t sz : Nat} {x : Operand} (ad : Addr) (v : Value) (hx : ev f x = some (.pointer (some ad))) (ht : shapeOf P t = some (false, sz)) (hc : w.cell? ad = some v) : OV P n f w (.load t x) (v) := fun a fa dst ty ps af g => by simp [execOp, ev_eval fa hx, Instr.loadAt, Instr.sureAddr, loadVar1 ht hc, Result.andThen]
theorem ov_loadN {t : Nat} {x : Operand} (ad : Addr) (vs : List Value) (hx : ev f x = some (.pointer (some ad))) (ht : shapeOf P t = some (true, vs.length)) (hc : ∀ j v, vs[j]? = some v → w.cell? (ad.add j) = some v) : OV P n f w (.load t x) (.agg vs.toArray) := fun a fa dst ty ps af g => by simp [execOp, ev_eval fa hx, Instr.loadAt, Instr.sureAddr, loadVarN ht hc, Result.andThen]
/-- Cells of a block that is known. -/
theorem blk_cells {b : Nat} {cells : List Value} {T : Nat} (h : St w0 F0 cs w) (hi : cs[i]? = some (blk b cells T)) (off : Nat) (vs : List Value) (hv : (cells.drop off).take vs.length = vs) : ∀ j v, vs[j]? = some v → w.cell? ((⟨b, off, none⟩ : Addr).add j) = some v := by
  intro j v hj
  have e : (⟨b, off, none⟩ : Addr).add j = ⟨b, off + j, none⟩ := by
    unfold Addr.add
    split
    · rename_i h0; subst h0; rfl
    · rfl
  rw [e, blk_cell h hi]
  have hl : j < vs.length := by
    rcases Nat.lt_or_ge j vs.length with h | h
    · exact h
    · rw [List.getElem?_eq_none h] at hj; cases hj
  rw [← hv, List.getElem?_take, if_pos hl, List.getElem?_drop] at hj
  exact hj
theorem ov_loadb {t sz : Nat} {x : Operand} (i : Nat) {b : Nat} {cells : List Value} {T : Nat} {off : Nat} (v : Value) (h : St w0 F0 cs w) (hi : cs[i]? = some (blk b cells T)) (hx : ev f x = some (.pointer (some ⟨b, off, none⟩))) (ht : shapeOf P t = some (false, sz)) (hv : cells[off]? = some v) : OV P n f w (.load t x) (v) := ov_load1 ⟨b, off, none⟩ v hx ht (by rw [blk_cell h hi]; exact hv)
theorem ov_loadbN {t : Nat} {x : Operand} (i : Nat) {b : Nat} {cells : List Value} {T : Nat} {off : Nat} (vs : List Value) (h : St w0 F0 cs w) (hi : cs[i]? = some (blk b cells T)) (hx : ev f x = some (.pointer (some ⟨b, off, none⟩))) (ht : shapeOf P t = some (true, vs.length)) (hv : (cells.drop off).take vs.length = vs) : OV P n f w (.load t x) (.agg vs.toArray) := ov_loadN ⟨b, off, none⟩ vs hx ht (blk_cells h hi off vs hv)
/-- Cells put in place. -/
def putAt (cells vs : List Value) (off : Nat) : List Value := match vs with
  | [] => cells
  | v :: r => putAt (cells.set off v) r (off + 1)
theorem st_setCell {b : Nat} {cells : List Value} {T : Nat} (h : St w0 F0 cs w) (hi : cs[i]? = some (blk b cells T)) (off : Nat) (v : Value) : St w0 F0 (cs.set i (blk b (cells.set off v) T)) (w.setCell ⟨b, off, none⟩ v) := by
  obtain ⟨G, h1, ⟨h2, h3⟩, h4⟩ := st_upd h hi
  refine h4 _ _ ⟨rfl, rfl, rfl, by simp [World.setCell], fun k hk hn => Below.heap_setCell _ _ _ _ (fun e => hn (by rw [e]; exact h2))⟩ ⟨.inl h2, ?_⟩
  simp [World.setCell, Array.getElem?_modify, h3]
theorem run_storeCells {b : Nat} {T : Nat} : ∀ (vs : List Value) (cells : List Value) (cs : List HP) (w : World) (off j : Nat), St w0 F0 cs w → cs[i]? = some (blk b cells T) → off + j + vs.length ≤ cells.length → (∀ v ∈ vs, v.oneCell' = true) →
    ∃ w', (storeCells ⟨b, off, none⟩ vs j).run P w = .ok () w' ∧ St w0 F0 (cs.set i (blk b (putAt cells vs (off + j)) T)) w'
  | [], cells, cs, w, off, j, h, hi, _, _ => ⟨w, by simp [storeCells], by
      have e : cs.set i (blk b (putAt cells [] (off + j)) T) = cs := by
        apply List.ext_getElem?
        intro m
        rw [List.getElem?_set]
        split
        · rename_i e
          subst e
          have hlt : i < cs.length := by
            rcases Nat.lt_or_ge i cs.length with h | h
            · exact h
            · rw [List.getElem?_eq_none h] at hi; cases hi
          rw [if_pos hlt, hi]
          rfl
        · rfl
      rw [e]; exact h⟩
  | v :: r, cells, cs, w, off, j, h, hi, hl, ho => by
    have hlt : i < cs.length := by
      rcases Nat.lt_or_ge i cs.length with h | h
      · exact h
      · rw [List.getElem?_eq_none h] at hi; cases hi
    have e : (⟨b, off, none⟩ : Addr).add j = ⟨b, off + j, none⟩ := by
      unfold Addr.add
      split
      · rename_i h0; subst h0; rfl
      · rfl
    have hc : ∃ u, w.cell? ⟨b, off + j, none⟩ = some u := by
      rw [blk_cell h hi]
      simp only [List.length_cons] at hl
      exact ⟨_, List.getElem?_eq_getElem (by omega)⟩
    obtain ⟨u, hc⟩ := hc
    obtain ⟨w', h1, h2⟩ := run_storeCells r (cells.set (off + j) v) (cs.set i (blk b (cells.set (off + j) v) T)) (w.setCell ⟨b, off + j, none⟩ v) off (j + 1) (st_setCell h hi (off + j) v) (by rw [List.getElem?_set_self hlt]) (by simp only [List.length_set]; simp only [List.length_cons] at hl; omega)
      (fun x hx => ho x (List.mem_cons_of_mem _ hx))
    refine ⟨w', ?_, ?_⟩
    · have e2 : (store ⟨b, off + j, none⟩ v).run P w = .ok () (w.setCell ⟨b, off + j, none⟩ v) := by
        rw [run_store P w _ v .plain (ho v List.mem_cons_self), hc]
        simp only [blk_free h hi, Bool.false_eq_true, if_false]
      simp only [storeCells, Sem.run_bind, e, e2, Result.andThen, h1]
    · rw [List.set_set] at h2
      exact h2
theorem wl_storeb {t : Nat} {x y : Operand} (i : Nat) {b : Nat} {cells : List Value} {T : Nat} {off : Nat} (v : Value) (cells' : List Value) (h : St w0 F0 cs w) (hi : cs[i]? = some (blk b cells T)) (hw : gw ops f g = some true) (hx : ev f x = some (.pointer (some ⟨b, off, none⟩))) (hy : ev f y = some v) (hv : v.oneCell' = true) (hz : v.cells = #[v]) (ht : shapeOf P t = some (false, 1))
    (hl : Nat.blt off cells.length = true) (hc : cells.set off v = cells') (k : ∀ w', St w0 F0 (cs.set i (blk b cells' T)) w' → WL P ops Q n rest f w') : WL P ops Q n (⟨none, .store t x y, ty, ps, af, g⟩ :: rest) f w := by
  have hl' : off < cells.length := by simpa [Nat.blt_eq] using hl
  obtain ⟨w', h1, h2⟩ := run_storeCells (P := P) [v] cells cs w off 0 h hi (by simp only [List.length_cons, List.length_nil]; omega) (fun u hu => by rw [List.mem_singleton.1 hu]; exact hv)
  refine wl_unit w' hw (fun a fa => ?_) (k w' (by rw [← hc]; exact h2))
  have h3 : (storeVar t ⟨b, off, none⟩ v).run P w = .ok () w' := by
    simp only [storeVar, Sem.run_bind, (shape_one (w := w) ht).2, Result.andThen, hz]
    simpa using h1
  simp [execOp, ev_eval fa hx, ev_eval fa hy, Instr.storeAt, Instr.sureAddr, h3, Result.andThen]
theorem wl_storebN {t : Nat} {x y : Operand} (i : Nat) {b : Nat} {cells : List Value} {T : Nat} {off : Nat} (vs : List Value) (cells' : List Value) (h : St w0 F0 cs w) (hi : cs[i]? = some (blk b cells T)) (hw : gw ops f g = some true) (hx : ev f x = some (.pointer (some ⟨b, off, none⟩))) (hy : ev f y = some (.agg vs.toArray)) (hv : ∀ v ∈ vs, v.oneCell' = true) (ht : shapeOf P t = some (true, vs.length))
    (hl : Nat.ble (off + vs.length) cells.length = true) (hc : putAt cells vs off = cells') (k : ∀ w', St w0 F0 (cs.set i (blk b cells' T)) w' → WL P ops Q n rest f w') : WL P ops Q n (⟨none, .store t x y, ty, ps, af, g⟩ :: rest) f w := by
  have hl' := Nat.le_of_ble_eq_true hl
  obtain ⟨w', h1, h2⟩ := run_storeCells (P := P) vs cells cs w off 0 h hi (by simpa using hl') hv
  refine wl_unit w' hw (fun a fa => ?_) (k w' (by rw [← hc]; exact h2))
  have h3 : (storeVar t ⟨b, off, none⟩ (.agg vs.toArray)).run P w = .ok () w' := by
    simp only [storeVar, Sem.run_bind, (shape_agg (w := w) ht).2, Result.andThen, Value.cells]
    simpa using h1
  simp [execOp, ev_eval fa hx, ev_eval fa hy, Instr.storeAt, Instr.sureAddr, h3, Result.andThen]
theorem wl_alloc {t : Nat} (z : Value) (h : St w0 F0 cs w) (hw : gw ops f g = some true) (hn : Nat.blt d n = true) (hz : zeroOf P t = some z) (k : ∀ b w', St w0 F0 (blk b z.cells.toList t :: cs) w' → WL P ops Q n rest ((d, .pointer (some ⟨b, 0, none⟩)) :: f) w') : WL P ops Q n (⟨some d, .alloc t, ty, ps, af, g⟩ :: rest) f w :=
  wl_step (.pointer (some ⟨w.heap.size, 0, none⟩)) (w.alloc (.cells z.cells t)) hw hn (fun a fa => by
    simp only [execOp, Instr.alloc, Sem.run_bind, run_zeroV hz, Result.andThen, newVar, newRow, run_newObj, Sem.run_pure]
    rfl) (k _ _ (by have := st_alloc h z.cells.toList t; simpa using this))
theorem wl_box {t : Nat} {x : Operand} (v : Value) (h : St w0 F0 cs w) (hw : gw ops f g = some true) (hn : Nat.blt d n = true) (hx : ev f x = some v) (k : ∀ b w', St w0 F0 (blk b v.cells.toList t :: cs) w' → WL P ops Q n rest ((d, .pointer (some ⟨b, 0, none⟩)) :: f) w') : WL P ops Q n (⟨some d, .box t x, ty, ps, af, g⟩ :: rest) f w :=
  wl_step (.pointer (some ⟨w.heap.size, 0, none⟩)) (w.alloc (.cells v.cells t)) hw hn (fun a fa => by
    simp only [execOp, ev_eval fa hx, Instr.box, Sem.run_bind, Result.andThen, newVar, newRow, run_newObj, Sem.run_pure]
    rfl) (k _ _ (by have := st_alloc h v.cells.toList t; simpa using this))
end
end Go.Proofs.Ytmlkajmlhmfdgaa.Sx
