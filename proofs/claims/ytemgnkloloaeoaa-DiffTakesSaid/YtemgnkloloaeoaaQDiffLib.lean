/- Pruned by wip/prune.py. -/
import Derived.Test.YtemgnkloloaeoaaQSxGlue
import Derived.Test.YtemgnkloloaeoaaQPureLeast
import Derived.Test.YtemgnkloloaeoaaQWAll
namespace Go.Proofs.Ytemgnkloloaeoaa.Lib
open Go Go.RowKit Go.Proofs.YtemgnkloloaeoaaW.PrintWords Go.Proofs.Ytemgnkloloaeoaa.PAll
set_option linter.unusedVariables false
set_option linter.unusedSimpArgs false
open Sx
/-- What lies in some blocks, as long as these lie. -/
def lib (φ : World → Prop) : HP where
  p := fun w F => Foot φ w F
  mono := fun hF h => Foot.mono h hF
  bound := fun h => Foot.bound h
  move := fun hm h => Foot.step h (fun k hk _ => hm k hk)
section
variable {w0 w : World} {F0 : Nat → Prop} {cs : List HP} {i : Nat} {φ ψ : World → Prop}
theorem lib_now (h : St w0 F0 cs w) (hi : cs[i]? = some (lib φ)) : φ w := by
  obtain ⟨G, _, hg⟩ := st_get h hi
  exact Foot.now hg
theorem lib_imp (h : St w0 F0 (lib φ :: cs) w) (hi : ∀ w, φ w → ψ w) : St w0 F0 (lib ψ :: cs) w := st_imp h fun G hG => Foot.imp hG hi
theorem lib_and (h : St w0 F0 (lib φ :: lib ψ :: cs) w) : St w0 F0 (lib (fun w => φ w ∧ ψ w) :: cs) w :=
  st_imp (st_star h) fun G hG => by
    obtain ⟨G1, h1, h2, h3⟩ := hG
    intro W' hW
    exact ⟨h2 W' (fun k hk hl => hW k (h1 k hk) hl), h3 W' (fun k hk hl => hW k hk.1 hl)⟩
theorem lib_row {α : Type} {d : Kd α} {e c : Nat} {A : Option Addr} {L : List α} (h : St w0 F0 (row d e A c L :: cs) w) : St w0 F0 (lib (fun w => d.C w A L.length L) :: cs) w := st_imp h fun G hG => Kd.R_F hG
end
/-- A slice's header. -/
structure Hd where
  A : Option Addr
  n : Nat
  c : Nat
def kH : Kd Hd := Kd.scalar (fun h => .slice h.A h.n h.c) (fun _ => rfl)
theorem kH_flat : Flat kH := fun _ _ _ _ _ _ h => h
/-- A page and its lines' header; a line and its runs' header. -/
abbrev PG := S31 × Hd
abbrev LN := S39 × Hd
def kP : Kd PG := Kd.iso kH (fun p : PG => p.2)
def kL : Kd LN := Kd.iso (Kd.pair Kd.string (Kd.pair kH (Kd.pair (Kd.int .i64) (Kd.pair (Kd.int .i64) (Kd.pair (Kd.int .i64) (Kd.pair Kd.bool (Kd.pair (Kd.int .i64) (Kd.pair Kd.bool Kd.bool)))))))) (fun r : LN => (r.1.f0, r.2, r.1.f2, r.1.f3, r.1.f4, r.1.f5, r.1.f6, r.1.f7, r.1.f8))
def zP : PG := (z31, ⟨none, 0, 0⟩)
theorem flatP : Flat kP := flat_iso _ kH_flat
theorem flatL : Flat kL := flat_iso _ (flat_pair flat_string (flat_pair kH_flat (flat_pair (flat_int _) (flat_pair (flat_int _) (flat_pair (flat_int _) (flat_pair flat_bool (flat_pair (flat_int _) (flat_pair flat_bool flat_bool))))))))
theorem kP_open {w : World} {p : PG} {cs : List Value} (h : kP.K w p cs) : cs = [.slice p.2.A p.2.n p.2.c] := h
abbrev lcells (r : LN) : List Value := [.string r.1.f0, .slice r.2.A r.2.n r.2.c, .int .i64 r.1.f2, .int .i64 r.1.f3, .int .i64 r.1.f4, .bool r.1.f5, .int .i64 r.1.f6, .bool r.1.f7, .bool r.1.f8]
theorem kL_open {w : World} {r : LN} {cs : List Value} (h : kL.K w r cs) : cs = lcells r := by
  obtain ⟨_, _, rfl, rfl, ⟨_, _, rfl, rfl, ⟨_, _, rfl, rfl, ⟨_, _, rfl, rfl, ⟨_, _, rfl, rfl, ⟨_, _, rfl, rfl, ⟨_, _, rfl, rfl, ⟨_, _, rfl, rfl, rfl⟩⟩⟩⟩⟩⟩⟩⟩ := h
  rfl
theorem kL_mk (w : World) (r : LN) : kL.K w r (lcells r) :=
  ⟨[.string r.1.f0], [.slice r.2.A r.2.n r.2.c, .int .i64 r.1.f2, .int .i64 r.1.f3, .int .i64 r.1.f4, .bool r.1.f5, .int .i64 r.1.f6, .bool r.1.f7, .bool r.1.f8], rfl, rfl,
   [.slice r.2.A r.2.n r.2.c], [.int .i64 r.1.f2, .int .i64 r.1.f3, .int .i64 r.1.f4, .bool r.1.f5, .int .i64 r.1.f6, .bool r.1.f7, .bool r.1.f8], rfl, rfl,
   [.int .i64 r.1.f2], [.int .i64 r.1.f3, .int .i64 r.1.f4, .bool r.1.f5, .int .i64 r.1.f6, .bool r.1.f7, .bool r.1.f8], rfl, rfl,
   [.int .i64 r.1.f3], [.int .i64 r.1.f4, .bool r.1.f5, .int .i64 r.1.f6, .bool r.1.f7, .bool r.1.f8], rfl, rfl,
   [.int .i64 r.1.f4], [.bool r.1.f5, .int .i64 r.1.f6, .bool r.1.f7, .bool r.1.f8], rfl, rfl,
   [.bool r.1.f5], [.int .i64 r.1.f6, .bool r.1.f7, .bool r.1.f8], rfl, rfl,
   [.int .i64 r.1.f6], [.bool r.1.f7, .bool r.1.f8], rfl, rfl, [.bool r.1.f7], [.bool r.1.f8], rfl, rfl, rfl⟩
/-- What the headers lead to. -/
def GP (w : World) (p : PG) : Prop := p.2.n = p.1.f0.length ∧ p.1.f0.length ≤ p.2.c ∧ k39.C w p.2.A p.1.f0.length p.1.f0
def GL (w : World) (r : LN) : Prop := r.2.n = r.1.f1.length ∧ r.1.f1.length ≤ r.2.c ∧ k57.C w r.2.A r.1.f1.length r.1.f1
def AllP (Ps : List PG) (w : World) : Prop := ∀ p ∈ Ps, GP w p
def AllL (Rs : List LN) (w : World) : Prop := ∀ r ∈ Rs, GL w r
/-- Read as what they are. -/
theorem up_gen {α β : Type} {d : Kd α} {d' : Kd β} {g : β → α} {w : World} {A : Option Addr} {n : Nat} {Ps : List β} (hsz : d'.sz = d.sz) (h : d'.C w A n Ps) (hK : ∀ p c, p ∈ Ps → d'.K w p c → d.K w (g p) c) : d.C w A n (Ps.map g) := by
  obtain ⟨h1, h2, h3⟩ := h
  refine ⟨by rw [List.length_map]; exact h1, h2, fun hn => ?_⟩
  obtain ⟨ad, rfl, hc⟩ := h3 hn
  refine ⟨ad, rfl, fun j q hj => ?_⟩
  rw [List.getElem?_map] at hj
  obtain ⟨p, hp, rfl⟩ := Option.map_eq_some_iff.1 hj
  obtain ⟨c, c1, c2, c3⟩ := hc j p hp
  exact ⟨c, by rw [c1, hsz], hK p c (List.mem_of_getElem? hp) c2, fun i u hi => by rw [← hsz]; exact c3 i u hi⟩
theorem gp_K {w : World} {p : PG} {c : List Value} (h : GP w p) (hk : kP.K w p c) : k31.K w p.1 c := by
  obtain rfl := kP_open hk
  obtain ⟨h1, h2, h3⟩ := h
  rw [h1]
  exact k31_mk w p.1 h2 h3
theorem gl_K {w : World} {r : LN} {c : List Value} (h : GL w r) (hk : kL.K w r c) : k39.K w r.1 c := by
  obtain rfl := kL_open hk
  obtain ⟨h1, h2, h3⟩ := h
  unfold lcells
  rw [h1]
  exact k39_mk w r.1 h2 h3
theorem up_P {w : World} {A : Option Addr} {n : Nat} {Ps : List PG} (h : kP.C w A n Ps) (hg : AllP Ps w) : k31.C w A n (Ps.map (·.1)) := up_gen rfl h fun p c hp hk => gp_K (hg p hp) hk
theorem up_L {w : World} {A : Option Addr} {n : Nat} {Rs : List LN} (h : kL.C w A n Rs) (hg : AllL Rs w) : k39.C w A n (Rs.map (·.1)) := up_gen rfl h fun p c hp hk => gl_K (hg p hp) hk
/-- One list for many choices. -/
theorem choose_list {α β : Type} (g : β → α) (Q : Nat → β → Prop) : ∀ (X : List α) (s : Nat), (∀ j x, X[j]? = some x → ∃ r : β, g r = x ∧ Q (s + j) r) → ∃ Rs : List β, Rs.map g = X ∧ ∀ j r, Rs[j]? = some r → Q (s + j) r
  | [], s, _ => ⟨[], rfl, fun j r h => by simp at h⟩
  | x :: X, s, h => by
    obtain ⟨r, hr, hQ⟩ := h 0 x rfl
    obtain ⟨Rs, h1, h2⟩ := choose_list g Q X (s + 1) (fun j y hy => by have := h (j + 1) y (by simpa using hy); rwa [show s + (j + 1) = s + 1 + j by omega] at this)
    refine ⟨r :: Rs, by simp [hr, h1], fun j q hj => ?_⟩
    cases j with
    | zero => simp at hj; subst hj; exact hQ
    | succ j => have := h2 j q (by simpa using hj); rwa [show s + 1 + j = s + (j + 1) by omega] at this
/-- A row that is read, element by element, with what its headers lead to. -/
theorem down_gen {α β : Type} {d : Kd α} {d' : Kd β} {g : β → α} {G : World → β → Prop} {w : World} {ok : Nat → Prop} {A : Option Addr} {n : Nat} {X : List α} (fl : Flat d') (hs0 : 0 < d.sz) (hsz : d'.sz = d.sz)
    (hel : ∀ x c, Kd.FK d w ok x c → ∃ r : β, g r = x ∧ d'.K w r c ∧ Foot (fun w => G w r) w ok) (h : Kd.F d w ok A n X) : ∃ Rs : List β, Rs.map g = X ∧ Foot (fun w => d'.C w A n Rs) w ok ∧ Foot (fun w => ∀ r ∈ Rs, G w r) w ok := by
  obtain ⟨h1, h2, h3⟩ := Kd.F_rows h
  by_cases hn : 0 < n
  · obtain ⟨ad, rfl, hc⟩ := h3 hn
    obtain ⟨Rs, r1, r2⟩ := choose_list g (fun j r => ∃ c, c.length = d.sz ∧ d'.K w r c ∧ Foot (fun w => G w r) w ok ∧ ∀ i u, c[i]? = some u → w.cell? (ad.add (j * d.sz + i)) = some u) X 0 (fun j x hj => by
      obtain ⟨c, c1, c2, c3⟩ := hc j x hj
      obtain ⟨r, e1, e2, e3⟩ := hel x c c2
      exact ⟨r, e1, c, c1, e2, e3, fun i u hi => by rw [Nat.zero_add]; exact c3 i u hi⟩)
    obtain ⟨_, x0⟩ : ∃ x0 : α, True := by
      cases X with
      | nil => simp at h1; omega
      | cons x _ => exact ⟨x, trivial⟩
    have hin : ok ad.block := by
      cases hX : X with
      | nil => rw [hX] at h1; simp at h1; omega
      | cons z _ =>
        obtain ⟨ad', _, he, _, _, _, hb⟩ := Kd.F_get h z 0 (by omega) (by omega)
        injection he with he
        subst he
        exact hb hs0
    have hbl : ∀ W' : World, (∀ k, ok k → k < w.heap.size → W'.heap[k]? = w.heap[k]?) → ∀ m u, w.cell? (ad.add m) = some u → W'.cell? (ad.add m) = some u := fun W' hW m u hu => by
      have h6 := World.block_lt_of_cell? w _ hu
      rw [add_block] at h6
      have hb := hW _ hin h6
      have : W'.cell? (ad.add m) = w.cell? (ad.add m) := by simp [World.cell?, add_block, hb]
      rw [this, hu]
    refine ⟨Rs, r1, fun W' hW => ⟨by rw [← h1, ← r1, List.length_map], h2, fun _ => ⟨ad, rfl, fun j p hj => ?_⟩⟩, fun W' hW r hr => ?_⟩
    · obtain ⟨c, c1, c2, _, c4⟩ := r2 j p hj
      rw [Nat.zero_add] at c4
      exact ⟨c, by rw [c1, hsz], flat_stay fl c2, fun i u hi => by rw [hsz]; exact hbl W' hW _ _ (c4 i u hi)⟩
    · obtain ⟨j, hj⟩ := List.getElem?_of_mem hr
      obtain ⟨c, _, _, c3, _⟩ := r2 j r hj
      exact c3 W' hW
  · have hX : X = [] := List.length_eq_zero_iff.1 (by omega)
    subst hX
    exact ⟨[], rfl, fun _ _ => ⟨by simpa using h1, h2, fun h => absurd h hn⟩, fun _ _ r hr => by cases hr⟩
theorem el_P (w : World) (ok : Nat → Prop) (x : S31) (c : List Value) (h : Kd.FK k31 w ok x c) : ∃ r : PG, r.1 = x ∧ kP.K w r c ∧ Foot (fun w => GP w r) w ok := by
  obtain ⟨A0, c0, rfl, l0, f0⟩ := k31_openF h
  exact ⟨(x, ⟨A0, x.f0.length, c0⟩), rfl, rfl, fun W' hW => ⟨rfl, l0, f0 W' hW⟩⟩
theorem el_L (w : World) (ok : Nat → Prop) (x : S39) (c : List Value) (h : Kd.FK k39 w ok x c) : ∃ r : LN, r.1 = x ∧ kL.K w r c ∧ Foot (fun w => GL w r) w ok := by
  obtain ⟨A0, c0, rfl, l0, f0⟩ := k39_openF h
  exact ⟨(x, ⟨A0, x.f1.length, c0⟩), rfl, kL_mk w (x, ⟨A0, x.f1.length, c0⟩), fun W' hW => ⟨rfl, l0, f0 W' hW⟩⟩
theorem down_L {w : World} {ok : Nat → Prop} {A : Option Addr} {n : Nat} {X : List S39} (h : Kd.F k39 w ok A n X) : ∃ Rs : List LN, Rs.map (·.1) = X ∧ Foot (fun w => kL.C w A n Rs) w ok ∧ Foot (AllL Rs) w ok := down_gen flatL (by decide) rfl (el_L w ok) h
/-- A row of the call's own. -/
theorem split_gen {α β : Type} {d : Kd α} {d' : Kd β} {g : β → α} {G : World → β → Prop} {e : Nat} {w : World} {base : Nat} {ok : Nat → Prop} {A : Option Addr} {c : Nat} {X : List α} (fl : Flat d') (hsz : d'.sz = d.sz)
    (hel : ∀ ok x c, Kd.FK d w ok x c → ∃ r : β, g r = x ∧ d'.K w r c ∧ Foot (fun w => G w r) w ok) (h : d.R e w base ok (.slice A X.length c) X) :
    ∃ Rs : List β, Rs.map g = X ∧ d'.R e w base (fun k => some k = (Value.slice A X.length c).ownBlock) (.slice A Rs.length c) Rs ∧ Foot (fun w => ∀ r ∈ Rs, G w r) w (fun k => ok k ∧ some k ≠ (Value.slice A X.length c).ownBlock) := by
  obtain ⟨h0, inner, ho, hr⟩ := h
  obtain ⟨Rs, r1, r2⟩ := choose_list g (fun j r => d'.K w r ((inner.drop (j * d.sz)).take d.sz) ∧ Foot (fun w => G w r) w (fun k => ok k ∧ some k ≠ (Value.slice A X.length c).ownBlock)) X 0 (fun j x hj => by
    obtain ⟨r, e1, e2, e3⟩ := hel _ x _ (Kd.FK_of_M (hr.2 j x hj))
    exact ⟨r, e1, by rw [Nat.zero_add]; exact e2, e3⟩)
  have hl : Rs.length = X.length := by rw [← r1, List.length_map]
  refine ⟨Rs, r1, ?_, fun W' hW r hr' => ?_⟩
  · rw [hl]
    refine ⟨fun k hk => hk.symm, inner, by rw [hl, hsz]; exact ho, by rw [hl, hsz]; exact hr.1, fun j p hj => ?_⟩
    have := (r2 j p hj).1
    rw [Nat.zero_add] at this
    rw [hsz]
    exact fl _ _ _ _ _ _ this
  · obtain ⟨j, hj⟩ := List.getElem?_of_mem hr'
    exact (r2 j r hj).2 W' hW
theorem st_split {α β : Type} {d : Kd α} {d' : Kd β} {g : β → α} {G : World → β → Prop} {e : Nat} {w0 w w1 : World} {F0 : Nat → Prop} {cs : List HP} {v : Value} {X : List α} (fl : Flat d') (hsz : d'.sz = d.sz)
    (hel : ∀ (w : World) ok x c, Kd.FK d w ok x c → ∃ r : β, g r = x ∧ d'.K w r c ∧ Foot (fun w => G w r) w ok) (h : St w0 F0 cs w) (hb : Below w.heap.size w w1) (hR : d.R e w1 w.heap.size (fun _ => True) v X) :
    ∃ A c Rs, v = .slice A Rs.length c ∧ Rs.map g = X ∧ St w0 F0 (row d' e A c Rs :: lib (fun w => ∀ r ∈ Rs, G w r) :: cs) w1 := by
  obtain ⟨A, c, rfl, _⟩ := Kd.R_reads hR
  have hR2 := Kd.R_bound hR
  obtain ⟨Rs, h1, h2, h3⟩ := split_gen fl hsz (hel w1) hR2
  refine ⟨A, c, Rs, by rw [← h1, List.length_map], h1, st_unstar (st_add h hb ?_)⟩
  have hbase : ∀ k, some k = (Value.slice A X.length c).ownBlock → w.heap.size ≤ k := fun k hk => (hR2.1 k hk.symm).2.1
  exact ⟨_, fun k hk => hbase k hk, Kd.R_lower h2 (Nat.zero_le _), Foot.mono h3 (fun k hk => ⟨hk.1.2.1, hk.2⟩)⟩
theorem kP_openM {w : World} {base : Nat} {ok : Nat → Prop} {p : PG} {cs : List Value} (h : kP.M w base ok p cs) : cs = [.slice p.2.A p.2.n p.2.c] := h
theorem kP_mkM (w : World) (base : Nat) (ok : Nat → Prop) (p : PG) : kP.M w base ok p [.slice p.2.A p.2.n p.2.c] := rfl
theorem C_pre {α : Type} {d : Kd α} {w : World} {A : Option Addr} {L : List α} {n : Nat} (h : d.C w A L.length L) (hn : n ≤ L.length) : d.C w A n (L.take n) := by
  obtain ⟨h1, h2, h3⟩ := h
  refine ⟨by rw [List.length_take]; omega, by omega, fun hp => ?_⟩
  obtain ⟨ad, rfl, hc⟩ := h3 (by omega)
  refine ⟨ad, rfl, fun j p hj => ?_⟩
  rw [List.getElem?_take] at hj
  split at hj
  · exact hc j p hj
  · cases hj
section
variable {w0 w : World} {F0 : Nat → Prop} {cs : List HP} {φ φ1 φ2 : World → Prop}
/-- The lines that a header leads to, as they lie. -/
theorem lib_lines {A : Option Addr} {n : Nat} {X : List S39} (h : St w0 F0 (lib φ :: cs) w) (hφ : ∀ w, φ w → k39.C w A n X) : ∃ Rs : List LN, Rs.map (·.1) = X ∧ St w0 F0 (lib (fun w => φ w ∧ kL.C w A n Rs ∧ AllL Rs w) :: cs) w := by
  have h2 : St w0 F0 (HP.ex (fun Rs : List LN => (HP.pure (Rs.map (·.1) = X)).star (lib (fun w => φ w ∧ kL.C w A n Rs ∧ AllL Rs w))) :: cs) w := st_imp h fun G hG => by
    obtain ⟨Rs, r1, r2, r3⟩ := down_L (ok := G) (Foot.imp hG hφ)
    exact ⟨Rs, fun _ => False, fun _ hk => hk.elim, r1, fun W' hW => ⟨hG W' fun k hk hl => hW k ⟨hk, id⟩ hl, r2 W' fun k hk hl => hW k ⟨hk, id⟩ hl, r3 W' fun k hk hl => hW k ⟨hk, id⟩ hl⟩⟩
  obtain ⟨Rs, h3⟩ := st_unex h2
  obtain ⟨h4, h5⟩ := st_pure (st_unstar h3)
  exact ⟨Rs, h4, h5⟩
theorem gp_new {w : World} {B : Option Addr} {c : Nat} {Ln : List LN} (hc : Ln.length ≤ c) (h1 : kL.C w B Ln.length Ln) (h2 : AllL Ln w) : GP w (⟨Ln.map (·.1)⟩, ⟨B, Ln.length, c⟩) := by
  have h3 := up_L h1 h2
  refine ⟨by simp, by simpa using hc, ?_⟩
  show k39.C w B (Ln.map (·.1)).length (Ln.map (·.1))
  rw [List.length_map]
  exact h3
theorem close_changed {B : Option Addr} {c p : Nat} {Ln : List LN} {Ps : List PG} (h : St w0 F0 (row kL 39 B c Ln :: lib φ1 :: lib φ2 :: cs) w) (h1 : ∀ w, φ1 w → AllP Ps w) (h2 : ∀ w, φ1 w → φ2 w → AllL Ln w) :
    St w0 F0 (lib (AllP (Ps.set p (⟨Ln.map (·.1)⟩, ⟨B, Ln.length, c⟩))) :: cs) w := by
  have hc := (row_reads (i := 0) h rfl).1
  refine lib_imp (lib_and (lib_and (lib_row h))) fun w hw q hq => ?_
  obtain ⟨⟨d, a⟩, b⟩ := hw
  rcases List.mem_or_eq_of_mem_set hq with hq | rfl
  · exact h1 w a q hq
  · exact gp_new hc d (h2 w a b)
theorem close_added {B : Option Addr} {c : Nat} {Ln : List LN} {Ps : List PG} (h : St w0 F0 (row kL 39 B c Ln :: lib φ1 :: lib φ2 :: cs) w) (h1 : ∀ w, φ1 w → AllP Ps w) (h2 : ∀ w, φ2 w → AllL Ln w) :
    St w0 F0 (lib (AllP (Ps ++ [(⟨Ln.map (·.1)⟩, ⟨B, Ln.length, c⟩)])) :: cs) w := by
  have hc := (row_reads (i := 0) h rfl).1
  refine lib_imp (lib_and (lib_and (lib_row h))) fun w hw q hq => ?_
  obtain ⟨⟨d, a⟩, b⟩ := hw
  rcases List.mem_append.1 hq with hq | hq
  · exact h1 w a q hq
  · rw [List.mem_singleton.1 hq]
    exact gp_new hc d (h2 w b)
end
end Go.Proofs.Ytemgnkloloaeoaa.Lib
