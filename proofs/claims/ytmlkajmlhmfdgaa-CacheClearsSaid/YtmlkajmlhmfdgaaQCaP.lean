/- Pruned by wip/prune.py. -/
import Derived.Test.YtmlkajmlhmfdgaaQCaLru
import Derived.Test.YtmlkajmlhmfdgaaQWAll
namespace Go.Proofs.Ytmlkajmlhmfdgaa.Ca
open Go Go.RowKit Go.Proofs.YtmlkajmlhmfdgaaW.PrintWords Go.Proofs.Ytmlkajmlhmfdgaa.Kinds Go.Proofs.Ytmlkajmlhmfdgaa.Runs Go.Proofs.Ytmlkajmlhmfdgaa.Sx
set_option linter.unusedVariables false
set_option linter.unusedSimpArgs false
structure Dat (V : Type) where
  key : KV
  h : Hdr
  hash : Int
  val : V
def enK {V : Type} (T : Nat) (E : V → Value) : EnK (Dat V) :=
  ⟨T, fun d l e => [.string d.key.f0, .slice d.h.A d.key.f1.length d.h.c, .int .i64 d.key.f2, .int .i64 d.key.f3, .int .i64 d.key.f4.f0, .int .i64 d.key.f4.f1, .int .i64 d.key.f4.f2, .int .i64 d.key.f4.f3, .int .i64 d.key.f4.f4, .int .i64 d.key.f4.f5, .int .i64 d.key.f4.f6, .int .u64 d.hash, E d.val, .pointer (pa l), .pointer (pa e)]⟩
abbrev KU : KeyK Int := keyInt .u64
abbrev EH : Hdr → Value := fun h => Value.slice h.A h.n h.c
def RA (HL : List (Hdr × List Rn)) (w : World) : Prop := ∀ p ∈ HL, p.1.n = p.2.length ∧ k50.C w p.1.A p.1.n p.2
def rlib (HL : List (Hdr × List Rn)) : HP where
  p := fun w F => Foot (RA HL) w F
  mono := fun hF h => Foot.mono h hF
  bound := fun h => Foot.bound h
  move := fun hm h => Foot.step h (fun k hk _ => hm k hk)
section
variable {w0 w : World} {F0 : Nat → Prop} {cs : List HP} {i : Nat} {HL : List (Hdr × List Rn)}
theorem rlib_now (h : St w0 F0 cs w) (hi : cs[i]? = some (rlib HL)) : RA HL w := by
  obtain ⟨G, _, hg⟩ := st_get h hi
  exact Foot.now hg
theorem rlib_nil (h : St w0 F0 cs w) : St w0 F0 (rlib [] :: cs) w := st_free h fun W' _ p hp => by cases hp
theorem rlib_add {e c : Nat} {A : Option Addr} {L : List Rn} (h : St w0 F0 (row k50 e A c L :: rlib HL :: cs) w) : St w0 F0 (rlib ((⟨A, L.length, c⟩, L) :: HL) :: cs) w :=
  st_imp (st_star h) fun G hG => by
    obtain ⟨G1, h1, h2, h3⟩ := hG
    have h4 := Kd.R_F h2
    intro W' hW p hp
    rcases List.mem_cons.1 hp with rfl | hp
    · exact ⟨rfl, h4 W' (fun k hk hl => hW k (h1 k hk) hl)⟩
    · exact h3 W' (fun k hk hl => hW k hk.1 hl) p hp
end
structure CI (V : Type) where
  gm : Nat
  BM : List (Int × Hdr)
  B : List Bk
  L : List (Nat × Dat V)
  δ : Nat → Option (Dat V)
  lt : Nat → Option Nat
  er : Nat → Option Nat
  HL : List (Hdr × List Rn)
section
variable {V : Type}
abbrev adL (L : List (Nat × Dat V)) : List Nat := L.map (·.1)
abbrev ML (L : List (Nat × Dat V)) : LM V := L.map fun p => (p.2.key, p.2.val)
def adr (L : List (Nat × Dat V)) (h : Int) : List Nat := (L.filter fun p => decide (p.2.hash = h)).map (·.1)
def IB (BM : List (Int × Hdr)) (B : List Bk) (L : List (Nat × Dat V)) : Prop :=
  (BM.map (·.1)).Nodup ∧ (∀ h, lk BM h = none → adr L h = []) ∧ (∀ h x, lk BM h = some x → ∃ b ∈ B, b.h = h ∧ x = ⟨b.A, b.l.length, b.c⟩ ∧ b.l.Perm (adr L h))
structure Inv (I : CI V) : Prop where
  nd : (adL I.L).Nodup
  dat : ∀ p ∈ I.L, I.δ p.1 = some p.2
  hsh : ∀ p ∈ I.L, p.2.hash = hashK p.2.key
  hdr : ∀ p ∈ I.L, (p.2.h, p.2.key.f1) ∈ I.HL
  sm : ∀ p ∈ I.L, SmallK p.2.key
  seg : Seg I.lt I.er none (adL I.L) none
  bk : IB I.BM I.B I.L
  ul : Unlike (ML I.L)
theorem adr_perm {L L' : List (Nat × Dat V)} (h : L.Perm L') (x : Int) : (adr L x).Perm (adr L' x) := (h.filter _).map _
theorem adr_len (L : List (Nat × Dat V)) (x : Int) : (adr L x).length ≤ L.length := by unfold adr; rw [List.length_map]; exact List.length_filter_le _ _
theorem mem_adr {L : List (Nat × Dat V)} {x : Int} {g : Nat} : g ∈ adr L x ↔ ∃ d, (g, d) ∈ L ∧ d.hash = x := by
  unfold adr
  rw [List.mem_map]
  constructor
  · rintro ⟨⟨a, d⟩, h, rfl⟩
    rw [List.mem_filter] at h
    exact ⟨d, h.1, of_decide_eq_true h.2⟩
  · rintro ⟨d, h1, h2⟩
    exact ⟨(g, d), List.mem_filter.2 ⟨h1, decide_eq_true h2⟩, rfl⟩
theorem ib_perm {BM : List (Int × Hdr)} {B : List Bk} {L L' : List (Nat × Dat V)} (hp : L.Perm L') (h : IB BM B L) : IB BM B L' := by
  obtain ⟨h1, h2, h3⟩ := h
  refine ⟨h1, fun x hx => ?_, fun x y hx => ?_⟩
  · have := adr_perm hp x
    rw [h2 x hx] at this
    exact List.nil_perm.1 this
  · obtain ⟨b, b1, b2, b3, b4⟩ := h3 x y hx
    exact ⟨b, b1, b2, b3, b4.trans (adr_perm hp x)⟩
theorem ib_same {BM : List (Int × Hdr)} {B : List Bk} {L L' : List (Nat × Dat V)} (hp : ∀ x, adr L' x = adr L x) (h : IB BM B L) : IB BM B L' := by
  obtain ⟨h1, h2, h3⟩ := h
  exact ⟨h1, fun x hx => by rw [hp]; exact h2 x hx, fun x y hx => by rw [hp]; exact h3 x y hx⟩
/-- The row of a number. -/
theorem bucket_of {BM : List (Int × Hdr)} {B : List Bk} {L : List (Nat × Dat V)} (h : IB BM B L) (x : Int) : ∃ bl : List Nat, ((lk BM x).getD ⟨none, 0, 0⟩).n = bl.length ∧ bl.Perm (adr L x) ∧
    (∀ w : World, (∀ b ∈ B, b.l.length ≤ b.c ∧ kPtr.C w b.A b.l.length b.l) → kPtr.C w ((lk BM x).getD ⟨none, 0, 0⟩).A bl.length bl) ∧ ((lk BM x = none ∧ bl = []) ∨ ∃ b ∈ B, b.h = x ∧ bl = b.l ∧ lk BM x = some ⟨b.A, b.l.length, b.c⟩) := by
  cases hx : lk BM x with
  | none =>
    refine ⟨[], rfl, ?_, fun w hw => Kd.C_nil _ _, .inl ⟨rfl, rfl⟩⟩
    rw [h.2.1 x hx]
  | some y =>
    obtain ⟨b, b1, b2, rfl, b4⟩ := h.2.2 x y hx
    exact ⟨b.l, rfl, b4, fun w hw => (hw b b1).2, .inr ⟨b, b1, b2, rfl, rfl⟩⟩
/-- An entry more. -/
theorem ib_new {BM : List (Int × Hdr)} {B B0 : List Bk} {L : List (Nat × Dat V)} {g : Nat} {d : Dat V} {l : List Nat} {A' : Option Addr} {n' c' : Nat} (h : IB BM B L) (hB : ∀ x ∈ B, x.h = d.hash ∨ x ∈ B0) (hl : l.Perm (adr L d.hash)) (hn : n' = (l ++ [g]).length) :
    IB (upd BM d.hash ⟨A', n', c'⟩) (⟨d.hash, A', c', l ++ [g]⟩ :: B0) ((g, d) :: L) := by
  subst hn
  obtain ⟨h1, h2, h3⟩ := h
  have ha : ∀ x, adr ((g, d) :: L) x = if d.hash = x then g :: adr L x else adr L x := fun x => by
    unfold adr
    by_cases c : d.hash = x
    · rw [if_pos c, List.filter_cons_of_pos (by simpa using c)]; rfl
    · rw [if_neg c, List.filter_cons_of_neg (by simpa using c)]
  refine ⟨upd_nodup h1 _ _, fun x hx => ?_, fun x y hx => ?_⟩
  · rw [lk_upd] at hx
    by_cases c : x = d.hash
    · rw [if_pos c] at hx; cases hx
    · rw [if_neg c] at hx
      rw [ha, if_neg (fun e => c e.symm)]
      exact h2 x hx
  · rw [lk_upd] at hx
    by_cases c : x = d.hash
    · rw [if_pos c] at hx
      injection hx with hx
      refine ⟨_, List.mem_cons_self, c.symm, hx.symm, ?_⟩
      rw [ha, if_pos c.symm, c]
      exact (List.perm_append_singleton g l).trans (hl.cons g)
    · rw [if_neg c] at hx
      obtain ⟨b, b1, b2, b3, b4⟩ := h3 x y hx
      refine ⟨b, List.mem_cons_of_mem _ ((hB b b1).resolve_left (fun e => c (b2.symm.trans e))), b2, b3, ?_⟩
      rw [ha, if_neg (fun e => c e.symm)]
      exact b4
theorem adr_drop {L1 L2 : List (Nat × Dat V)} {g : Nat} {d : Dat V} (hn : (adL (L1 ++ (g, d) :: L2)).Nodup) (x : Int) : adr (L1 ++ L2) x = (adr (L1 ++ (g, d) :: L2) x).filter (fun y => decide (y ≠ g)) := by
  rw [show adL (L1 ++ (g, d) :: L2) = adL L1 ++ g :: adL L2 by simp [adL]] at hn
  rw [List.nodup_append, List.nodup_cons] at hn
  obtain ⟨n1, ⟨n2, n3⟩, n4⟩ := hn
  have d1 : ∀ y ∈ adL L1, y ≠ g := fun y hy => n4 y hy g List.mem_cons_self
  have d2 : ∀ y ∈ adL L2, y ≠ g := fun y hy e => n2 (e ▸ hy)
  have key : ∀ (K : List (Nat × Dat V)), (∀ y ∈ adL K, y ≠ g) → (adr K x).filter (fun y => decide (y ≠ g)) = adr K x := fun K hK => by
    rw [List.filter_eq_self]
    intro y hy
    refine decide_eq_true (hK y ?_)
    obtain ⟨d', h1, _⟩ := mem_adr.1 hy
    exact List.mem_map.2 ⟨_, h1, rfl⟩
  have e1 : ∀ K K' : List (Nat × Dat V), adr (K ++ K') x = adr K x ++ adr K' x := fun K K' => by unfold adr; rw [List.filter_append, List.map_append]
  rw [e1, e1, List.filter_append, key L1 d1]
  congr 1
  unfold adr
  by_cases c : d.hash = x
  · rw [List.filter_cons_of_pos (l := L2) (by simpa using c), List.map_cons, List.filter_cons_of_neg (by simp)]
    exact (key L2 d2).symm
  · rw [List.filter_cons_of_neg (l := L2) (by simpa using c)]
    exact (key L2 d2).symm
theorem adr_other {L1 L2 : List (Nat × Dat V)} {g : Nat} {d : Dat V} {x : Int} (h : d.hash ≠ x) : adr (L1 ++ (g, d) :: L2) x = adr (L1 ++ L2) x := by
  unfold adr
  rw [List.filter_append, List.filter_cons_of_neg (by simpa using h), ← List.filter_append]
/-- An entry less: its number has no other. -/
theorem ib_del {BM : List (Int × Hdr)} {B : List Bk} {L1 L2 : List (Nat × Dat V)} {g : Nat} {d : Dat V} (h : IB BM B (L1 ++ (g, d) :: L2)) (h0 : adr (L1 ++ L2) d.hash = []) : IB (del BM d.hash) B (L1 ++ L2) := by
  obtain ⟨h1, h2, h3⟩ := h
  refine ⟨del_nodup h1 _, fun x hx => ?_, fun x y hx => ?_⟩
  · rw [lk_del h1] at hx
    by_cases c : x = d.hash
    · rw [c]; exact h0
    · rw [if_neg c] at hx
      rw [← adr_other (g := g) (fun e => c e.symm)]
      exact h2 x hx
  · rw [lk_del h1] at hx
    by_cases c : x = d.hash
    · rw [if_pos c] at hx; cases hx
    · rw [if_neg c] at hx
      rw [← adr_other (g := g) (fun e => c e.symm)]
      exact h3 x y hx
theorem ib_rest {BM : List (Int × Hdr)} {B : List Bk} {L1 L2 : List (Nat × Dat V)} {g : Nat} {d : Dat V} {r : List Nat} {A' : Option Addr} {n' c' : Nat} (h : IB BM B (L1 ++ (g, d) :: L2)) (hr : r.Perm (adr (L1 ++ L2) d.hash)) (hn : n' = r.length) :
    IB (upd BM d.hash ⟨A', n', c'⟩) (⟨d.hash, A', c', r⟩ :: B) (L1 ++ L2) := by
  subst hn
  obtain ⟨h1, h2, h3⟩ := h
  refine ⟨upd_nodup h1 _ _, fun x hx => ?_, fun x y hx => ?_⟩
  · rw [lk_upd] at hx
    by_cases c : x = d.hash
    · rw [if_pos c] at hx; cases hx
    · rw [if_neg c] at hx
      rw [← adr_other (g := g) (fun e => c e.symm)]
      exact h2 x hx
  · rw [lk_upd] at hx
    by_cases c : x = d.hash
    · rw [if_pos c] at hx
      injection hx with hx
      rw [c]
      exact ⟨_, List.mem_cons_self, rfl, hx.symm, hr⟩
    · rw [if_neg c] at hx
      obtain ⟨b, b1, b2, b3, b4⟩ := h3 x y hx
      refine ⟨b, List.mem_cons_of_mem _ b1, b2, b3, ?_⟩
      rw [← adr_other (g := g) (fun e => c e.symm)]
      exact b4
theorem adL_mid (L1 L2 : List (Nat × Dat V)) (g : Nat) (d : Dat V) : adL (L1 ++ (g, d) :: L2) = adL L1 ++ g :: adL L2 := by simp [adL]
theorem ML_mid (L1 L2 : List (Nat × Dat V)) (g : Nat) (d : Dat V) : ML (L1 ++ (g, d) :: L2) = ML L1 ++ (d.key, d.val) :: ML L2 := by simp [ML]
section
variable {I : CI V} {L1 L2 : List (Nat × Dat V)} {g : Nat} {d : Dat V}
theorem inv_links (h : Inv I) (hL : I.L = L1 ++ (g, d) :: L2) : I.lt g = (adL L1).getLast? ∧ I.er g = (adL L2).head? := by
  have hs := h.seg
  rw [hL, adL_mid] at hs
  exact seg_at hs
theorem link_mem (h : Inv I) {x : Nat} (hx : x ∈ adL I.L) : ∃ d', (x, d') ∈ I.L ∧ I.δ x = some d' := by
  obtain ⟨⟨a, d'⟩, h1, rfl⟩ := List.mem_map.1 hx
  exact ⟨d', h1, h.dat _ h1⟩
theorem link_lt (h : Inv I) (hL : I.L = L1 ++ (g, d) :: L2) {x : Nat} (e : I.lt g = some x) : ∃ d', I.δ x = some d' := by
  rw [(inv_links h hL).1] at e
  obtain ⟨d', _, h2⟩ := link_mem h (x := x) (by rw [hL, adL_mid]; exact List.mem_append_left _ (List.mem_of_getLast? e))
  exact ⟨d', h2⟩
theorem link_er (h : Inv I) (hL : I.L = L1 ++ (g, d) :: L2) {x : Nat} (e : I.er g = some x) : ∃ d', I.δ x = some d' := by
  rw [(inv_links h hL).2] at e
  obtain ⟨d', _, h2⟩ := link_mem h (x := x) (by rw [hL, adL_mid]; exact List.mem_append_right _ (List.mem_cons_of_mem _ (List.mem_of_head? e)))
  exact ⟨d', h2⟩
theorem inv_out_first (h : Inv I) (hL : I.L = L1 ++ (g, d) :: L2) : outF (adL I.L).head? (I.lt g) (I.er g) = (adL (L1 ++ L2)).head? := by
  rw [(inv_links h hL).1, (inv_links h hL).2, hL, adL_mid, out_first]; simp [adL]
theorem inv_out_last (h : Inv I) (hL : I.L = L1 ++ (g, d) :: L2) : outL (adL I.L).getLast? (I.lt g) (I.er g) = (adL (L1 ++ L2)).getLast? := by
  rw [(inv_links h hL).1, (inv_links h hL).2, hL, adL_mid, out_last]; simp [adL]
theorem inv_seg_out (h : Inv I) (hL : I.L = L1 ++ (g, d) :: L2) : Seg (outLt I.lt g (I.lt g) (I.er g)) (outEr I.er g (I.lt g) (I.er g)) none (adL (L1 ++ L2)) none := by
  have hs := h.seg
  have hn := h.nd
  rw [hL, adL_mid] at hs hn
  rw [(inv_links h hL).1, (inv_links h hL).2, show adL (L1 ++ L2) = adL L1 ++ adL L2 by simp [adL]]
  exact seg_out hn hs
theorem nd_mid (h : Inv I) (hL : I.L = L1 ++ (g, d) :: L2) : (adL (L1 ++ L2)).Nodup ∧ g ∉ adL (L1 ++ L2) := by
  have hn := h.nd
  rw [hL, adL_mid] at hn
  have hp : (adL L1 ++ g :: adL L2).Perm (g :: (adL L1 ++ adL L2)) := List.perm_middle
  have := hp.nodup_iff.1 hn
  rw [List.nodup_cons] at this
  rw [show adL (L1 ++ L2) = adL L1 ++ adL L2 by simp [adL]]
  exact ⟨this.2, this.1⟩
theorem sub_mid (hL : I.L = L1 ++ (g, d) :: L2) {p : Nat × Dat V} (hp : p ∈ L1 ++ L2) : p ∈ I.L := by
  rw [hL]
  rcases List.mem_append.1 hp with h | h
  · exact List.mem_append_left _ h
  · exact List.mem_append_right _ (List.mem_cons_of_mem _ h)
theorem mid_mem (hL : I.L = L1 ++ (g, d) :: L2) : (g, d) ∈ I.L := by rw [hL]; simp
/-- To the front. -/
theorem inv_move (h : Inv I) (hL : I.L = L1 ++ (g, d) :: L2) (f : Option Nat) (hf : f = (adL (L1 ++ L2)).head?) :
    Inv { I with L := (g, d) :: (L1 ++ L2), lt := frLt (outLt I.lt g (I.lt g) (I.er g)) g f, er := frEr (outEr I.er g (I.lt g) (I.er g)) g f } := by
  subst hf
  have hn := nd_mid h hL
  have hm : ∀ p, p ∈ (g, d) :: (L1 ++ L2) → p ∈ I.L := fun p hp => by
    rcases List.mem_cons.1 hp with rfl | hp
    · exact mid_mem hL
    · exact sub_mid hL hp
  refine ⟨?_, fun p hp => h.dat p (hm p hp), fun p hp => h.hsh p (hm p hp), fun p hp => h.hdr p (hm p hp), fun p hp => h.sm p (hm p hp), ?_, ?_, ?_⟩
  · show (g :: adL (L1 ++ L2)).Nodup
    exact List.nodup_cons.2 ⟨hn.2, hn.1⟩
  · exact seg_front hn.1 hn.2 (up_self _ _ _) (inv_seg_out h hL)
  · have hb := h.bk
    rw [hL] at hb
    exact ib_perm List.perm_middle hb
  · have hu := h.ul
    rw [hL, ML_mid] at hu
    have := unlike_move hu
    show Unlike ((d.key, d.val) :: ML (L1 ++ L2))
    rw [show ML (L1 ++ L2) = ML L1 ++ ML L2 by simp [ML]]
    exact this
/-- Another value. -/
theorem inv_val (h : Inv I) (hL : I.L = L1 ++ (g, d) :: L2) (v : V) : Inv { I with L := L1 ++ (g, { d with val := v }) :: L2, δ := up I.δ g (some { d with val := v }) } := by
  have hn := nd_mid h hL
  have hm : ∀ p, p ∈ L1 ++ (g, { d with val := v }) :: L2 → p = (g, { d with val := v }) ∨ (p ∈ I.L ∧ p.1 ≠ g) := fun p hp => by
    have key : p ∈ L1 ++ L2 → p ∈ I.L ∧ p.1 ≠ g := fun hq => ⟨sub_mid hL hq, fun e => hn.2 (e ▸ List.mem_map.2 ⟨p, hq, rfl⟩)⟩
    rcases List.mem_append.1 hp with hp | hp
    · exact .inr (key (List.mem_append_left _ hp))
    · rcases List.mem_cons.1 hp with hp | hp
      · exact .inl hp
      · exact .inr (key (List.mem_append_right _ hp))
  have hg := mid_mem hL
  refine ⟨?_, fun p hp => ?_, fun p hp => ?_, fun p hp => ?_, fun p hp => ?_, ?_, ?_, ?_⟩
  · have := h.nd; rw [hL, adL_mid] at this; show (adL (L1 ++ (g, { d with val := v }) :: L2)).Nodup; rw [adL_mid]; exact this
  · rcases hm p hp with rfl | ⟨h1, h2⟩
    · exact up_self _ _ _
    · show up _ _ _ _ = _; rw [up_ne h2]; exact h.dat p h1
  · rcases hm p hp with rfl | ⟨h1, h2⟩
    · exact h.hsh (g, d) hg
    · exact h.hsh p h1
  · rcases hm p hp with rfl | ⟨h1, h2⟩
    · exact h.hdr (g, d) hg
    · exact h.hdr p h1
  · rcases hm p hp with rfl | ⟨h1, h2⟩
    · exact h.sm (g, d) hg
    · exact h.sm p h1
  · have := h.seg; rw [hL, adL_mid] at this; show Seg I.lt I.er none (adL (L1 ++ (g, { d with val := v }) :: L2)) none; rw [adL_mid]; exact this
  · refine ib_same (fun x => ?_) h.bk
    rw [hL]
    show adr (L1 ++ (g, { d with val := v }) :: L2) x = _
    unfold adr
    rw [List.filter_append, List.filter_append, List.map_append, List.map_append]
    congr 1
    by_cases c : d.hash = x
    · rw [List.filter_cons_of_pos (by simpa using c), List.filter_cons_of_pos (by simpa using c)]; rfl
    · rw [List.filter_cons_of_neg (by simpa using c), List.filter_cons_of_neg (by simpa using c)]
  · have hu := h.ul; rw [hL, ML_mid] at hu
    show Unlike (ML (L1 ++ (g, { d with val := v }) :: L2))
    rw [ML_mid]
    exact unlike_val hu
/-- Out of the row and its number's row. -/
theorem inv_drop (h : Inv I) (hL : I.L = L1 ++ (g, d) :: L2) (BM' : List (Int × Hdr)) (B' : List Bk) (hb : IB BM' B' (L1 ++ L2)) :
    Inv { I with L := L1 ++ L2, BM := BM', B := B', lt := outLt I.lt g (I.lt g) (I.er g), er := outEr I.er g (I.lt g) (I.er g) } := by
  have hn := nd_mid h hL
  refine ⟨hn.1, fun p hp => h.dat p (sub_mid hL hp), fun p hp => h.hsh p (sub_mid hL hp), fun p hp => h.hdr p (sub_mid hL hp), fun p hp => h.sm p (sub_mid hL hp), inv_seg_out h hL, hb, ?_⟩
  have hu := h.ul; rw [hL, ML_mid] at hu
  refine unlike_sub hu ?_
  rw [show ML (L1 ++ L2) = ML L1 ++ ML L2 by simp [ML]]
  exact (List.Sublist.refl _).append (List.sublist_cons_self _ _)
/-- A new entry in front. -/
theorem inv_new (h : Inv I) (hg : I.δ g = none) (hd : d.hash = hashK d.key) (hs : SmallK d.key) (hu : ∀ p ∈ ML I.L, alikeB p.1 d.key = false) (HL' : List (Hdr × List Rn)) (hH : ∀ p ∈ I.HL, p ∈ HL') (hh : (d.h, d.key.f1) ∈ HL') (BM' : List (Int × Hdr)) (B' : List Bk) (hb : IB BM' B' ((g, d) :: I.L)) (f : Option Nat) (hf : f = (adL I.L).head?) :
    Inv { I with L := (g, d) :: I.L, BM := BM', B := B', δ := up I.δ g (some d), HL := HL', lt := frLt (up I.lt g none) g f, er := frEr (up I.er g none) g f } := by
  subst hf
  have hn : g ∉ adL I.L := fun e => by
    obtain ⟨d', _, h2⟩ := link_mem h e
    rw [hg] at h2; cases h2
  have hne : ∀ p ∈ I.L, p.1 ≠ g := fun p hp e => hn (e ▸ List.mem_map.2 ⟨p, hp, rfl⟩)
  refine ⟨List.nodup_cons.2 ⟨hn, h.nd⟩, fun p hp => ?_, fun p hp => ?_, fun p hp => ?_, fun p hp => ?_, ?_, hb, unlike_new h.ul hu⟩
  · rcases List.mem_cons.1 hp with rfl | hp
    · exact up_self _ _ _
    · show up _ _ _ _ = _; rw [up_ne (hne p hp)]; exact h.dat p hp
  · rcases List.mem_cons.1 hp with rfl | hp
    · exact hd
    · exact h.hsh p hp
  · rcases List.mem_cons.1 hp with rfl | hp
    · exact hh
    · exact hH _ (h.hdr p hp)
  · rcases List.mem_cons.1 hp with rfl | hp
    · exact hs
    · exact h.sm p hp
  · refine seg_front h.nd hn (up_self _ _ _) (seg_congr (fun x hx => ⟨up_ne ?_, up_ne ?_⟩) h.seg) <;> exact fun e => hn (e ▸ hx)
theorem inv_nil (gm : Nat) : Inv (⟨gm, [], [], [], fun _ => none, fun _ => none, fun _ => none, []⟩ : CI V) :=
  ⟨List.nodup_nil, (fun p hp => by cases hp), (fun p hp => by cases hp), (fun p hp => by cases hp), (fun p hp => by cases hp), trivial, ⟨List.nodup_nil, (fun _ _ => rfl), (fun h x e => by cases e)⟩, List.Pairwise.nil⟩
theorem inv_clear (h : Inv I) : Inv { I with L := [], BM := [] } :=
  ⟨List.nodup_nil, (fun p hp => by cases hp), (fun p hp => by cases hp), (fun p hp => by cases hp), (fun p hp => by cases hp), trivial, ⟨List.nodup_nil, (fun _ _ => rfl), (fun h x e => by cases e)⟩, List.Pairwise.nil⟩
theorem find_ML {k : KV} {L : List (Nat × Dat V)} (h : ∀ p ∈ L, alikeB p.2.key k = false) : ∀ p ∈ ML L, alikeB p.1 k = false := fun p hp => by
  obtain ⟨q, hq, rfl⟩ := List.mem_map.1 hp
  exact h q hq
end
end
section
variable {V : Type}
theorem find_done {I : CI V} {bl : List Nat} {k : KV} (hI : Inv I) (hbp : bl.Perm (adr I.L (hashK k))) (h : ∀ j, j < bl.length → ∀ d, (bl.getD j 0, d) ∈ I.L → alikeB d.key k = false) : ∀ p ∈ I.L, alikeB p.2.key k = false := by
  rintro ⟨g, d⟩ hp
  cases ha : alikeB d.key k with
  | false => rfl
  | true =>
    have h1 : d.hash = hashK k := by rw [hI.hsh _ hp]; exact hash_alike ha
    have h2 : g ∈ bl := hbp.symm.subset (mem_adr.2 ⟨d, hp, h1⟩)
    obtain ⟨j, hj, e⟩ := List.mem_iff_getElem.1 h2
    have e2 : bl.getD j 0 = g := by rw [List.getD_eq_getElem?_getD, List.getElem?_eq_getElem hj]; exact e
    rw [h j hj d (by rw [e2]; exact hp)] at ha
    cases ha
theorem find_step {I : CI V} {bl : List Nat} {k : KV} {i : Nat} {d : Dat V} (hI : Inv I) (h : ∀ j, j < i → ∀ d, (bl.getD j 0, d) ∈ I.L → alikeB d.key k = false) (hd : (bl.getD i 0, d) ∈ I.L) (hf : alikeB d.key k = false) : ∀ j, j < i + 1 → ∀ d, (bl.getD j 0, d) ∈ I.L → alikeB d.key k = false := fun j hj d' hd' => by
  rcases Nat.lt_succ_iff_lt_or_eq.1 hj with z | z
  · exact h j z d' hd'
  · subst z
    have e1 := hI.dat _ hd
    have e2 := hI.dat _ hd'
    rw [e1] at e2
    injection e2 with e2
    replace e2 : d = d' := e2
    rw [← e2]; exact hf
theorem getD_in {bl : List Nat} {i : Nat} (h : i < bl.length) : bl.getD i 0 ∈ bl := by simp [List.getD, h]
theorem ra_C {HL : List (Hdr × List Rn)} {w : World} (h : RA HL w) {x : Hdr} {l : List Rn} (hx : (x, l) ∈ HL) : k50.C w x.A l.length l := by
  have := h _ hx
  rw [← this.1]; exact this.2
theorem link_first {I : CI V} {L1 L2 : List (Nat × Dat V)} {g : Nat} {d : Dat V} (h : Inv I) (hL : I.L = L1 ++ (g, d) :: L2) : ∀ x, outF (adL I.L).head? (I.lt g) (I.er g) = some x → ∃ d', I.δ x = some d' := fun x e => by
  rw [inv_out_first h hL] at e
  have hx := List.mem_of_head? e
  obtain ⟨p, hp, rfl⟩ := List.mem_map.1 hx
  exact ⟨p.2, h.dat _ (sub_mid hL hp)⟩
def restL (l : List Nat) (g i : Nat) : List Nat := (l.take i).filter (fun y => decide (y ≠ g))
theorem restL_keep {l : List Nat} {g i : Nat} (h : i < l.length) (hne : l.getD i 0 ≠ g) : restL l g (i + 1) = restL l g i ++ [l.getD i 0] := by
  unfold restL
  rw [List.take_add_one, List.getElem?_eq_getElem h, List.filter_append]
  have e : l.getD i 0 = l[i] := by rw [List.getD_eq_getElem?_getD, List.getElem?_eq_getElem h]; rfl
  rw [e] at hne ⊢
  simp [hne]
theorem restL_skip {l : List Nat} {g i : Nat} (h : i < l.length) (hne : ¬ l.getD i 0 ≠ g) : restL l g (i + 1) = restL l g i := by
  unfold restL
  rw [List.take_add_one, List.getElem?_eq_getElem h, List.filter_append]
  have e : l.getD i 0 = l[i] := by rw [List.getD_eq_getElem?_getD, List.getElem?_eq_getElem h]; rfl
  rw [e] at hne
  simp [Classical.not_not.1 hne]
theorem restL_len (l : List Nat) (g i : Nat) : (restL l g i).length ≤ l.length := Nat.le_trans (List.length_filter_le _ _) (by rw [List.length_take]; omega)
theorem restL_perm {I : CI V} {L1 L2 : List (Nat × Dat V)} {g i : Nat} {d : Dat V} {l : List Nat} (h : Inv I) (hL : I.L = L1 ++ (g, d) :: L2) (hp : l.Perm (adr I.L d.hash)) (hi : l.length ≤ i) : (restL l g i).Perm (adr (L1 ++ L2) d.hash) := by
  unfold restL
  rw [List.take_of_length_le hi]
  have hn := h.nd
  rw [hL] at hn
  rw [adr_drop hn d.hash, ← hL]
  exact hp.filter _
theorem perm_none {l m : List Nat} (h : l.Perm m) (h0 : ((l.length : Nat) : Int) = 0) : m = [] := by
  have := h.length_eq
  exact List.eq_nil_of_length_eq_zero (by omega)
theorem seg_er {lt er : Nat → Option Nat} : ∀ {l : List Nat} {p : Option Nat} {i g : Nat}, Seg lt er p l none → l[i]? = some g → er g = l[i + 1]?
  | [], _, _, _, _, h => by simp at h
  | a :: l, p, 0, g, ⟨h1, h2, h3⟩, h => by
    injection h with h
    subst h
    rw [h2]
    cases l <;> rfl
  | a :: l, p, i + 1, g, ⟨h1, h2, h3⟩, h => seg_er (l := l) h3 (by simpa using h)
theorem ad_at {I : CI V} {i g : Nat} (h : some g = (adL I.L)[i]?) : ∃ d, I.L[i]? = some (g, d) := by
  rw [List.getElem?_map] at h
  cases e : I.L[i]? with
  | none => rw [e] at h; cases h
  | some p =>
    rw [e] at h
    injection h with h
    exact ⟨p.2, by rw [h]⟩
theorem link_head {I : CI V} (h : Inv I) (b : Nat) (d : Dat V) : ∀ x, (adL I.L).head? = some x → ∃ d', up I.δ b (some d) x = some d' := fun x e => by
  obtain ⟨d', h1, h2⟩ := link_mem h (List.mem_of_head? e)
  by_cases c : x = b
  · subst c; exact ⟨_, up_self _ _ _⟩
  · exact ⟨d', by rw [up_ne c]; exact h2⟩
end
structure KH where
  key : KV
  A : Option Addr
  c : Nat
def zKH : KH := ⟨z33, none, 0⟩
def kKH : Kd KH := Kd.iso (Kd.pair Kd.string (Kd.pair kHdr (Kd.pair (Kd.int .i64) (Kd.pair (Kd.int .i64) k31)))) (fun x : KH => (x.key.f0, (⟨x.A, x.key.f1.length, x.c⟩ : Hdr), x.key.f2, x.key.f3, x.key.f4))
theorem flat_kh : Flat kKH := flat_iso _ (flat_pair flat_string (flat_pair flat_hdr (flat_pair (flat_int _) (flat_pair (flat_int _) flat31))))
def cellsKH (x : KH) : List Value := [.string x.key.f0, .slice x.A x.key.f1.length x.c, .int .i64 x.key.f2, .int .i64 x.key.f3, .int .i64 x.key.f4.f0, .int .i64 x.key.f4.f1, .int .i64 x.key.f4.f2, .int .i64 x.key.f4.f3, .int .i64 x.key.f4.f4, .int .i64 x.key.f4.f5, .int .i64 x.key.f4.f6]
theorem kKH_open {w : World} {x : KH} {cs : List Value} (h : kKH.K w x cs) : cs = cellsKH x := by
  obtain ⟨_, _, rfl, rfl, ⟨_, _, rfl, rfl, ⟨_, _, rfl, rfl, ⟨_, _, rfl, rfl, h⟩⟩⟩⟩ := h
  rw [k31_open h]
  rfl
theorem kKH_mkM (w : World) (base : Nat) (ok : Nat → Prop) (x : KH) : kKH.M w base ok x (cellsKH x) :=
  ⟨[.string x.key.f0], _, rfl, rfl, ⟨[.slice x.A x.key.f1.length x.c], _, rfl, rfl, ⟨[.int .i64 x.key.f2], _, rfl, rfl, ⟨[.int .i64 x.key.f3], _, rfl, rfl, k31_mkM w base ok x.key.f4⟩⟩⟩⟩
section
variable {V : Type} (TC TE e : Nat) (E : V → Value)
def cacheP (c : Nat) (room : Int) (M : LM V) (hits misses : Int) : HP := HP.ex fun I : CI V => (HP.pure (Inv I ∧ ML I.L = M)).star (pack
  [blk c [.int .i64 room, .map (some I.gm), .pointer (pa (adL I.L).head?), .pointer (pa (adL I.L).getLast?), .int .i64 ((M.length : Nat) : Int), .int .i64 hits, .int .i64 misses] TC, mapo KU EH I.gm I.BM, ents (enK TE E) I.δ I.lt I.er, brows e I.B, rlib I.HL])
variable {TC TE e E} {w0 w : World} {F0 : Nat → Prop} {cs : List HP} {c : Nat} {room hits misses : Int} {M : LM V}
theorem cache_open (h : St w0 F0 (cacheP TC TE e E c room M hits misses :: cs) w) : ∃ I : CI V, Inv I ∧ ML I.L = M ∧
    St w0 F0 (blk c [.int .i64 room, .map (some I.gm), .pointer (pa (adL I.L).head?), .pointer (pa (adL I.L).getLast?), .int .i64 ((M.length : Nat) : Int), .int .i64 hits, .int .i64 misses] TC :: mapo KU EH I.gm I.BM :: ents (enK TE E) I.δ I.lt I.er :: brows e I.B :: rlib I.HL :: cs) w := by
  obtain ⟨I, h⟩ := st_unex h
  obtain ⟨⟨h1, h2⟩, h⟩ := st_pure (st_unstar h)
  exact ⟨I, h1, h2, st_unpack h⟩
theorem cache_close (I : CI V) {f l : Option Nat} {size : Int} {gm : Nat} {BM : List (Int × Hdr)} {δ : Nat → Option (Dat V)} {lt er : Nat → Option Nat} {B : List Bk} {HL : List (Hdr × List Rn)} (hI : Inv I) (hM : ML I.L = M) (hf : f = (adL I.L).head?) (hl : l = (adL I.L).getLast?) (hs : size = ((M.length : Nat) : Int))
    (h : St w0 F0 (blk c [.int .i64 room, .map (some gm), .pointer (pa f), .pointer (pa l), .int .i64 size, .int .i64 hits, .int .i64 misses] TC :: mapo KU EH gm BM :: ents (enK TE E) δ lt er :: brows e B :: rlib HL :: cs) w)
    (hx : I.gm = gm ∧ I.BM = BM ∧ I.δ = δ ∧ I.lt = lt ∧ I.er = er ∧ I.B = B ∧ I.HL = HL) :
    St w0 F0 (cacheP TC TE e E c room M hits misses :: cs) w := by
  obtain ⟨rfl, rfl, rfl, rfl, rfl, rfl, rfl⟩ := hx
  subst hf hl hs
  exact st_ex I (st_star (st_free (st_pack (l := [_, _, _, _, _]) h) ⟨hI, hM⟩))
/-- What may be read of a cache. -/
structure CaAt (TE e : Nat) (E : V → Value) (w : World) (c : Nat) (cells : List Value) (I : CI V) : Prop where
  cell : ∀ j, w.cell? ⟨c, j, none⟩ = cells[j]?
  map : MapAt KU EH w I.gm I.BM
  ent : ∀ g d, I.δ g = some d → EntAt (enK TE E) w g d (I.lt g) (I.er g)
  rows : ∀ b ∈ I.B, b.l.length ≤ b.c ∧ kPtr.C w b.A b.l.length b.l
  runs : RA I.HL w
theorem cache_at {cells : List Value} {I : CI V} {R : List HP} : ∀ cs w, St w0 F0 (cs ++ (blk c cells TC :: mapo KU EH I.gm I.BM :: ents (enK TE E) I.δ I.lt I.er :: brows e I.B :: rlib I.HL :: R)) w → CaAt TE e E w c cells I := fun cs w h => by
  have g : ∀ (j : Nat) (x : HP), (blk c cells TC :: mapo KU EH I.gm I.BM :: ents (enK TE E) I.δ I.lt I.er :: brows e I.B :: rlib I.HL :: R)[j]? = some x → (cs ++ (blk c cells TC :: mapo KU EH I.gm I.BM :: ents (enK TE E) I.δ I.lt I.er :: brows e I.B :: rlib I.HL :: R))[cs.length + j]? = some x := fun j x hj => by
    rw [List.getElem?_append_right (by omega), Nat.add_sub_cancel_left]; exact hj
  exact ⟨fun j => blk_cell h (g 0 _ rfl) j, mapo_now h (g 1 _ rfl), fun x d hd => ents_now h (g 2 _ rfl) hd, fun b hb => brows_now h (g 3 _ rfl) hb, rlib_now h (g 4 _ rfl)⟩
end
end Go.Proofs.Ytmlkajmlhmfdgaa.Ca
