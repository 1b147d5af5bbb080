/- Pruned by wip/prune.py. -/
import Derived.Test.YtemgnkloloaeoaaQDiffLib
import Derived.Test.YtemgnkloloaeoaaQPatchStep
import Derived.Test.YtemgnkloloaeoaaQPureTakes
namespace Go.Proofs.Ytemgnkloloaeoaa.Lib
open Go Go.RowKit Go.Proofs.YtemgnkloloaeoaaW.PrintWords Go.Proofs.Ytemgnkloloaeoaa.PAll
set_option linter.unusedVariables false
set_option linter.unusedSimpArgs false
open Sx
def Old (v0 : World) (φ : World → Prop) : Prop := ∀ w, Below v0.heap.size v0 w → φ w
def libO (v0 : World) (φ : World → Prop) : HP where
  p := fun w F => ∀ W', Below v0.heap.size v0 W' → (∀ k, F k → k < w.heap.size → W'.heap[k]? = w.heap[k]?) → φ W'
  mono := fun hF h W' hb hW => h W' hb fun k hk hl => hW k (hF k hk) hl
  bound := fun h W' hb hW => h W' hb fun k hk hl => hW k ⟨hk, hl⟩ hl
  move := fun {w w1 F} hm h W' hb hW => h W' hb fun k hk hl => by
    have h1 := hm k hk
    refine (hW k hk ?_).trans h1
    refine Classical.byContradiction fun hn => ?_
    rw [Array.getElem?_eq_none (by omega), Array.getElem?_eq_getElem hl] at h1
    cases h1
theorem ro_gen {α β : Type} {d : Kd α} {d' : Kd β} {g : β → α} {G : World → β → Prop} {w : World} {A : Option Addr} {n : Nat} {X : List α} (hsz : d'.sz = d.sz) (hel : ∀ x c, d.K w x c → ∃ r : β, g r = x ∧ d'.K w r c ∧ G w r) (h : d.C w A n X) : ∃ Rs : List β, Rs.map g = X ∧ d'.C w A n Rs ∧ ∀ r ∈ Rs, G w r := by
  obtain ⟨h1, h2, h3⟩ := h
  by_cases hn : 0 < n
  · obtain ⟨ad, rfl, hc⟩ := h3 hn
    obtain ⟨Rs, r1, r2⟩ := choose_list g (fun j r => ∃ c, c.length = d.sz ∧ d'.K w r c ∧ G w r ∧ ∀ i u, c[i]? = some u → w.cell? (ad.add (j * d.sz + i)) = some u) X 0 (fun j x hj => by
      obtain ⟨c, c1, c2, c3⟩ := hc j x hj
      obtain ⟨r, e1, e2, e3⟩ := hel x c c2
      exact ⟨r, e1, c, c1, e2, e3, fun i u hi => by rw [Nat.zero_add]; exact c3 i u hi⟩)
    refine ⟨Rs, r1, ⟨by rw [← h1, ← r1, List.length_map], h2, fun _ => ⟨ad, rfl, fun j p hj => ?_⟩⟩, fun r hr => ?_⟩
    · obtain ⟨c, c1, c2, _, c4⟩ := r2 j p hj
      rw [Nat.zero_add] at c4
      exact ⟨c, by rw [c1, hsz], c2, fun i u hi => by rw [hsz]; exact c4 i u hi⟩
    · obtain ⟨j, hj⟩ := List.getElem?_of_mem hr
      obtain ⟨c, _, _, c3, _⟩ := r2 j r hj
      exact c3
  · have hX : X = [] := List.length_eq_zero_iff.1 (by omega)
    subst hX
    exact ⟨[], rfl, ⟨by simpa using h1, h2, fun h => absurd h hn⟩, fun r hr => by cases hr⟩
theorem gp_below {w w' : World} {p : PG} (h : GP w p) (hb : Below w.heap.size w w') : GP w' p := ⟨h.1, h.2.1, Kd.C_below h.2.2 hb⟩
theorem gl_below {w w' : World} {r : LN} (h : GL w r) (hb : Below w.heap.size w w') : GL w' r := ⟨h.1, h.2.1, Kd.C_below h.2.2 hb⟩
theorem ro_lines {v0 : World} {A : Option Addr} {n : Nat} {X : List S39} (h : k39.C v0 A n X) : ∃ Rs : List LN, Rs.map (·.1) = X ∧ kL.C v0 A n Rs ∧ Old v0 (AllL Rs) ∧ Rs.length = X.length := by
  obtain ⟨Rs, h1, h2, h3⟩ := ro_gen (d' := kL) (g := fun r : LN => r.1) (G := fun w r => GL w r) rfl (fun x c hx => by
    obtain ⟨A0, c0, rfl, l0, f0⟩ := k39_open hx
    exact ⟨(x, ⟨A0, x.f1.length, c0⟩), rfl, kL_mk v0 (x, ⟨A0, x.f1.length, c0⟩), rfl, l0, f0⟩) h
  exact ⟨Rs, h1, h2, fun w hb r hr => gl_below (h3 r hr) hb, by rw [← h1, List.length_map]⟩
theorem ro_pages {v0 : World} {A : Option Addr} {n : Nat} {X : List S31} (h : k31.C v0 A n X) : ∃ Ps : List PG, Ps.map (·.1) = X ∧ kP.C v0 A n Ps ∧ Old v0 (AllP Ps) ∧ Ps.length = X.length := by
  obtain ⟨Ps, h1, h2, h3⟩ := ro_gen (d' := kP) (g := fun r : PG => r.1) (G := fun w r => GP w r) rfl (fun x c hx => by
    obtain ⟨A0, c0, rfl, l0, f0⟩ := k31_open hx
    exact ⟨(x, ⟨A0, x.f0.length, c0⟩), rfl, rfl, rfl, l0, f0⟩) h
  exact ⟨Ps, h1, h2, fun w hb r hr => gp_below (h3 r hr) hb, by rw [← h1, List.length_map]⟩
section
variable {v0 w0 w : World} {F0 : Nat → Prop} {cs : List HP} {i : Nat} {φ ψ : World → Prop} {Ps : List PG}
theorem libO_now (hv : RO v0 w0 F0) (h : St w0 F0 cs w) (hi : cs[i]? = some (libO v0 φ)) : φ w := by
  obtain ⟨G, _, hg⟩ := st_get h hi
  exact hg w (ro_below hv h) fun _ _ _ => rfl
theorem libO_start (h : St w0 F0 cs w) (hA : Old v0 φ) : St w0 F0 (libO v0 φ :: cs) w := st_free h fun W' hb _ => hA W' hb
theorem closeO_changed {B : Option Addr} {c p : Nat} {Ln : List LN} (h : St w0 F0 (row kL 39 B c Ln :: libO v0 (AllP Ps) :: cs) w) (hL : Old v0 (AllL Ln)) :
    St w0 F0 (libO v0 (AllP (Ps.set p (⟨Ln.map (·.1)⟩, ⟨B, Ln.length, c⟩))) :: cs) w := by
  have hc := (row_reads (i := 0) h rfl).1
  refine st_imp (st_star h) fun F hF => ?_
  obtain ⟨G1, i1, hrow, hS⟩ := hF
  have hF1 := Kd.R_F hrow
  intro W' hb hW q hq
  have d : kL.C W' B Ln.length Ln := hF1 W' fun k hk hl => hW k (i1 k hk) hl
  have a := hS W' hb fun k hk hl => hW k hk.1 hl
  rcases List.mem_or_eq_of_mem_set hq with hq | rfl
  · exact a q hq
  · exact gp_new hc d (hL W' hb)
theorem closeO_added {q : PG} (h : St w0 F0 (libO v0 (AllP Ps) :: cs) w) (hq : Old v0 (fun w => GP w q)) : St w0 F0 (libO v0 (AllP (Ps ++ [q])) :: cs) w :=
  st_imp h fun F hF W' hb hW p hp => by
    rcases List.mem_append.1 hp with hp | hp
    · exact hF W' hb hW p hp
    · rw [List.mem_singleton.1 hp]
      exact hq W' hb
end
theorem gp_old {v0 : World} {A : Option Addr} {c : Nat} {X : List S39} (hl : X.length ≤ c) (h : k39.C v0 A X.length X) : Old v0 (fun w => GP w ((⟨X⟩ : S31), (⟨A, X.length, c⟩ : Hd))) := fun w hb => ⟨rfl, hl, Kd.C_below h hb⟩
theorem changed_mapN {R1 R2 : List LN} {X : List S39} {r : S34} {m : Nat} (h1 : R1.map (·.1) = X) (hm : R1.length = m) (h2 : R2.map (·.1) = r.f4) : ((([] : List LN) ++ (R1.take r.f2.toNat).drop 0) ++ R2 ++ (R1.take m).drop (r.f2 + r.f3).toNat).map (·.1) = Pure.changed X r := by
  subst hm
  exact changed_map h1 h2
theorem old_lines {v0 : World} {R1 R2 : List LN} {m n m2 : Nat} (h1 : Old v0 (AllL R1)) (h2 : Old v0 (AllL R2)) : Old v0 (AllL (([] : List LN) ++ (R1.take m).drop 0 ++ R2 ++ (R1.take m2).drop n)) := fun w hb r hr => by
  rcases List.mem_append.1 hr with hr | hr
  · rcases List.mem_append.1 hr with hr | hr
    · exact h1 w hb r (List.mem_of_mem_take (List.mem_of_mem_drop ((List.mem_append.1 hr).resolve_left (by simp))))
    · exact h2 w hb r hr
  · exact h1 w hb r (List.mem_of_mem_take (List.mem_of_mem_drop hr))
section
variable {x : List Pure.Page} {t : Pure.RSt} {r : Pure.Region} {Ps : List PG} {Ln : List LN} {X : List Pure.Line} {B : Option Addr} {c : Nat} {kp : Int}
theorem rx_changed (hX : Pure.pgs x r.f0 = X) (hout : Ps.map (·.1) = t.out) (h0 : ¬ (r.f0 ≤ t.last ∨ (0 ≤ t.keep ∧ r.f1 ≠ 3))) (hk : r.f1 = 1) (hc : ¬ ((x.length : Int) ≤ r.f0 ∨ r.f2 < 0 ∨ r.f3 < 0 ∨ (X.length : Int) < r.f2 ∨ (X.length : Int) - r.f2 < r.f3)) (hL : Ln.map (·.1) = Pure.changed X r) :
    Pure.rstep x t r = some ⟨(Ps.set r.f0.toNat ((⟨Ln.map (·.1)⟩ : S31), (⟨B, Ln.length, c⟩ : Hd))).map (·.1), r.f0, t.keep⟩ := by
  subst hX
  unfold Pure.rstep
  rw [if_neg h0, if_pos hk, if_neg hc, List.map_set, hout, hL]
theorem rx_added (hout : Ps.map (·.1) = t.out) (h0 : ¬ (r.f0 ≤ t.last ∨ (0 ≤ t.keep ∧ r.f1 ≠ 3))) (hk : r.f1 = 2) (hc : ¬ (r.f0 ≠ (Ps.length : Int) ∨ r.f2 ≠ 0 ∨ r.f3 ≠ 0)) :
    Pure.rstep x t r = some ⟨(Ps ++ [((⟨r.f4⟩ : S31), (⟨B, r.f4.length, c⟩ : Hd))]).map (·.1), r.f0, t.keep⟩ := by
  have hl : t.out.length = Ps.length := by rw [← hout, List.length_map]
  unfold Pure.rstep
  rw [if_neg h0, if_neg (by omega), if_pos hk, if_neg (by rw [hl]; exact hc), List.map_append, hout]
  rfl
theorem rx_gone (hX : Pure.pgs x r.f0 = X) (hout : Ps.map (·.1) = t.out) (h0 : ¬ (r.f0 ≤ t.last ∨ (0 ≤ t.keep ∧ r.f1 ≠ 3))) (hk : r.f1 = 3) (hc : ¬ ((x.length : Int) ≤ r.f0 ∨ r.f2 ≠ 0 ∨ r.f3 ≠ (X.length : Int) ∨ 0 < r.f4.length ∨ (0 ≤ t.keep ∧ r.f0 ≠ t.last + 1))) (hkp : (if t.keep < 0 then r.f0 else t.keep) = kp) :
    Pure.rstep x t r = some ⟨Ps.map (·.1), r.f0, kp⟩ := by
  subst hX
  unfold Pure.rstep
  rw [if_neg h0, if_neg (by omega), if_neg (by omega), if_pos hk, if_neg hc, hkp, hout]
theorem rx_none (hX : Pure.pgs x r.f0 = X) (hout : Ps.map (·.1) = t.out) (h : (r.f0 ≤ t.last ∨ (0 ≤ t.keep ∧ r.f1 ≠ 3)) ∨ (r.f1 ≠ 1 ∧ r.f1 ≠ 2 ∧ r.f1 ≠ 3) ∨
    (r.f1 = 1 ∧ ((x.length : Int) ≤ r.f0 ∨ r.f2 < 0 ∨ r.f3 < 0 ∨ (X.length : Int) < r.f2 ∨ (X.length : Int) - r.f2 < r.f3)) ∨ (r.f1 = 2 ∧ (r.f0 ≠ (Ps.length : Int) ∨ r.f2 ≠ 0 ∨ r.f3 ≠ 0)) ∨
    (r.f1 = 3 ∧ ((x.length : Int) ≤ r.f0 ∨ r.f2 ≠ 0 ∨ r.f3 ≠ (X.length : Int) ∨ 0 < r.f4.length ∨ (0 ≤ t.keep ∧ r.f0 ≠ t.last + 1)))) : Pure.rstep x t r = none := by
  have hl : t.out.length = Ps.length := by rw [← hout, List.length_map]
  subst hX
  unfold Pure.rstep
  repeat' split
  all_goals first | rfl | (exfalso; omega)
end
end Go.Proofs.Ytemgnkloloaeoaa.Lib
