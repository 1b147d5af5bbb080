/- Pruned by wip/prune.py. -/
import Derived.Test.YtbeihfcjfkddcaaQSxJoin
import Derived.Lib.AppendStr
namespace Go.Proofs.Ytbeihfcjfkddcaa.Sx
open Go Go.Lib Go.RowKit Go.Proofs.YtbeihfcjfkddcaaW.PrintWords
set_option linter.unusedVariables false
set_option linter.unusedSimpArgs false
section
variable {P : Program}
theorem append_str_at {w : World} (base : Nat) (t u ty e : TypeId) (i : TypeInfo) (ht : P.underlying t = some (.slice e)) (hu : P.underlying u = some .string) (hi : P.info? e = some i) (hz : i.zero = some (.int .u8 0))
    (hsize : i.size = 1) (hby : i.bytes = 1) (v : Value) (n : Nat) (xs : List Value) (hown : w.ownsRow base e 1 v n xs) (s : ByteArray) (h63 : n + s.size ≤ maxLen) (hbytes : n + s.size ≤ 140737488355328) (hbase : base ≤ w.heap.size) :
    ∃ v' w', (Builtin.append_ #[t, u] ty #[v, .string s]).run P w = .ok v' w' ∧ w'.ownsRow base e 1 v' (n + s.size) (xs ++ strCells s) ∧ w.grownBy w' v.ownBlock ∧ (v'.ownBlock = v.ownBlock ∨ v'.ownBlock = some w.heap.size) := by
  obtain ⟨v', w', hr, h1, h2, h3⟩ := run_append_own_string (P := P) w base t u ty e i ht hu hi hz hsize hby v n xs hown s h63 hbytes hbase
  refine ⟨v', w', hr, h1, h2, ?_⟩
  rcases hown.2 with ⟨rfl, rfl⟩ | ⟨g, cap, cur, rfl, hbg, hg, hnc, hcm, hcs, htake⟩
  · by_cases hm : s.size = 0
    · rw [h3.2 ⟨rfl, hm⟩]; exact .inl rfl
    · have hr2 := run_append_nil_string (P := P) w t u ty e i (.int .u8 0) ht hu hi hz s (by omega) (by simp only [maxLen] at h63; omega) (by rw [hby]; omega)
      rw [hr] at hr2
      injection hr2 with hr3 _
      rw [hr3]
      exact .inr rfl
  · have hxl : xs.length = n := by simpa using hown.1
    by_cases hroom : n + s.size ≤ cap
    · have hcs' : cur.size = cap := by simpa using hcs
      have hr2 := run_append_room_string (P := P) w t u ty e i ht hu hi hsize g n cap cur hg s hroom (by omega)
      rw [hr] at hr2
      injection hr2 with hr3 _
      rw [hr3]
      exact .inl rfl
    · have holds : ∀ j u, xs[j]? = some u → w.cell? ((⟨g, 0, none⟩ : Addr).add j) = some u := hown.cells (g := g) rfl
      have hr2 := run_append_grow_string (P := P) w t u ty e i (.int .u8 0) ht hu hi hz ⟨g, 0, none⟩ n cap xs (by rw [hsize]; simpa using hxl) holds s (by omega) (by simp only [maxLen] at h63; omega) (by rw [hby]; exact growslice_fits (by omega) (by omega))
      rw [hr] at hr2
      injection hr2 with hr3 _
      rw [hr3]
      exact .inr rfl
end
section
variable {P : Program} {ops : Array Oper} {Q : Exit → Act → World → Prop} {n : Nat} {f : List (Nat × Value)} {w w0 : World} {F0 : Nat → Prop} {cs : List HP} {rest : List Oper} {dn : Nat} {ty : TypeId} {ps : String} {af : Array Edge} {g : Option (Nat × Bool)}
theorem wl_appends (i : Nat) {e t u : Nat} {A : Option Addr} {c : Nat} {L : List Int} {s x : Operand} (y : ByteArray) (h : St w0 F0 cs w) (hi : cs[i]? = some (row (Kd.int .u8) e A c L)) (hw : gw ops f g = some true) (hn : Nat.blt dn n = true)
    {nL : Nat} (hs : ev f s = some (.slice A nL c)) (hx : ev f x = some (.string y)) (ht : P.underlying t = some (.slice e)) (hu : P.underlying u = some .string) (hinfo : (P.info? e).map (fun i => (i.zero, i.size, i.bytes)) = some (some (.int .u8 0), 1, 1))
    (hl : L.length + y.size ≤ 140737488355328) (hnL : nL = L.length) (k : ∀ A' c' w', St w0 F0 (cs.set i (row (Kd.int .u8) e A' c' (L ++ bytesOf y))) w' → WL P ops Q n rest ((dn, .slice A' (L ++ bytesOf y).length c') :: f) w') :
    WL P ops Q n (⟨some dn, .call { callee := .builtin .append, args := #[s, x], argTypes := #[t, u] }, ty, ps, af, g⟩ :: rest) f w := by
  subst hnL
  obtain ⟨inf, hinf, hzz⟩ := Option.map_eq_some_iff.1 hinfo
  simp only [Prod.mk.injEq] at hzz
  obtain ⟨hz0, hz1, hz2⟩ := hzz
  obtain ⟨G, g1, g2, g3⟩ := st_upd h hi
  have hown := Kd.own_of_R g2
  obtain ⟨v1, w1, hr, h1, h2, h3⟩ := append_str_at (P := P) (w := w) 0 t u ty e inf ht hu hinf hz0 hz1 hz2 _ _ _ hown y (by simp only [maxLen]; omega) hl (Nat.zero_le _)
  have hl2 : (L ++ bytesOf y).length = L.length + y.size := by rw [List.length_append, bytesOf_length]
  have hc : encs (Value.int .u8) (L ++ bytesOf y) = encs (Value.int .u8) L ++ strCells y := by
    simp [encs, bytesOf, strCells, Function.comp_def]
  rw [← hc, ← hl2] at h1
  have hR : (Kd.int .u8).R e w1 0 (fun k => G k ∨ w.heap.size ≤ k) v1 (L ++ bytesOf y) := Kd.R_of_own h1 (fun k hk => by
    rcases h3 with h3 | h3
    · exact .inl (g2.1 k (by rw [← h3]; exact hk))
    · rw [h3] at hk
      injection hk with hk
      exact .inr (by omega))
  obtain ⟨A', c', rfl⟩ := Kd.R_slice hR
  have hst := g3 (row (Kd.int .u8) e A' c' (L ++ bytesOf y)) w1 ⟨h2.os, h2.tape, h2.output, h2.size, fun k hk hn => h2.block k hk (fun e => hn (g2.1 k e.symm))⟩ hR
  exact wl_step _ w1 hw hn (fun a fa => by simp [execOp, resolve, invoke, builtin, ev_eval fa hs, ev_eval fa hx, hr, Result.andThen]) (k A' c' w1 hst)
theorem ov_string {t u e : Nat} {x : Operand} {A : Option Addr} {m c : Nat} {L : List Int} (hx : ev f x = some (.slice A m c)) (hC : (Kd.int .u8).C w A m L) (ht : P.underlying t = some (.slice e)) (he : P.underlying e = some (.int .u8)) (hu : P.underlying u = some .string) : OV P n f w (.convert t u x) (.string (strOfNums L)) := fun a fa dst ty ps af g => by
  have := Kd.C_string (P := P) (w := w) (src := t) (dst := u) (c := c) ht he hu hC
  simp [execOp, ev_eval fa hx, this, Result.andThen]
end
end Go.Proofs.Ytbeihfcjfkddcaa.Sx
