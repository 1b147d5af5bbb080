/- Pruned by wip/prune.py. -/
import Derived.Test.YtmlkajmlhmfdgaaQSxRow
import Derived.OrdersHeld
namespace Go.Proofs.Ytmlkajmlhmfdgaa.Sx
open Go Go.RowKit Go.Proofs.YtmlkajmlhmfdgaaW.PrintWords
set_option linter.unusedVariables false
set_option linter.unusedSimpArgs false
section
variable {P : Program} {ops : Array Oper} {Q : Exit → Act → World → Prop} {n : Nat} {f : List (Nat × Value)} {w : World} {S : World → Prop} {fuel : Nat} {listed : Array Bool}
def WA (P : Program) (ops : Array Oper) (Q : Exit → Act → World → Prop) (S : World → Prop) (n fuel : Nat) (listed : Array Bool) (f : List (Nat × Value)) (w : World) : Prop := ∀ a, Fr n f a → wpAnyH P .any ops Q S fuel listed a w
theorem wc_draw {id : Nat} {l : List Oper} (S : World → Prop) (hm : P.follows .mixedOrders = true) (h : WA P l.toArray Q S n l.length (Array.replicate l.length false) f w.drew) : WC P (.region id l.toArray true) Q n f w :=
  fun a fa => wp_region_held (S := S) hm (h a fa)
theorem wa_take (i : Nat) {d : Nat} {op : Op} {ty : TypeId} {ps : String} {af : Array Edge} {g : Option (Nat × Bool)} {v : Value} (hi : ops[i]? = some ⟨some d, op, ty, ps, af, g⟩) (hs : Region.noSelect ops = true) (hf : Region.free .any ops listed i = true) (hr : (Region.ready .any ops listed).contains i = true)
    (hQ : ∀ c (a : Act) w, Q (.panic c) (a.put (some d) v) w → Q (.panic c) a w) (hw : gw ops f g = some true) (hn : Nat.blt d n = true) (hS : S w) (hv : ∀ w', S w' → OV P n f w' op v) (k : WA P ops Q S n fuel (listed.setIfInBounds i true) ((d, v) :: f) w) : WA P ops Q S n (fuel + 1) listed f w :=
  fun a fa => wpAnyH_take hi hs hf hr hQ (.inl ⟨gw_wanted fa (o := ⟨some d, op, ty, ps, af, g⟩) hw, fun w' hS' => hv w' hS' a fa _ _ _ _ _⟩) hS (k _ (fa.put (by simpa [Nat.blt_eq] using hn) v))
theorem wa_skip (i : Nat) {d : Nat} {op : Op} {ty : TypeId} {ps : String} {af : Array Edge} {g : Option (Nat × Bool)} (hi : ops[i]? = some ⟨some d, op, ty, ps, af, g⟩) (hs : Region.noSelect ops = true) (hf : Region.free .any ops listed i = true) (hr : (Region.ready .any ops listed).contains i = true)
    (hQ : ∀ c (a : Act) w, Q (.panic c) (a.put (some d) undef) w → Q (.panic c) a w) (hw : gw ops f g = some false) (hn : Nat.blt d n = true) (hS : S w) (k : WA P ops Q S n fuel (listed.setIfInBounds i true) ((d, undef) :: f) w) : WA P ops Q S n (fuel + 1) listed f w :=
  fun a fa => wpAnyH_take hi hs hf hr hQ (.inr ⟨gw_wanted fa (o := ⟨some d, op, ty, ps, af, g⟩) hw, rfl⟩) hS (k _ (fa.put (by simpa [Nat.blt_eq] using hn) undef))
theorem wa_tk (i : Nat) {d : Nat} {op : Op} {ty : TypeId} {ps : String} {af : Array Edge} {g : Option (Nat × Bool)} {v : Value} (hi : ops[i]? = some ⟨some d, op, ty, ps, af, g⟩) (hw : gw ops f g = some true) (hn : Nat.blt d n = true) (hS : S w) (hv : ∀ w', S w' → OV P n f w' op v) (k : WA P ops Q S n fuel (listed.setIfInBounds i true) ((d, v) :: f) w)
    (hs : Region.noSelect ops = true := by kernel_rfl) (hf : Region.free .any ops listed i = true := by kernel_rfl) (hr : (Region.ready .any ops listed).contains i = true := by kernel_rfl) (hQ : ∀ c (a : Act) w, Q (.panic c) (a.put (some d) v) w → Q (.panic c) a w := by exact fun _ _ _ h => h) : WA P ops Q S n (fuel + 1) listed f w :=
  wa_take i hi hs hf hr hQ hw hn hS hv k
theorem wa_sk (i : Nat) {d : Nat} {op : Op} {ty : TypeId} {ps : String} {af : Array Edge} {g : Option (Nat × Bool)} (hi : ops[i]? = some ⟨some d, op, ty, ps, af, g⟩) (hw : gw ops f g = some false) (hn : Nat.blt d n = true) (hS : S w) (k : WA P ops Q S n fuel (listed.setIfInBounds i true) ((d, undef) :: f) w)
    (hs : Region.noSelect ops = true := by kernel_rfl) (hf : Region.free .any ops listed i = true := by kernel_rfl) (hr : (Region.ready .any ops listed).contains i = true := by kernel_rfl) (hQ : ∀ c (a : Act) w, Q (.panic c) (a.put (some d) undef) w → Q (.panic c) a w := by exact fun _ _ _ h => h) : WA P ops Q S n (fuel + 1) listed f w :=
  wa_skip i hi hs hf hr hQ hw hn hS k
theorem wpOp_single {i : Nat} {o : Oper} {K : Act → World → Prop} {a : Act} (hi : ops[i]? = some o) (h : wpList P ops (Exit.then K Q) [o] a w) : wpOp P ops Q i K a w := by
  unfold wpOp
  simp only [hi]
  unfold wpList at h
  split
  · rename_i hw
    rw [if_pos hw] at h
    rcases h with h | ⟨h, a0, w0, hq⟩
    · refine .inl ?_
      unfold Oper.wp at h ⊢
      generalize (execOp a.eval o).run P w = r at *
      cases r with
      | ok x w' =>
        cases x <;> simp only [Oper.upon] at h ⊢ <;>
          first
            | exact h
            | exact Calls.mono h (fun e w'' he => by cases e <;> first | exact he | exact ⟨_, _, he.choose_spec.choose_spec⟩)
            | exact Rows.mono h (fun _ _ he => he)
      | halt x w' => cases x <;> simp only [Oper.upon] at h ⊢ <;> exact h
    · exact .inr ⟨h, a0, w0, hq⟩
  · rename_i hw
    rw [if_neg hw] at h
    exact h
theorem wa_one (i : Nat) {o : Oper} (hi : ops[i]? = some o) (hr : Region.ready .any ops listed = [i]) (h : WL P ops (Exit.then (fun a w => S w ∧ wpAnyH P .any ops Q S fuel (listed.setIfInBounds i true) a w) Q) n [o] f w) : WA P ops Q S n (fuel + 1) listed f w :=
  fun a fa => wpAnyH_all hr (by simp) fun j hj => by
    rw [List.mem_singleton.1 hj]
    exact wpOp_single hi (h a fa)
theorem wa_two (i j : Nat) {o o' : Oper} (hi : ops[i]? = some o) (hj : ops[j]? = some o') (hr : Region.ready .any ops listed = [i, j]) (h : WL P ops (Exit.then (fun a w => S w ∧ wpAnyH P .any ops Q S fuel (listed.setIfInBounds i true) a w) Q) n [o] f w)
    (h' : WL P ops (Exit.then (fun a w => S w ∧ wpAnyH P .any ops Q S fuel (listed.setIfInBounds j true) a w) Q) n [o'] f w) : WA P ops Q S n (fuel + 1) listed f w :=
  fun a fa => wpAnyH_all hr (by simp) fun m hm => by
    rcases List.mem_cons.1 hm with hm | hm
    · rw [hm]; exact wpOp_single hi (h a fa)
    · rw [List.mem_singleton.1 hm]; exact wpOp_single hj (h' a fa)
theorem qn_wa (hS : S w) (k : WA P ops Q S n fuel listed f w) : QN (Exit.then (fun a w => S w ∧ wpAnyH P .any ops Q S fuel listed a w) Q) .normal n f w := fun a fa => ⟨hS, k a fa⟩
theorem wa_done (hr : Region.ready .any ops listed = []) (h : QN Q .normal n f w) : WA P ops Q S n fuel listed f w := fun a fa => wpAnyH_done hr (h a fa) fuel
theorem wa_splitb (d : Nat) {b : Bool} (hd : look f d = some (.bool b)) (ht : b = true → WA P ops Q S n fuel listed ((d, .bool true) :: f) w) (hf : b = false → WA P ops Q S n fuel listed ((d, .bool false) :: f) w) : WA P ops Q S n fuel listed f w := by
  intro a fa
  have key : ∀ c : Bool, b = c → Fr n ((d, .bool c) :: f) a := fun c hc => ⟨fa.defers, fa.size, fun k v e => by
    rw [look_cons] at e
    by_cases e2 : d = k
    · subst e2; rw [if_pos rfl] at e; rw [← hc] at e; rw [← e]; exact fa.get d _ hd
    · rw [if_neg e2] at e; exact fa.get k v e⟩
  cases b with
  | true => exact ht rfl a (key true rfl)
  | false => exact hf rfl a (key false rfl)
theorem wa_split (d : Nat) {c : Prop} [Decidable c] (hd : look f d = some (.bool (decide c))) (ht : c → WA P ops Q S n fuel listed ((d, .bool true) :: f) w) (hf : ¬c → WA P ops Q S n fuel listed ((d, .bool false) :: f) w) : WA P ops Q S n fuel listed f w :=
  wa_splitb d hd (fun h => ht (of_decide_eq_true h)) (fun h => hf (of_decide_eq_false h))
end
/-- Some of the first pieces, and the rest. -/
def selT : List Bool → List HP → List HP
  | [], l => l
  | _ :: _, [] => []
  | b :: bs, c :: l => cond b (c :: selT bs l) (selT bs l)
theorem Sep_selT : ∀ (keep : List Bool) {cs : List HP} {w : World} {F : Nat → Prop}, Sep cs w F → Sep (selT keep cs) w F
  | [], _, _, _, h => h
  | _ :: _, [], _, _, _ => trivial
  | b :: keep, c :: cs, w, F, ⟨G, h1, h2, h3⟩ => by
    cases b with
    | true => exact ⟨G, h1, h2, Sep_selT keep h3⟩
    | false => exact Sep_mono (fun k hk => hk.1) (Sep_selT keep h3)
theorem st_selT {w0 w : World} {F0 : Nat → Prop} {cs : List HP} (keep : List Bool) (h : St w0 F0 cs w) : St w0 F0 (selT keep cs) w := by
  obtain ⟨h1, h2, h3, h4, F, h5, h6, h7, h8⟩ := h
  exact ⟨h1, h2, h3, h4, F, Sep_selT keep h5, h6, h7, h8⟩
end Go.Proofs.Ytmlkajmlhmfdgaa.Sx
