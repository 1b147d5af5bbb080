/- Pruned by wip/prune.py. -/
import Derived.Test.YtemgnkloloaeoaaQGivenPut
import Derived.LoopTactic
import Derived.BigQuiet
namespace Go.Proofs.Ytemgnkloloaeoaa.Given
open Go.RowKit Go.Proofs.Ytemgnkloloaeoaa.PAll Go.Proofs.YtemgnkloloaeoaaW.PrintWords Go.Proofs.YtemgnkloloaeoaaW.PrintLast Go.Proofs.YtemgnkloloaeoaaW.PrintMore
set_option linter.unusedVariables false
set_option linter.unusedSimpArgs false
def layAll (L : List Run) (l : List Run) : List Run := l.foldl (fun L r => putV L r.f0 r.f1) L
theorem putV_len (L : List Run) (n s : Int) : (putV L n s).length ≤ L.length + 1 := by
  unfold putV
  split
  · omega
  · split
    · split <;> simp
    · simp
theorem layAll_len (l : List Run) : ∀ L, (layAll L l).length ≤ L.length + l.length := by
  induction l with
  | nil => intro L; simp [layAll]
  | cons r l ih =>
    intro L
    have h := ih (putV L r.f0 r.f1)
    have h2 := putV_len L r.f0 r.f1
    have e : layAll L (r :: l) = layAll (putV L r.f0 r.f1) l := rfl
    rw [e]
    simp only [List.length_cons]
    omega
theorem layAll_snoc (L : List Run) (l : List Run) (i : Nat) (hi : i < l.length) : layAll L (l.take (i + 1)) = putV (layAll L (l.take i)) (rd_T57 l i).f0 (rd_T57 l i).f1 := by
  rw [List.take_succ_eq_append_getElem hi]
  unfold layAll
  rw [List.foldl_append]
  have e : rd_T57 l (i : Int) = l[i] := by unfold rd_T57; simp [List.getD, hi]
  rw [e]
  rfl
def sameL : List Run → List Run → Bool
  | [], [] => true
  | x :: l, y :: m => (x.f0 == y.f0 && x.f1 == y.f1) && sameL l m
  | _, _ => false
theorem sameL_len : ∀ (a b : List Run), a.length ≠ b.length → sameL a b = false
  | [], [], h => absurd rfl h
  | [], _ :: _, _ => rfl
  | _ :: _, [], _ => rfl
  | x :: a, y :: b, h => by
    simp only [sameL]
    rw [sameL_len a b (fun e => h (by simp [e]))]
    simp
def runs_Same.f (l0 l1 : List Run) : Option Bool := if l0.length ≤ 1099511627776 ∧ l1.length ≤ 1099511627776 then some (sameL (layAll [] l0) (layAll [] l1)) else none
def SameSt (w w' : World) (L1 L2 : List Run) : Prop := ∃ (v1 v2 : Value) (s1 s2 : Int), w'.heap[w.heap.size]? = some (.cells #[v1, .int .i64 s1, .int .i64 0] 64 (0, 0)) ∧ w'.heap[w.heap.size + 1]? = some (.cells #[v2, .int .i64 s2, .int .i64 0] 64 (0, 0)) ∧
  Kd.R k57 57 w' w.heap.size (fun _ => True) v1 L1 ∧ Kd.R k57 57 w' w.heap.size (fun _ => True) v2 L2 ∧ (∀ k, v1.ownBlock = some k → v2.ownBlock ≠ some k) ∧ Below w.heap.size w w' ∧ w.heap.size + 2 ≤ w'.heap.size
theorem st_alloc {w w' : World} {L1 L2 : List Run} (h : SameSt w w' L1 L2) (o : Obj) : SameSt w (w'.alloc o) L1 L2 := by
  obtain ⟨v1, v2, s1, s2, h1, h2, r1, r2, hn, hb, hz⟩ := h
  have hs : (w'.alloc o).heap.size = w'.heap.size + 1 := by show (w'.heap.push o).size = _; simp
  exact ⟨v1, v2, s1, s2, (Below.heap_alloc w' o _ (by omega)).trans h1, (Below.heap_alloc w' o _ (by omega)).trans h2, Kd.R_alloc r1 o, Kd.R_alloc r2 o, hn, hb.alloc (by omega) o, by omega⟩
theorem two_boxes (w : World) (o1 o2 : Obj) : ((w.alloc o1).alloc o2).heap[w.heap.size]? = some o1 ∧ ((w.alloc o1).alloc o2).heap[w.heap.size + 1]? = some o2 ∧ ((w.alloc o1).alloc o2).heap.size = w.heap.size + 2 := by
  have e1 : (w.alloc o1).heap.size = w.heap.size + 1 := by show (w.heap.push o1).size = _; simp
  have e2 : ((w.alloc o1).alloc o2).heap.size = w.heap.size + 2 := by show ((w.heap.push o1).push o2).size = _; simp
  refine ⟨(Below.heap_alloc (w.alloc o1) o2 _ (by omega)).trans ?_, ?_, e2⟩
  · show (w.heap.push o1)[w.heap.size]? = _
    exact Array.getElem?_push_size
  · show ((w.heap.push o1).push o2)[w.heap.size + 1]? = _
    rw [show w.heap.size + 1 = (w.heap.push o1).size by simp]
    exact Array.getElem?_push_size
theorem r_move {w w2 : World} {B : Nat} {ok : Nat → Prop} {v : Value} {L : List Run} (h : Kd.R k57 57 w B ok v L) (hm : ∀ k, v.ownBlock = some k → w2.heap[k]? = w.heap[k]?) : Kd.R k57 57 w2 B ok v L := by
  obtain ⟨h0, inner, ho, hr⟩ := h
  exact ⟨h0, inner, own_move ho hm, hr.imp_ fun _ _ hp => hp⟩
theorem st_put1 {w w' w2 : World} {v1 v2 : Value} {s1 s2 : Int} {L1 L2 L' : List Run} {sz : Int} {e : Ending} (h1 : w'.heap[w.heap.size]? = some (.cells #[v1, .int .i64 s1, .int .i64 0] 64 (0, 0))) (h2 : w'.heap[w.heap.size + 1]? = some (.cells #[v2, .int .i64 s2, .int .i64 0] 64 (0, 0)))
    (r1 : Kd.R k57 57 w' w.heap.size (fun _ => True) v1 L1) (r2 : Kd.R k57 57 w' w.heap.size (fun _ => True) v2 L2) (hn : ∀ k, v1.ownBlock = some k → v2.ownBlock ≠ some k) (hz : w.heap.size + 2 ≤ w'.heap.size)
    (h : PutPost w w' w.heap.size w.heap.size v1 L' sz 0 e w2) : SameSt w w2 L' L2 := by
  obtain ⟨rfl, v', g1, g2, g3, g4, g5, g6⟩ := h
  refine ⟨v', v2, sz, s2, g1, ?_, g2, ?_, fun k hk hk2 => ?_, g3, by omega⟩
  · rw [g5 _ (by omega) (by omega) (Kd.R_ne r1 h2 (by decide)), h2]
  · refine r_move r2 fun k hk => g5 k (Kd.R_lt r2 k hk) (fun e => ?_) fun e => hn k e.symm hk
    exact Kd.R_ne r2 h1 (by decide) (by rw [hk, e])
  · rcases g6 with g6 | ⟨b, g6, g7⟩
    · rw [g6] at hk; exact hn k hk hk2
    · rw [g6] at hk
      have := Kd.R_lt r2 k hk2
      injection hk with hk
      omega
theorem st_put2 {w w' w2 : World} {v1 v2 : Value} {s1 s2 : Int} {L1 L2 L' : List Run} {sz : Int} {e : Ending} (h1 : w'.heap[w.heap.size]? = some (.cells #[v1, .int .i64 s1, .int .i64 0] 64 (0, 0))) (h2 : w'.heap[w.heap.size + 1]? = some (.cells #[v2, .int .i64 s2, .int .i64 0] 64 (0, 0)))
    (r1 : Kd.R k57 57 w' w.heap.size (fun _ => True) v1 L1) (r2 : Kd.R k57 57 w' w.heap.size (fun _ => True) v2 L2) (hn : ∀ k, v1.ownBlock = some k → v2.ownBlock ≠ some k) (hz : w.heap.size + 2 ≤ w'.heap.size)
    (h : PutPost w w' w.heap.size (w.heap.size + 1) v2 L' sz 0 e w2) : SameSt w w2 L1 L' := by
  obtain ⟨rfl, v', g1, g2, g3, g4, g5, g6⟩ := h
  refine ⟨v1, v', s1, sz, ?_, g1, ?_, g2, fun k hk hk2 => ?_, g3, by omega⟩
  · rw [g5 _ (by omega) (by omega) (Kd.R_ne r2 h1 (by decide)), h1]
  · refine r_move r1 fun k hk => g5 k (Kd.R_lt r1 k hk) (fun e => ?_) fun e => hn k hk e.symm
    exact Kd.R_ne r1 h2 (by decide) (by rw [hk, e])
  · rcases g6 with g6 | ⟨b, g6, g7⟩
    · rw [g6] at hk2; exact hn k hk hk2
    · rw [g6] at hk2
      have := Kd.R_lt r1 k hk
      injection hk2 with hk2
      omega
structure Fin3 (w w' : World) (g2 : Nat) (cs : Array Value) (B1 : Option Addr) (L1 : List Run) (B2 : Option Addr) (L2 : List Run) : Prop where
  blk : w'.heap[g2]? = some (.cells cs 64 (0, 0))
  c1 : Kd.C k57 w' B1 L1.length L1
  c2 : Kd.C k57 w' B2 L2.length L2
  bel : Below w.heap.size w w'
  siz : w.heap.size ≤ w'.heap.size
theorem fin_alloc {w w' : World} {g2 : Nat} {cs : Array Value} {B1 B2 : Option Addr} {L1 L2 : List Run} (h : Fin3 w w' g2 cs B1 L1 B2 L2) (o : Obj) : Fin3 w (w'.alloc o) g2 cs B1 L1 B2 L2 :=
  ⟨(Below.heap_alloc w' o g2 (Array.getElem?_eq_some_iff.1 h.blk).1).trans h.blk, Kd.C_alloc h.c1 o, Kd.C_alloc h.c2 o, h.bel.alloc h.siz o, by show _ ≤ (w'.heap.push o).size; have := h.siz; simp; omega⟩
theorem fin_drewN {w w' : World} {g2 : Nat} {cs : Array Value} {B1 B2 : Option Addr} {L1 L2 : List Run} (h : Fin3 w w' g2 cs B1 L1 B2 L2) (n : Nat) : Fin3 w (w'.drewN n) g2 cs B1 L1 B2 L2 :=
  ⟨blk_drewN h.blk n, Kd.C_drewN h.c1 n, Kd.C_drewN h.c2 n, pw_below_drewN h.bel n, Nat.le_trans h.siz (pw_below_drewN (Below.refl w'.heap.size w') n).size⟩
theorem sameL_step (L1 L2 : List Run) (hL : L1.length = L2.length) (x : Nat) (h : x < L1.length) :
    sameL (L1.drop x) (L2.drop x) = (((rd_T57 L1 x).f0 == (rd_T57 L2 x).f0 && (rd_T57 L1 x).f1 == (rd_T57 L2 x).f1) && sameL (L1.drop (x + 1)) (L2.drop (x + 1))) := by
  rw [List.drop_eq_getElem_cons h, List.drop_eq_getElem_cons (show x < L2.length by omega)]
  have e1 : rd_T57 L1 (x : Int) = L1[x] := by unfold rd_T57; simp [List.getD, h]
  have e2 : rd_T57 L2 (x : Int) = L2[x]'(by omega) := by unfold rd_T57; simp [List.getD, show x < L2.length by omega]
  rw [e1, e2]
  rfl
set_option maxHeartbeats 4000000 in
set_option maxRecDepth 100000 in
theorem runs_Same.calls (A0 : Option Addr) (c0 : Nat) (l0 : List Run) (A1 : Option Addr) (c1 : Nat) (l1 : List Run) (r : Bool) (w : World) (hr0 : Kd.C k57 w A0 l0.length l0) (hc0 : l0.length ≤ c0) (hr1 : Kd.C k57 w A1 l1.length l1) (hc1 : l1.length ≤ c1) (h : runs_Same.f l0 l1 = some r) :
    Calls Try.prog 30 #[.slice A0 l0.length c0, .slice A1 l1.length c1] w fun e w' => e = .returned (.bool r) ∧ Below w.heap.size w w' := by
  unfold runs_Same.f at h
  by_cases hs : l0.length ≤ 1099511627776 ∧ l1.length ≤ 1099511627776
  case neg => rw [if_neg hs] at h; exact absurd h (by simp)
  rw [if_pos hs] at h
  obtain ⟨hs0, hs1⟩ := hs
  have H := Lib.hid (Option.some.inj h)
  clear h
  have HR0 := Lib.hid hr0
  have HR1 := Lib.hid hr1
  clear hr0 hr1
  have hu57 := Try.underlying57
  have hu64 := Try.underlying64
  go_enter Try.func30, Try.ntmps30
  go_upto_region 2 with (fail)
  have st0 : SameSt w ((w.alloc (Obj.cells #[Value.slice none 0 0, Value.int IntKind.i64 0, Value.int IntKind.i64 0] 64)).alloc (Obj.cells #[Value.slice none 0 0, Value.int IntKind.i64 0, Value.int IntKind.i64 0] 64)) [] [] := by
    obtain ⟨k1, k2, k3⟩ := two_boxes w (Obj.cells #[Value.slice none 0 0, Value.int IntKind.i64 0, Value.int IntKind.i64 0] 64) (Obj.cells #[Value.slice none 0 0, Value.int IntKind.i64 0, Value.int IntKind.i64 0] 64)
    exact ⟨.slice none 0 0, .slice none 0 0, 0, 0, k1, k2, Kd.R_nil _ _ _ _ _, Kd.R_nil _ _ _ _ _, fun k hk => by simp [Value.ownBlock] at hk, ((Below.refl _ _).alloc (Nat.le_refl _) _).alloc (by show _ ≤ (w.heap.push _).size; simp) _, by omega⟩
  have ST := Lib.hid st0
  clear st0
  generalize (w.alloc (Obj.cells #[Value.slice none 0 0, Value.int IntKind.i64 0, Value.int IntKind.i64 0] 64)).alloc (Obj.cells #[Value.slice none 0 0, Value.int IntKind.i64 0, Value.int IntKind.i64 0] 64) = ws at *
  go_wp2
  go_loopw [19] (fun v w' => ∃ x : Int, v = .int .i64 x ∧ 0 ≤ x ∧ x ≤ (l0.length : Int) ∧ Hid (SameSt w w' (layAll [] (l0.take x.toNat)) [])) (fun v _ => l0.length - (intOf v).toNat)
  case atStart => exact ⟨0, rfl, Int.le_refl _, by omega, ST⟩
  case round =>
    obtain ⟨x, rfl, hx, hxl, ST1⟩ := hrel
    by_cases hlt : x < (l0.length : Int)
    · have c2b0 : decide (x < (l0.length : Int)) = true := decide_eq_true hlt
      obtain ⟨ad, ea, hx0, hx1⟩ := at_T57 HR0.out x hx hlt
      cases ea
      obtain ⟨v1, v2, s1, s2, h1, h2, r1, r2, hn, hb, hz⟩ := ST1.out
      replace hx0 := (hb.cell (World.block_lt_of_cell? w _ hx0)).trans hx0
      replace hx1 := (hb.cell (World.block_lt_of_cell? w _ hx1)).trans hx1
      have hlen : (layAll [] (l0.take x.toNat)).length ≤ 4398046511104 := by
        have q := layAll_len (l0.take x.toNat) []
        have q2 := List.length_take_le x.toNat l0
        simp only [List.length_nil] at q
        omega
      have hnext : layAll [] (l0.take (x + 1).toNat) = putV (layAll [] (l0.take x.toNat)) (rd_T57 l0 x).f0 (rd_T57 l0 x).f1 := by
        have q := layAll_snoc [] l0 x.toNat (by omega)
        rw [show ((x.toNat : Nat) : Int) = x by omega] at q
        rw [show (x + 1).toNat = x.toNat + 1 by omega, q]
      have K1 := Lib.hid h1
      have K2 := Lib.hid h2
      have R1 := Lib.hid r1
      have R2 := Lib.hid r2
      have HN := Lib.hid hn
      have BB := Lib.hid hb
      have ZZ := Lib.hid hz
      have HX := Lib.hid hnext
      have HLEN := Lib.hid hlen
      clear h1 h2 r1 r2 hn hb hz ST1 ST hnext hlen
      have p0 := eq_true hx
      have q0 := eq_true hlt
      go_wp2_with (first | (go_at_call 32; refine (put_calls w _ w.heap.size w.heap.size (layAll [] (l0.take x.toNat)) s1 0 _ _ v1 ((Below.heap_alloc wr _ _ (by have := ZZ.out; omega)).trans K1.out) (by omega) (Kd.R_alloc R1.out _) (BB.out.alloc (by have := ZZ.out; omega) _) (by show _ ≤ (wr.heap.push _).size; have := ZZ.out; simp; omega) HLEN.out).mono ?_; intro e w2 hpost; have ST2 := Lib.hid (st_put1 (w := w) ((Below.heap_alloc wr _ _ (by have := ZZ.out; omega)).trans K1.out) ((Below.heap_alloc wr _ _ (by have := ZZ.out; omega)).trans K2.out) (Kd.R_alloc R1.out _) (Kd.R_alloc R2.out _) HN.out (by show _ ≤ (wr.heap.push _).size; have := ZZ.out; simp; omega) hpost); obtain ⟨rfl, _⟩ := hpost))
      go_roundw
      case rel => exact ⟨x + 1, rfl, by omega, by omega, by rw [HX.out]; exact ST2⟩
      case measure => simp [intOf]; omega
    · have e : x = (l0.length : Int) := by omega
      subst e
      have hf := List.take_length (l := l0)
      rw [Int.toNat_natCast, hf] at ST1
      clear ST hf
      have ST := ST1
      clear ST1
      generalize wr = ws at *
      have c2b0 : decide (l0.length < l0.length) = false := by simp
      go_wp2
      go_loopw [32] (fun v w' => ∃ x : Int, v = .int .i64 x ∧ 0 ≤ x ∧ x ≤ (l1.length : Int) ∧ Hid (SameSt w w' (layAll [] l0) (layAll [] (l1.take x.toNat)))) (fun v _ => l1.length - (intOf v).toNat)
      case atStart => exact ⟨0, rfl, Int.le_refl _, by omega, ST⟩
      case round =>
        obtain ⟨x, rfl, hx, hxl, ST1⟩ := hrel
        by_cases hlt : x < (l1.length : Int)
        · have c2b0 : decide (x < (l1.length : Int)) = true := decide_eq_true hlt
          obtain ⟨ad, ea, hx0, hx1⟩ := at_T57 HR1.out x hx hlt
          cases ea
          obtain ⟨v1, v2, s1, s2, h1, h2, r1, r2, hn, hb, hz⟩ := ST1.out
          replace hx0 := (hb.cell (World.block_lt_of_cell? w _ hx0)).trans hx0
          replace hx1 := (hb.cell (World.block_lt_of_cell? w _ hx1)).trans hx1
          have hlen : (layAll [] (l1.take x.toNat)).length ≤ 4398046511104 := by
            have q := layAll_len (l1.take x.toNat) []
            have q2 := List.length_take_le x.toNat l1
            simp only [List.length_nil] at q
            omega
          have hnext : layAll [] (l1.take (x + 1).toNat) = putV (layAll [] (l1.take x.toNat)) (rd_T57 l1 x).f0 (rd_T57 l1 x).f1 := by
            have q := layAll_snoc [] l1 x.toNat (by omega)
            rw [show ((x.toNat : Nat) : Int) = x by omega] at q
            rw [show (x + 1).toNat = x.toNat + 1 by omega, q]
          have K1 := Lib.hid h1
          have K2 := Lib.hid h2
          have R1 := Lib.hid r1
          have R2 := Lib.hid r2
          have HN := Lib.hid hn
          have BB := Lib.hid hb
          have ZZ := Lib.hid hz
          have HX := Lib.hid hnext
          have HLEN := Lib.hid hlen
          clear h1 h2 r1 r2 hn hb hz ST1 ST hnext hlen
          have p0 := eq_true hx
          have q0 := eq_true hlt
          go_wp2_with (first | (go_at_call 32; refine (put_calls w _ w.heap.size (w.heap.size + 1) (layAll [] (l1.take x.toNat)) s2 0 _ _ v2 ((Below.heap_alloc wr _ _ (by have := ZZ.out; omega)).trans K2.out) (by omega) (Kd.R_alloc R2.out _) (BB.out.alloc (by have := ZZ.out; omega) _) (by show _ ≤ (wr.heap.push _).size; have := ZZ.out; simp; omega) HLEN.out).mono ?_; intro e w2 hpost; have ST2 := Lib.hid (st_put2 (w := w) ((Below.heap_alloc wr _ _ (by have := ZZ.out; omega)).trans K1.out) ((Below.heap_alloc wr _ _ (by have := ZZ.out; omega)).trans K2.out) (Kd.R_alloc R1.out _) (Kd.R_alloc R2.out _) HN.out (by show _ ≤ (wr.heap.push _).size; have := ZZ.out; simp; omega) hpost); obtain ⟨rfl, _⟩ := hpost))
          go_roundw
          case rel => exact ⟨x + 1, rfl, by omega, by omega, by rw [HX.out]; exact ST2⟩
          case measure => simp [intOf]; omega
        · have e : x = (l1.length : Int) := by omega
          subst e
          have hf := List.take_length (l := l1)
          rw [Int.toNat_natCast, hf] at ST1
          obtain ⟨v1, v2, s1, s2, h1, h2, r1, r2, hn, hb, hz⟩ := ST1.out
          have c3b0 : decide (l1.length < l1.length) = false := by simp
          have G := H.out
          clear H ST ST1
          have hL1 : (layAll [] l0).length ≤ 1099511627776 := by have q := layAll_len l0 []; simp only [List.length_nil] at q; omega
          generalize layAll [] l0 = L1 at *
          generalize layAll [] l1 = L2 at *
          obtain ⟨B1, d1, e1⟩ := Kd.R_slice r1
          obtain ⟨B2, d2, e2⟩ := Kd.R_slice r2
          subst e1
          subst e2
          go_upto_region 12 with (fail)
          have k1 := boxCell h1 0 _ rfl
          have k2 := boxCell h2 0 _ rfl
          have h1' := Lib.hid h1
          have h2' := Lib.hid h2
          have r1' := Lib.hid r1
          have r2' := Lib.hid r2
          have hb' := Lib.hid hb
          have hz' := Lib.hid hz
          have G' := Lib.hid G
          clear h1 h2 r1 r2 hb hz G hn
          by_cases hL : L1.length = L2.length
          · have hLb : ((L1.length : Int) == (L2.length : Int)) = true := by rw [hL]; simp
            have hLn : ((L1.length : Int) != (L2.length : Int)) = false := by rw [hL]; simp
            have HL := Lib.hid hL
            clear hL
            go_wp2
            repeat (go_quiet (fail); try go_wp2)
            have F0 : Hid (Fin3 w (wr.drewN nq) (w.heap.size + 1) #[.slice B2 L2.length d2, .int .i64 s2, .int .i64 0] B1 L1 B2 L2) := Lib.hid (fin_drewN ⟨h2'.out, (Kd.R_reads' r1'.out).2.2, (Kd.R_reads' r2'.out).2.2, hb'.out, by have := hz'.out; omega⟩ nq)
            clear h1' h2' r1' r2' hb' hz' k1 k2
            generalize wr.drewN nq = wz at *
            go_loopw [59] (fun v w' => ∃ x : Int, v = .int .i64 x ∧ 0 ≤ x ∧ x ≤ (L1.length : Int) ∧ Hid (Fin3 w w' (w.heap.size + 1) #[.slice B2 L2.length d2, .int .i64 s2, .int .i64 0] B1 L1 B2 L2) ∧ Hid (sameL (L1.drop x.toNat) (L2.drop x.toNat) = r)) (fun v _ => L1.length - (intOf v).toNat)
            case atStart => exact ⟨0, rfl, Int.le_refl _, by omega, F0, G'⟩
            case round =>
              obtain ⟨x, rfl, hx, hxl, F1, GX⟩ := hrel
              by_cases hlt : x < (L1.length : Int)
              · have c4b0 : decide (x < (L1.length : Int)) = true := decide_eq_true hlt
                have hstep := sameL_step L1 L2 HL.out x.toNat (by omega)
                rw [Int.toNat_of_nonneg hx] at hstep
                have HS := Lib.hid (hstep.symm.trans GX.out)
                clear hstep
                obtain ⟨ad1, ea1, hx0, hx1⟩ := at_T57 F1.out.c1 x hx hlt
                cases ea1
                have p0 := eq_true hx
                have q0 := eq_true hlt
                go_upto_region 17 with (fail)
                have F2 := Lib.hid (fin_alloc F1.out (Obj.cells #[.int .i64 (rd_T57 L1 x).f0, .int .i64 (rd_T57 L1 x).f1] 57))
                have y2 := boxCell F2.out.blk 0 _ rfl
                have hbox : (wr.alloc (Obj.cells #[.int .i64 (rd_T57 L1 x).f0, .int .i64 (rd_T57 L1 x).f1] 57)).heap[wr.heap.size]? = some (Obj.cells #[.int .i64 (rd_T57 L1 x).f0, .int .i64 (rd_T57 L1 x).f1] 57 (0, 0)) := by
                  show (wr.heap.push _)[wr.heap.size]? = _
                  exact Array.getElem?_push_size
                obtain ⟨gb, hgb⟩ : ∃ gb, gb = wr.heap.size := ⟨_, rfl⟩
                rw [← hgb] at hbox
                have b0 := boxCell hbox 0 _ rfl
                have b1 := boxCell hbox 1 _ rfl
                simp only [← hgb]
                clear hgb hbox hx0 hx1
                generalize wr.alloc (Obj.cells #[.int .i64 (rd_T57 L1 x).f0, .int .i64 (rd_T57 L1 x).f1] 57) = wv at *
                have hlt2 : x < (L2.length : Int) := by rw [← HL.out]; exact hlt
                obtain ⟨ad2, ea2, hx0, hx1⟩ := at_T57 F2.out.c2 x hx hlt2
                cases ea2
                have q2 := eq_true hlt2
                clear hlt2
                by_cases g0 : (rd_T57 L1 x).f0 = (rd_T57 L2 x).f0
                · have g0b := beq_iff_eq.mpr g0
                  by_cases g1 : (rd_T57 L1 x).f1 = (rd_T57 L2 x).f1
                  · have g1b := beq_iff_eq.mpr g1
                    have hn := HS.out
                    rw [g0b, g1b, Bool.and_self, Bool.true_and] at hn
                    clear g0 g1
                    go_wp2
                    repeat (go_quiet (fail); try go_wp2)
                    exact ⟨⟨x + 1, rfl, by omega, by omega, Lib.hid (fin_drewN F2.out nq), Lib.hid (by rw [show (x + 1).toNat = x.toNat + 1 by omega]; exact hn)⟩, by simp [intOf]; omega⟩
                  · have g1b := beq_eq_false_iff_ne.mpr g1
                    have hn := HS.out
                    rw [g0b, g1b] at hn
                    obtain rfl : r = false := hn.symm
                    clear g0 g1
                    go_wp2
                    repeat (go_quiet (fail); try go_wp2)
                    go_ret
                    exact ⟨rfl, by repeat (first | exact F2.out.bel | apply below_alloc | apply pw_below_drewN | apply below_drew1)⟩
                · have g0b := beq_eq_false_iff_ne.mpr g0
                  have hn := HS.out
                  rw [g0b] at hn
                  obtain rfl : r = false := hn.symm
                  clear g0
                  go_wp2
                  repeat (go_quiet (fail); try go_wp2)
                  go_ret
                  exact ⟨rfl, by repeat (first | exact F2.out.bel | apply below_alloc | apply pw_below_drewN | apply below_drew1)⟩
              · have e : x = (L1.length : Int) := by omega
                subst e
                have c4b0 : decide (L1.length < L1.length) = false := by simp
                have hr := GX.out
                rw [Int.toNat_natCast, List.drop_length, HL.out, List.drop_length] at hr
                obtain rfl : r = true := hr.symm
                go_wp2
                go_ret
                exact ⟨rfl, F1.out.bel⟩
          · have hLb : ((L1.length : Int) == (L2.length : Int)) = false := beq_eq_false_iff_ne.mpr (by omega)
            have hLn : ((L1.length : Int) != (L2.length : Int)) = true := bne_iff_ne.mpr (by omega)
            obtain rfl : r = false := by rw [← G'.out]; exact sameL_len L1 L2 hL
            go_wp2
            repeat (go_quiet (fail); try go_wp2)
            go_ret
            exact ⟨rfl, by repeat (first | exact hb'.out | apply below_alloc | apply pw_below_drewN | apply below_drew1)⟩
end Go.Proofs.Ytemgnkloloaeoaa.Given
