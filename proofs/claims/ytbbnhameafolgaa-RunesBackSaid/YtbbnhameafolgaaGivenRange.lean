/- runes.Count, runes.Lines, runes.At, runes.First: walked by hand (they range over a string). -/
import Derived.Test.YtbbnhameafolgaaProg
import Derived.Below
import Derived.Deep.Draws
import Derived.Deep.AppendLies
import Derived.Maps.AppendAt
import Derived.OwnWalk
import Derived.Laws.BytesArg
import Derived.Laws.MakeOwn
import Derived.Laws.OwnMore
import Derived.Deep.OwnRows
import Derived.Tactics
import Derived.Lib.ConvBytes
import Derived.Laws.Slices
import Derived.WalkKit
import Derived.KernelRfl
import Derived.RowKit3
import Derived.Deep.LoopGhost
import Derived.Deep.QuietTactic
import Derived.BigQuiet
import Derived.WideLaws
import Derived.Deep.DeepCutAuto
import Derived.Deep.CutBlock
import Derived.Deep.RegionHeld3
import Derived.Laws.Rows
import Derived.Lib.AppendStr
import Derived.ArgAppend
import Derived.Laws.IdiomCopy
import Derived.OrdersHeld
import Derived.Laws.BitsLemmas
import Derived.RowKit
import Derived.Test.YtbbnhameafolgaaWWords
import Derived.Test.YtbbnhameafolgaaWLast
import Derived.Test.YtbbnhameafolgaaWTab
import Derived.Test.YtbbnhameafolgaaWFour
import Derived.Test.YtbbnhameafolgaaWQPut
import Derived.Test.YtbbnhameafolgaaWApart
import Derived.Test.YtbbnhameafolgaaWArr
import Derived.Test.YtbbnhameafolgaaWZeros
import Derived.Test.YtbbnhameafolgaaWFoot
import Derived.Test.YtbbnhameafolgaaWKept
import Derived.Test.YtbbnhameafolgaaWShare
import Derived.Test.YtbbnhameafolgaaWN
import Derived.Test.YtbbnhameafolgaaWFootNe
import Derived.Test.YtbbnhameafolgaaWAt
import Derived.Test.YtbbnhameafolgaaWEqStruct
import Derived.Test.YtbbnhameafolgaaWRepsOne
import Derived.Test.YtbbnhameafolgaaWInv
import Derived.Test.YtbbnhameafolgaaWInvWords
import Derived.Test.YtbbnhameafolgaaWGuard
import Derived.Test.YtbbnhameafolgaaWNEv
import Derived.Test.YtbbnhameafolgaaWMore
import Derived.Test.YtbbnhameafolgaaGivenSize
import Derived.Test.YtbbnhameafolgaaGivenKind
import Derived.WalkMore
import Derived.Laws.RangeAny
import Derived.Lib.OthersKept
import Derived.Lib.Hide
import Derived.LoopTactic
import Derived.WalkSmall
import Derived.Below
namespace Go.Proofs.Ytbbnhameafolgaa.Given
open Go.Lib Go.RowKit Go.Proofs.YtbbnhameafolgaaW.PrintWords Go.Proofs.YtbbnhameafolgaaW.PrintLast Go.Proofs.YtbbnhameafolgaaW.PrintMore
attribute [local go_sem] max2_int min2_int max_two min_two max_three min_three max_four min_four
set_option linter.unusedVariables false
set_option linter.unusedSimpArgs false

def runes_Count.f (a0 : ByteArray) : Option Int := if a0.size ≤ 1125899906842624 then some ((runesV a0).length : Int) else none
theorem iterPos_at {w : World} {k : Nat} {s : ByteArray} {p : Nat} (h : w.heap[k]? = some (.stringIter s p)) : w.iterPos k = p := by
  simp [World.iterPos, h]
set_option maxHeartbeats 8000000 in
set_option maxRecDepth 100000 in
theorem runes_Count.calls (a0 : ByteArray) (r : Int) (w : World) (h : runes_Count.f a0 = some r) :
    Calls Try.prog 22 #[.string a0] w fun e w' => e = .returned (.int .i64 r) ∧ Below w.heap.size w w' := by
  unfold runes_Count.f at h
  by_cases hs : a0.size ≤ 1125899906842624
  case neg => rw [if_neg hs] at h; exact absurd h (by simp)
  rw [if_pos hs] at h
  have H' := Aside0.mk (show 0 + ((decs a0 a0.size 0).length : Int) = r by rw [Int.zero_add]; exact Option.some.inj h)
  clear h
  go_enter Try.func22, Try.ntmps22
  go_wp2
  go_loopw [3] (fun n w' => ∃ (pos m : Nat) (acc : Int), n = .int .i64 acc ∧ Aside0 (acc + ((decs a0 m pos).length : Int) = r) ∧ a0.size ≤ pos + m ∧ 0 ≤ acc ∧ acc ≤ pos ∧ Aside0 (w'.heap[w.heap.size]? = some (.stringIter a0 pos)) ∧ Aside0 (Below w.heap.size w w')) (fun _ w' => a0.size - w'.iterPos w.heap.size)
  case atStart => exact ⟨0, a0.size, 0, rfl, H', by omega, by omega, by omega, ⟨World.iter_heap w a0 0⟩, ⟨(Below.refl _ _).alloc (Nat.le_refl _) _⟩⟩
  case round =>
    obtain ⟨pos, m, acc, rfl, H, hm, h0, h1, hk, HB⟩ := hrel
    by_cases hp : pos < a0.size
    · have hnx : ∀ ty, (Instr.next (.pointer (some ⟨w.heap.size, 0, none⟩)) true ty).run Try.prog wr = _ := fun ty => run_next_any_at wr _ a0 pos ty hk.out hp
      have hm2 := iterPos_at hk.out
      have hm3 := Lib.hid hm2
      clear hm2
      go_wp2
      have hwd := dec_pos a0 pos hp
      go_roundw
      case rel =>
        cases m with
        | zero => omega
        | succ m =>
          refine ⟨pos + (Utf8.decode a0 pos).2, m, acc + 1, rfl, ⟨?_⟩, by omega, by omega, by omega, ⟨iterAt_heap _ _ _ _ _ hk.out⟩, ⟨below_iterAt HB.out (Nat.le_refl _) _ _⟩⟩
          rw [← H.out]
          simp only [decs]
          rw [if_pos hp, List.length_cons]
          omega
      case measure =>
        rw [iterPos_at (iterAt_heap _ _ _ _ _ hk.out), hm3.out]
        omega
    · have hnx : ∀ ty, (Instr.next (.pointer (some ⟨w.heap.size, 0, none⟩)) true ty).run Try.prog wr = _ := fun ty => run_next_end_at wr _ a0 pos ty hk.out hp
      have e : decs a0 m pos = [] := by cases m with
        | zero => rfl
        | succ m => simp only [decs]; rw [if_neg hp]
      obtain rfl : acc = r := by rw [← H.out, e]; simp
      clear H e
      go_wp2
      go_ret
      exact ⟨rfl, HB.out⟩

/-- How many of the runes are line ends. -/
def linesOf (l : List (Nat × Nat)) : Int := ((l.filter fun q => q.2 == 10).length : Int)
def runes_Lines.f (a0 : ByteArray) : Option Int := if a0.size ≤ 1125899906842624 then some (linesOf (runesV a0)) else none
theorem kindV_eight (r : Nat) : (kindV (r : Int) = 8) ↔ r = 10 := by
  unfold kindV
  repeat' split
  all_goals omega
set_option maxHeartbeats 8000000 in
set_option maxRecDepth 100000 in
theorem runes_Lines.calls (a0 : ByteArray) (r : Int) (w : World) (h : runes_Lines.f a0 = some r) :
    Calls Try.prog 24 #[.string a0] w fun e w' => e = .returned (.int .i64 r) ∧ Below w.heap.size w w' := by
  unfold runes_Lines.f at h
  by_cases hs : a0.size ≤ 1125899906842624
  case neg => rw [if_neg hs] at h; exact absurd h (by simp)
  rw [if_pos hs] at h
  have H' := Aside0.mk (show 0 + linesOf (decs a0 a0.size 0) = r by rw [Int.zero_add]; exact Option.some.inj h)
  clear h
  go_enter Try.func24, Try.ntmps24
  go_wp2
  go_loopw [3] (fun n w' => ∃ (pos m : Nat) (acc : Int), n = .int .i64 acc ∧ Aside0 (acc + linesOf (decs a0 m pos) = r) ∧ a0.size ≤ pos + m ∧ 0 ≤ acc ∧ acc ≤ pos ∧ Aside0 (w'.heap[w.heap.size]? = some (.stringIter a0 pos)) ∧ Aside0 (Below w.heap.size w w')) (fun _ w' => a0.size - w'.iterPos w.heap.size)
  case atStart => exact ⟨0, a0.size, 0, rfl, H', by omega, by omega, by omega, ⟨World.iter_heap w a0 0⟩, ⟨(Below.refl _ _).alloc (Nat.le_refl _) _⟩⟩
  case round =>
    obtain ⟨pos, m, acc, rfl, H, hm, h0, h1, hk, HB⟩ := hrel
    by_cases hp : pos < a0.size
    · have hnx : ∀ ty, (Instr.next (.pointer (some ⟨w.heap.size, 0, none⟩)) true ty).run Try.prog wr = _ := fun ty => run_next_any_at wr _ a0 pos ty hk.out hp
      have hm2 := iterPos_at hk.out
      have hm3 := Lib.hid hm2
      clear hm2
      have hwd := dec_pos a0 pos hp
      obtain ⟨c, hc⟩ : ∃ c, c = (Utf8.decode a0 pos).1 := ⟨_, rfl⟩
      obtain ⟨d, hd⟩ : ∃ d, d = (Utf8.decode a0 pos).2 := ⟨_, rfl⟩
      rw [← hc, ← hd] at hnx
      rw [← hd] at hwd
      have hc' := Lib.hid hc
      have hd' := Lib.hid hd
      clear hc hd
      obtain ⟨kv, hkv⟩ : ∃ kv, kv = kindV (c : Int) := ⟨_, rfl⟩
      have HK : Aside0 (runes_Kind.f (c : Int) = some kv) := ⟨by rw [hkv]; rfl⟩
      have hkv' := Lib.hid hkv
      clear hkv
      have step : ∀ k, m = k + 1 → linesOf (decs a0 m pos) = (if kv = 8 then 1 else 0) + linesOf (decs a0 k (pos + d)) := by
        intro k hk
        rw [hk]
        simp only [decs]
        rw [if_pos hp]
        unfold linesOf
        rw [List.filter_cons, ← hc'.out, ← hd'.out]
        have e := kindV_eight c
        rw [← hkv'.out] at e
        by_cases q : c = 10
        · have q' := e.2 q
          rw [if_pos q', if_pos (by simp [q]), List.length_cons]
          omega
        · have q' : ¬ kv = 8 := fun x => q (e.1 x)
          rw [if_neg q', if_neg (by simp [q])]
          omega
      have step' := Lib.hid step
      clear step
      by_cases e8 : kv = 8
      · have e8b := beq_iff_eq.mpr e8
        have e8c := Lib.hid e8
        clear e8
        go_wp2_with (first | (go_at_call 13; (with_reducible refine (runes_Kind.calls (c : Int) kv _ HK.out).mono ?_); rintro e w' ⟨rfl, ⟨nd, rfl⟩⟩))
        go_roundw
        case rel =>
          cases m with
          | zero => omega
          | succ m =>
            refine ⟨pos + d, m, acc + 1, rfl, ⟨?_⟩, by omega, by omega, by omega, ⟨iterAt_heap _ _ _ _ _ hk.out⟩, ⟨by repeat (first | exact below_iterAt HB.out (Nat.le_refl _) _ _ | apply pw_below_drewN | apply below_drew1)⟩⟩
            rw [← H.out, step'.out m rfl, if_pos e8c.out]
            omega
        case measure =>
          have q := iterPos_at (w := (wr.iterAt w.heap.size a0 (pos + d)).drewN nd) (k := w.heap.size) (s := a0) (p := pos + d) (iterAt_heap _ _ _ _ _ hk.out)
          rw [q, hm3.out]
          omega
      · have e8b := beq_eq_false_iff_ne.mpr e8
        have e8c := Lib.hid e8
        clear e8
        go_wp2_with (first | (go_at_call 13; (with_reducible refine (runes_Kind.calls (c : Int) kv _ HK.out).mono ?_); rintro e w' ⟨rfl, ⟨nd, rfl⟩⟩))
        go_roundw
        case rel =>
          cases m with
          | zero => omega
          | succ m =>
            refine ⟨pos + d, m, acc, rfl, ⟨?_⟩, by omega, by omega, by omega, ⟨iterAt_heap _ _ _ _ _ hk.out⟩, ⟨by repeat (first | exact below_iterAt HB.out (Nat.le_refl _) _ _ | apply pw_below_drewN | apply below_drew1)⟩⟩
            rw [← H.out, step'.out m rfl, if_neg e8c.out]
            omega
        case measure =>
          have q := iterPos_at (w := (wr.iterAt w.heap.size a0 (pos + d)).drewN nd) (k := w.heap.size) (s := a0) (p := pos + d) (iterAt_heap _ _ _ _ _ hk.out)
          rw [q, hm3.out]
          omega
    · have hnx : ∀ ty, (Instr.next (.pointer (some ⟨w.heap.size, 0, none⟩)) true ty).run Try.prog wr = _ := fun ty => run_next_end_at wr _ a0 pos ty hk.out hp
      have e : decs a0 m pos = [] := by cases m with
        | zero => rfl
        | succ m => simp only [decs]; rw [if_neg hp]
      obtain rfl : acc = r := by rw [← H.out, e]; simp [linesOf]
      clear H e
      go_wp2
      go_ret
      exact ⟨rfl, HB.out⟩

/-- Where the n-th rune begins. -/
def atGo (s : ByteArray) : List (Nat × Nat) → Int → Int × Bool
  | [], n => if n = 0 then ((s.size : Int), true) else (0, false)
  | q :: l, n => if n = 0 then ((q.1 : Int), true) else atGo s l (wrap64 (n - 1))
def atV (s : ByteArray) (n : Int) : Int × Bool := if n < 0 then (0, false) else atGo s (runesV s) n
def runes_At.f (a0 : ByteArray) (a1 : Int) : Option (Int × Bool) := if a0.size ≤ 1125899906842624 then some (atV a0 a1) else none
set_option maxHeartbeats 8000000 in
set_option maxRecDepth 100000 in
theorem runes_At.calls (a0 : ByteArray) (a1 : Int) (r1 : Int) (r2 : Bool) (w : World) (h : runes_At.f a0 a1 = some (r1, r2)) :
    Calls Try.prog 25 #[.string a0, .int .i64 a1] w fun e w' => e = .returned (.tuple #[.int .i64 r1, .bool r2]) ∧ Below w.heap.size w w' := by
  unfold runes_At.f at h
  by_cases hs : a0.size ≤ 1125899906842624
  case neg => rw [if_neg hs] at h; exact absurd h (by simp)
  rw [if_pos hs] at h
  unfold atV at h
  by_cases hn : a1 < 0
  · rw [if_pos hn] at h
    cases Option.some.inj h
    go_enter Try.func25, Try.ntmps25
    go_wp2
    go_ret2
    exact ⟨rfl, Below.refl _ _⟩
  rw [if_neg hn] at h
  have H' := Aside0.mk (show atGo a0 (decs a0 a0.size 0) a1 = (r1, r2) from Option.some.inj h)
  clear h
  go_enter Try.func25, Try.ntmps25
  go_wp2
  go_loopw [1] (fun n w' => ∃ (pos m : Nat) (acc : Int), n = .int .i64 acc ∧ Aside0 (atGo a0 (decs a0 m pos) acc = (r1, r2)) ∧ a0.size ≤ pos + m ∧ Aside0 (w'.heap[w.heap.size]? = some (.stringIter a0 pos)) ∧ Aside0 (Below w.heap.size w w')) (fun _ w' => a0.size - w'.iterPos w.heap.size)
  case atStart => exact ⟨0, a0.size, a1, rfl, H', by omega, ⟨World.iter_heap w a0 0⟩, ⟨(Below.refl _ _).alloc (Nat.le_refl _) _⟩⟩
  case round =>
    obtain ⟨pos, m, acc, rfl, H, hm, hk, HB⟩ := hrel
    by_cases hp : pos < a0.size
    · have hnx : ∀ ty, (Instr.next (.pointer (some ⟨w.heap.size, 0, none⟩)) true ty).run Try.prog wr = _ := fun ty => run_next_any_at wr _ a0 pos ty hk.out hp
      have hm2 := iterPos_at hk.out
      have hm3 := Lib.hid hm2
      clear hm2
      have hwd := dec_pos a0 pos hp
      have step : ∀ k, m = k + 1 → atGo a0 (decs a0 m pos) acc = if acc = 0 then ((pos : Int), true) else atGo a0 (decs a0 k (pos + (Utf8.decode a0 pos).2)) (wrap64 (acc - 1)) := by
        intro k hk
        rw [hk]
        simp only [decs]
        rw [if_pos hp]
        simp only [atGo]
      have hm1 : 1 ≤ m := by omega
      by_cases e8 : acc = 0
      · have e := step (m - 1) (by omega)
        rw [if_pos e8] at e
        have e' := H.out.symm.trans e
        injection e' with e1 e2
        subst e1
        subst e2
        clear e step H
        have e8b := beq_iff_eq.mpr e8
        clear e8
        go_wp2
        go_ret2
        exact ⟨rfl, below_iterAt HB.out (Nat.le_refl _) _ _⟩
      · have step' := Lib.hid step
        clear step
        have e8b := beq_eq_false_iff_ne.mpr e8
        have e8c := Lib.hid e8
        clear e8
        go_wp2
        go_roundw
        case rel =>
          cases m with
          | zero => omega
          | succ m =>
            have e8d := e8c.out
            refine ⟨pos + (Utf8.decode a0 pos).2, m, wrap64 (acc - 1), rfl, ⟨?_⟩, by omega, ⟨iterAt_heap _ _ _ _ _ hk.out⟩, ⟨below_iterAt HB.out (Nat.le_refl _) _ _⟩⟩
            rw [← H.out, step'.out m rfl, if_neg e8c.out]
        case measure =>
          rw [iterPos_at (iterAt_heap _ _ _ _ _ hk.out), hm3.out]
          omega
    · have hnx : ∀ ty, (Instr.next (.pointer (some ⟨w.heap.size, 0, none⟩)) true ty).run Try.prog wr = _ := fun ty => run_next_end_at wr _ a0 pos ty hk.out hp
      have e : decs a0 m pos = [] := by cases m with
        | zero => rfl
        | succ m => simp only [decs]; rw [if_neg hp]
      have e' := H.out
      rw [e] at e'
      simp only [atGo] at e'
      clear H e
      by_cases e8 : acc = 0
      · rw [if_pos e8] at e'
        injection e' with e1 e2
        subst e1
        subst e2
        have e8b := beq_iff_eq.mpr e8
        clear e8
        have HI : Aside0 (runes_boolInt.f true = some 1) := ⟨rfl⟩
        go_wp2_with (first | (go_at_call 33; (with_reducible refine (runes_boolInt.calls true 1 _ HI.out).mono ?_); rintro e w' ⟨rfl, ⟨nd, rfl⟩⟩))
        go_ret2
        exact ⟨by simp, pw_below_drewN HB.out _⟩
      · rw [if_neg e8] at e'
        injection e' with e1 e2
        subst e1
        subst e2
        have e8b := beq_eq_false_iff_ne.mpr e8
        clear e8
        have HI : Aside0 (runes_boolInt.f false = some 0) := ⟨rfl⟩
        go_wp2_with (first | (go_at_call 33; (with_reducible refine (runes_boolInt.calls false 0 _ HI.out).mono ?_); rintro e w' ⟨rfl, ⟨nd, rfl⟩⟩))
        go_ret2
        exact ⟨by simp, pw_below_drewN HB.out _⟩

def firstV (s : ByteArray) : Int × Int := if sizeV s 0 = 0 then (0, 0) else (((Utf8.decode (s.extract 0 (sizeV s 0).toNat) 0).1 : Int), sizeV s 0)
def runes_First.f (a0 : ByteArray) : Option (Int × Int) := if a0.size ≤ 1125899906842624 then some (firstV a0) else none
set_option maxHeartbeats 8000000 in
set_option maxRecDepth 100000 in
theorem runes_First.calls (a0 : ByteArray) (r1 : Int) (r2 : Int) (w : World) (h : runes_First.f a0 = some (r1, r2)) :
    Calls Try.prog 28 #[.string a0] w fun e w' => e = .returned (.tuple #[.int .i32 r1, .int .i64 r2]) ∧ Below w.heap.size w w' := by
  unfold runes_First.f at h
  by_cases hs : a0.size ≤ 1125899906842624
  case neg => rw [if_neg hs] at h; exact absurd h (by simp)
  rw [if_pos hs] at h
  have H := Option.some.inj h
  clear h
  unfold firstV at H
  have hb := sizeV_bounds a0 0 (by omega) (by omega)
  obtain ⟨v, hv⟩ : ∃ v, v = sizeV a0 0 := ⟨_, rfl⟩
  have HS : Aside0 (runes_size.f a0 0 = some v) := ⟨by unfold runes_size.f; rw [if_pos hs, hv]⟩
  rw [← hv] at hb H
  have hb1 := hb.1
  have hb2 : v ≤ (a0.size : Int) := by omega
  clear hv hb
  obtain ⟨t, ht⟩ : ∃ t, t = a0.extract 0 v.toNat := ⟨_, rfl⟩
  have hts : t.size = v.toNat := by rw [ht, ByteArray.size_extract]; omega
  have hts' := Lib.hid hts
  have ht' := Lib.hid ht
  rw [← ht] at H
  have H' := Lib.hid H
  clear ht hts H
  go_enter Try.func28, Try.ntmps28
  go_wp2_with (first | (go_at_call 32; (with_reducible refine (runes_size.calls a0 0 v _ HS.out).mono ?_); rintro e w' ⟨rfl, ⟨nd, rfl⟩⟩))
  rw [← ht'.out]
  have hk0 : Aside0 (((w.drewN nd).iter t 0).heap[w.heap.size]? = some (.stringIter t 0)) := ⟨World.iter_heap (w.drewN nd) t 0⟩
  have hB0 : Aside0 (Below w.heap.size w ((w.drewN nd).iter t 0)) := ⟨(pw_below_drewN (Below.refl _ _) nd).alloc (Nat.le_refl _) _⟩
  go_loopw [6] (fun n w' => Aside0 (w'.heap[w.heap.size]? = some (.stringIter t 0)) ∧ Aside0 (Below w.heap.size w w')) (fun _ w' => 0)
  case atStart => exact ⟨hk0, hB0⟩
  case round =>
    obtain ⟨hk, HB⟩ := hrel
    by_cases e8 : v = 0
    · have hnx : ∀ ty, (Instr.next (.pointer (some ⟨w.heap.size, 0, none⟩)) true ty).run Try.prog wr = _ := fun ty => run_next_end_at wr _ t 0 ty hk.out (by have := hts'.out; omega)
      have H2 := H'.out
      rw [if_pos e8] at H2
      injection H2 with e1 e2
      subst e1
      subst e2
      go_wp2
      go_ret2
      exact ⟨rfl, HB.out⟩
    · have hnx : ∀ ty, (Instr.next (.pointer (some ⟨w.heap.size, 0, none⟩)) true ty).run Try.prog wr = _ := fun ty => run_next_any_at wr _ t 0 ty hk.out (by have := hts'.out; omega)
      have H2 := H'.out
      rw [if_neg e8] at H2
      injection H2 with e1 e2
      subst e1
      subst e2
      go_wp2
      go_ret2
      exact ⟨rfl, below_iterAt HB.out (Nat.le_refl _) _ _⟩
end Go.Proofs.Ytbbnhameafolgaa.Given
