/- Pruned by wip/prune.py. -/
import Derived.Test.YtmlkajmlhmfdgaaQCaKey
namespace Go.Proofs.Ytmlkajmlhmfdgaa.Ca
open Go Go.RowKit Go.Proofs.YtmlkajmlhmfdgaaW.PrintWords Go.Proofs.Ytmlkajmlhmfdgaa.Kinds Go.Proofs.Ytmlkajmlhmfdgaa.Runs Go.Proofs.Ytmlkajmlhmfdgaa.Sx
set_option linter.unusedVariables false
set_option linter.unusedSimpArgs false
def setN (f : Nat → Option Nat) (o v : Option Nat) : Nat → Option Nat := match o with
  | none => f
  | some x => up f x v
theorem setN_ne {f : Nat → Option Nat} {o v : Option Nat} {x : Nat} (h : o ≠ some x) : setN f o v x = f x := by
  cases o with
  | none => rfl
  | some y => exact up_ne (fun e => h (by rw [e]))
def hd (l : List Nat) (n : Option Nat) : Option Nat := match l with | [] => n | b :: _ => some b
def Seg (lt er : Nat → Option Nat) : Option Nat → List Nat → Option Nat → Prop
  | _, [], _ => True
  | p, a :: l, n => lt a = p ∧ er a = hd l n ∧ Seg lt er (some a) l n
section
variable {lt er lt' er' : Nat → Option Nat}
theorem seg_congr : ∀ {l : List Nat} {p n : Option Nat}, (∀ x ∈ l, lt' x = lt x ∧ er' x = er x) → Seg lt er p l n → Seg lt' er' p l n
  | [], _, _, _, _ => trivial
  | a :: l, p, n, h, ⟨h1, h2, h3⟩ => ⟨(h a List.mem_cons_self).1.trans h1, (h a List.mem_cons_self).2.trans h2, seg_congr (fun x hx => h x (List.mem_cons_of_mem _ hx)) h3⟩
def ls (l : List Nat) (p : Option Nat) : Option Nat := match l.getLast? with | none => p | some x => some x
theorem ls_cons (a : Nat) (l : List Nat) (p : Option Nat) : ls (a :: l) p = ls l (some a) := by
  unfold ls
  cases l with
  | nil => rfl
  | cons b l => rw [List.getLast?_cons_cons]; cases h : (b :: l).getLast? with
    | none => simp at h
    | some x => rfl
theorem seg_append : ∀ {l1 l2 : List Nat} {p n : Option Nat}, Seg lt er p (l1 ++ l2) n ↔ Seg lt er p l1 (hd l2 n) ∧ Seg lt er (ls l1 p) l2 n
  | [], l2, p, n => ⟨fun h => ⟨trivial, h⟩, fun h => h.2⟩
  | a :: l1, l2, p, n => by
    have e : hd (l1 ++ l2) n = hd l1 (hd l2 n) := by cases l1 <;> rfl
    have ih := seg_append (l1 := l1) (l2 := l2) (p := some a) (n := n)
    show (lt a = p ∧ er a = hd (l1 ++ l2) n ∧ Seg lt er (some a) (l1 ++ l2) n) ↔ (lt a = p ∧ er a = hd l1 (hd l2 n) ∧ Seg lt er (some a) l1 (hd l2 n)) ∧ _
    rw [e, ih, ls_cons]
    constructor
    · rintro ⟨h1, h2, h3, h4⟩; exact ⟨⟨h1, h2, h3⟩, h4⟩
    · rintro ⟨⟨h1, h2, h3⟩, h4⟩; exact ⟨h1, h2, h3, h4⟩
theorem seg_next {l : List Nat} {p n : Option Nat} (n' : Option Nat) (hn : l.Nodup) (h : Seg lt er p l n) : Seg lt (setN er l.getLast? n') p l n' := by
  rcases List.eq_nil_or_concat l with rfl | ⟨m, x, rfl⟩
  · trivial
  · rw [List.concat_eq_append] at hn h ⊢
    rw [List.getLast?_concat]
    rw [List.nodup_append] at hn
    have hx : ∀ y ∈ m, y ≠ x := fun y hy => hn.2.2 y hy x (by simp)
    obtain ⟨h1, h2, h3, _⟩ := seg_append.1 h
    refine seg_append.2 ⟨seg_congr (fun y hy => ⟨rfl, up_ne (hx y hy)⟩) h1, h2, up_self _ _ _, trivial⟩
theorem seg_prev {l : List Nat} {p n : Option Nat} (p' : Option Nat) (hn : l.Nodup) (h : Seg lt er p l n) : Seg (setN lt l.head? p') er p' l n := by
  cases l with
  | nil => trivial
  | cons a l =>
    rw [List.nodup_cons] at hn
    obtain ⟨h1, h2, h3⟩ := h
    exact ⟨up_self _ _ _, h2, seg_congr (fun y hy => ⟨up_ne (fun e => hn.1 (e ▸ hy)), rfl⟩) h3⟩
def outLt (lt : Nat → Option Nat) (g : Nat) (p q : Option Nat) : Nat → Option Nat := up (setN lt q p) g none
def outEr (er : Nat → Option Nat) (g : Nat) (p q : Option Nat) : Nat → Option Nat := up (setN er p q) g none
def outF (first p q : Option Nat) : Option Nat := match p with | none => q | some _ => first
def outL (last p q : Option Nat) : Option Nat := match q with | none => p | some _ => last
def frLt (lt : Nat → Option Nat) (g : Nat) (first : Option Nat) : Nat → Option Nat := setN lt first (some g)
def frEr (er : Nat → Option Nat) (g : Nat) (first : Option Nat) : Nat → Option Nat := up er g first
def frL (last : Option Nat) (g : Nat) : Option Nat := match last with | none => some g | some x => some x
theorem hd_eq (l : List Nat) : hd l none = l.head? := by cases l <;> rfl
theorem ls_eq (l : List Nat) : ls l none = l.getLast? := by unfold ls; cases l.getLast? <;> rfl
theorem seg_at {l1 l2 : List Nat} {g : Nat} (h : Seg lt er none (l1 ++ g :: l2) none) : lt g = l1.getLast? ∧ er g = l2.head? := by
  obtain ⟨h1, h2, h3, h4⟩ := seg_append.1 h
  rw [ls_eq] at h2
  exact ⟨h2, h3.trans (by cases l2 <;> rfl)⟩
theorem seg_out {l1 l2 : List Nat} {g : Nat} (hn : (l1 ++ g :: l2).Nodup) (h : Seg lt er none (l1 ++ g :: l2) none) : Seg (outLt lt g l1.getLast? l2.head?) (outEr er g l1.getLast? l2.head?) none (l1 ++ l2) none := by
  obtain ⟨h1, h2, h3, h4⟩ := seg_append.1 h
  rw [List.nodup_append, List.nodup_cons] at hn
  obtain ⟨n1, ⟨n2, n3⟩, n4⟩ := hn
  have d1 : ∀ x ∈ l1, x ≠ g := fun x hx => n4 x hx g List.mem_cons_self
  have d2 : ∀ x ∈ l2, x ≠ g := fun x hx e => n2 (e ▸ hx)
  have d3 : ∀ x ∈ l1, l2.head? ≠ some x := fun x hx e => n4 x hx x (List.mem_cons_of_mem _ (List.mem_of_head? e)) rfl
  have d4 : ∀ x ∈ l2, l1.getLast? ≠ some x := fun x hx e => n4 x (List.mem_of_getLast? e) x (List.mem_cons_of_mem _ hx) rfl
  refine seg_append.2 ⟨?_, ?_⟩
  · rw [hd_eq]
    refine seg_congr (fun x hx => ⟨?_, ?_⟩) (seg_next l2.head? n1 h1)
    · unfold outLt; rw [up_ne (d1 x hx), setN_ne (d3 x hx)]
    · unfold outEr; rw [up_ne (d1 x hx)]
  · rw [ls_eq]
    refine seg_congr (fun x hx => ⟨?_, ?_⟩) (seg_prev l1.getLast? n3 h4)
    · unfold outLt; rw [up_ne (d2 x hx)]
    · unfold outEr; rw [up_ne (d2 x hx), setN_ne (d4 x hx)]
theorem out_first (l1 l2 : List Nat) (g : Nat) : outF (l1 ++ g :: l2).head? l1.getLast? l2.head? = (l1 ++ l2).head? := by
  cases l1 with
  | nil => rfl
  | cons a l => cases h : (a :: l).getLast? with
    | none => simp at h
    | some x => rfl
theorem out_last (l1 l2 : List Nat) (g : Nat) : outL (l1 ++ g :: l2).getLast? l1.getLast? l2.head? = (l1 ++ l2).getLast? := by
  cases l2 with
  | nil => simp [outL]
  | cons b l => show (l1 ++ g :: b :: l).getLast? = _; rw [List.getLast?_append, List.getLast?_append, List.getLast?_cons_cons]
theorem seg_front {l : List Nat} {g : Nat} (hn : l.Nodup) (hg : g ∉ l) (h0 : lt g = none) (h : Seg lt er none l none) : Seg (frLt lt g l.head?) (frEr er g l.head?) none (g :: l) none := by
  refine ⟨?_, ?_, ?_⟩
  · show setN lt l.head? (some g) g = none
    rw [setN_ne (fun e => hg (List.mem_of_head? e)), h0]
  · show up er g l.head? g = _
    rw [up_self]; cases l <;> rfl
  · exact seg_congr (fun x hx => ⟨rfl, up_ne (fun e => hg (e ▸ hx))⟩) (seg_prev (some g) hn h)
theorem front_last (l : List Nat) (g : Nat) : frL l.getLast? g = (g :: l).getLast? := by
  cases l with
  | nil => rfl
  | cons b l => rw [List.getLast?_cons_cons]; cases h : (b :: l).getLast? with
    | none => simp at h
    | some x => rfl
end
section
variable {V : Type}
abbrev LM (V : Type) := List (KV × V)
def findI (M : LM V) (k : KV) : Option Nat := M.findIdx? fun p => alikeB p.1 k
def Unlike (M : LM V) : Prop := M.Pairwise fun a b => alikeB a.1 b.1 = false
def getM (M : LM V) (k : KV) : LM V × Option V := match findI M k with
  | none => (M, none)
  | some i => match M[i]? with
    | none => (M, none)
    | some p => (p :: M.eraseIdx i, some p.2)
def putM (room : Int) (M : LM V) (k : KV) (v : V) : LM V := if room = 0 then M else match findI M k with
  | none => (k, v) :: (if (M.length : Int) = room then M.dropLast else M)
  | some i => match M[i]? with
    | none => M
    | some p => (p.1, v) :: M.eraseIdx i
theorem find_none {M : LM V} {k : KV} (h : ∀ p ∈ M, alikeB p.1 k = false) : findI M k = none := by
  unfold findI
  rw [List.findIdx?_eq_none_iff]
  exact fun x hx => h x hx
theorem find_at {M1 M2 : LM V} {p : KV × V} {k : KV} (hu : Unlike (M1 ++ p :: M2)) (h : alikeB p.1 k = true) : findI (M1 ++ p :: M2) k = some M1.length := by
  unfold findI
  rw [List.findIdx?_append]
  have h1 : M1.findIdx? (fun q => alikeB q.1 k) = none := by
    rw [List.findIdx?_eq_none_iff]
    intro q hq
    have h2 := (List.pairwise_append.1 hu).2.2 q hq p List.mem_cons_self
    cases h3 : alikeB q.1 k with
    | false => rfl
    | true => rw [alike_trans h3 (alike_symm h)] at h2; cases h2
  rw [h1]
  simp [List.findIdx?_cons, h]
theorem find_some {M : LM V} {k : KV} {i : Nat} (h : findI M k = some i) : ∃ p, M[i]? = some p ∧ alikeB p.1 k = true := by
  unfold findI at h
  rw [List.findIdx?_eq_some_iff_getElem] at h
  obtain ⟨h1, h2, _⟩ := h
  exact ⟨M[i], List.getElem?_eq_getElem h1, h2⟩
theorem erase_mid {α : Type} (M1 M2 : List α) (p : α) : (M1 ++ p :: M2).eraseIdx M1.length = M1 ++ M2 := by
  rw [List.eraseIdx_append_of_length_le (Nat.le_refl _), Nat.sub_self]; rfl
theorem get_mid {α : Type} (M1 M2 : List α) (p : α) : (M1 ++ p :: M2)[M1.length]? = some p := by
  rw [List.getElem?_append_right (Nat.le_refl _), Nat.sub_self]; rfl
theorem getM_at {M1 M2 : LM V} {p : KV × V} {k : KV} (hu : Unlike (M1 ++ p :: M2)) (h : alikeB p.1 k = true) : getM (M1 ++ p :: M2) k = (p :: (M1 ++ M2), some p.2) := by
  unfold getM
  simp only [find_at hu h, get_mid, erase_mid]
theorem getM_none {M : LM V} {k : KV} (h : ∀ p ∈ M, alikeB p.1 k = false) : getM M k = (M, none) := by
  unfold getM
  simp only [find_none h]
theorem putM_at {room : Int} {M1 M2 : LM V} {p : KV × V} {k : KV} {v : V} (hr : room ≠ 0) (hu : Unlike (M1 ++ p :: M2)) (h : alikeB p.1 k = true) : putM room (M1 ++ p :: M2) k v = (p.1, v) :: (M1 ++ M2) := by
  unfold putM
  simp only [if_neg hr, find_at hu h, get_mid, erase_mid]
theorem putM_none {room : Int} {M : LM V} {k : KV} {v : V} (hr : room ≠ 0) (h : ∀ p ∈ M, alikeB p.1 k = false) : putM room M k v = (k, v) :: (if (M.length : Int) = room then M.dropLast else M) := by
  unfold putM
  simp only [if_neg hr, find_none h]
theorem unlike_move {M1 M2 : LM V} {p : KV × V} (h : Unlike (M1 ++ p :: M2)) : Unlike (p :: (M1 ++ M2)) := by
  unfold Unlike at h ⊢
  have h' := List.pairwise_append.1 h
  obtain ⟨a1, a2, a3⟩ := h'
  rw [List.pairwise_cons] at a2 ⊢
  refine ⟨fun q hq => ?_, List.pairwise_append.2 ⟨a1, a2.2, fun a ha b hb => a3 a ha b (List.mem_cons_of_mem _ hb)⟩⟩
  rcases List.mem_append.1 hq with hq | hq
  · rw [alike_comm]; exact a3 q hq p List.mem_cons_self
  · exact a2.1 q hq
theorem unlike_val {M1 M2 : LM V} {k : KV} {v v' : V} (h : Unlike (M1 ++ (k, v) :: M2)) : Unlike (M1 ++ (k, v') :: M2) := by
  unfold Unlike at h ⊢
  obtain ⟨a1, a2, a3⟩ := List.pairwise_append.1 h
  rw [List.pairwise_cons] at a2
  refine List.pairwise_append.2 ⟨a1, List.pairwise_cons.2 ⟨a2.1, a2.2⟩, fun a ha b hb => ?_⟩
  rcases List.mem_cons.1 hb with rfl | hb
  · exact a3 a ha (k, v) List.mem_cons_self
  · exact a3 a ha b (List.mem_cons_of_mem _ hb)
theorem unlike_sub {M M' : LM V} (h : Unlike M) (hs : M'.Sublist M) : Unlike M' := List.Pairwise.sublist hs h
theorem unlike_new {M : LM V} {k : KV} {v : V} (h : Unlike M) (hn : ∀ p ∈ M, alikeB p.1 k = false) : Unlike ((k, v) :: M) :=
  List.pairwise_cons.2 ⟨fun p hp => by rw [alike_comm]; exact hn p hp, h⟩
end
end Go.Proofs.Ytmlkajmlhmfdgaa.Ca
