/- Pruned by wip/prune.py. -/
import Derived.Test.YtieieindakbpoaaQPcRead
namespace Go.Proofs.Ytieieindakbpoaa.Pc
open Go Go.Lib Go.RowKit Go.Proofs.YtieieindakbpoaaW.PrintWords Go.Proofs.Ytieieindakbpoaa.Kinds Go.Proofs.Ytieieindakbpoaa.Given Go.Proofs.Ytieieindakbpoaa.Rn Go.Proofs.Ytieieindakbpoaa.Sx AT
set_option linter.unusedVariables false
set_option linter.unusedSimpArgs false
section
variable {s0 : ByteArray} {L : List Int}
theorem bytes_of (s : ByteArray) : Bytes (bytesOf s) := fun x hx => by
  unfold bytesOf at hx
  obtain ⟨b, _, rfl⟩ := List.mem_map.1 hx
  have := UInt8.toNat_lt b
  omega
theorem bytes_app {M : List Int} (h : Bytes L) (h2 : Bytes M) : Bytes (L ++ M) := fun x hx => (List.mem_append.1 hx).elim (h x) (h2 x)
theorem bytes_nil : Bytes [] := fun x hx => by cases hx
theorem ap_left (a b : ByteArray) : (a ++ b).extract 0 a.size = a := by
  rw [ext_left _ _ (Nat.le_refl _), ex_all]
theorem ap_right (a b : ByteArray) : (a ++ b).extract a.size (a ++ b).size = b := by
  rw [ByteArray.size_append, ext_right _ _ (Nat.le_refl _) (by omega), Nat.sub_self, Nat.add_sub_cancel_left, ex_all]
theorem two_ext {l a b : List P1} {k : Int} (h : Two s0 L l a b k) : cat s0 L a = (cat s0 L l).extract 0 k.toNat ∧ cat s0 L b = (cat s0 L l).extract k.toNat (cat s0 L l).size := by
  have hk : k.toNat = (cat s0 L a).size := by have := h.size; omega
  rw [hk, ← h.cat]
  exact ⟨(ap_left _ _).symm, (ap_right _ _).symm⟩
/-- What goes in is one piece. -/
theorem tx_new (s : ByteArray) (n : Int) : txP s0 (L ++ bytesOf s) ⟨true, L.length, s.size, n⟩ = s := by
  unfold txP
  rw [if_pos rfl]
  dsimp only
  have hb := bytesOf_length s
  rw [show ((L.length : Int) + (s.size : Int)).toNat = (L ++ bytesOf s).length by rw [List.length_append]; omega, List.take_length, Int.toNat_natCast, List.drop_left, sn_bytes]
theorem wf_new {s : ByteArray} (hs : 0 < s.size) : WfP s0 (L ++ bytesOf s) ⟨true, L.length, s.size, nlB s⟩ := by
  have hb := bytesOf_length s
  refine ⟨by show (0 : Int) ≤ L.length; omega, by show (0 : Int) < s.size; omega, ?_, ?_⟩
  · show ((L.length : Int) + (s.size : Int)) ≤ (if true = true then (((L ++ bytesOf s).length : Nat) : Int) else (s0.size : Int))
    rw [if_pos rfl, List.length_append]
    omega
  · show nlB s = nlB (txP s0 (L ++ bytesOf s) ⟨true, L.length, s.size, nlB s⟩)
    rw [tx_new]
/-- It goes on where the last one ended. -/
theorem tx_more {q : P1} (h : WfP s0 L q) (h0 : q.f0 = true) (h1 : q.f1 + q.f2 = L.length) (s : ByteArray) (n : Int) : txP s0 (L ++ bytesOf s) ⟨q.f0, q.f1, q.f2 + s.size, n⟩ = txP s0 L q ++ s := by
  have hb := bytesOf_length s
  have hf := h.f0
  unfold txP
  rw [if_pos h0, if_pos h0, h1]
  dsimp only
  rw [show (q.f1 + (q.f2 + (s.size : Int))).toNat = (L ++ bytesOf s).length by rw [List.length_append]; omega, List.take_length, Int.toNat_natCast, List.take_length]
  rw [List.drop_append_of_le_length (by have := h.f1; omega), sn_app, sn_bytes]
theorem wf_more {q : P1} (h : WfP s0 L q) (h0 : q.f0 = true) (h1 : q.f1 + q.f2 = L.length) (s : ByteArray) : WfP s0 (L ++ bytesOf s) ⟨q.f0, q.f1, q.f2 + s.size, q.f3 + nlB s⟩ := by
  have hb := bytesOf_length s
  refine ⟨h.f0, by have := h.f1; show 0 < q.f2 + (s.size : Int); omega, ?_, ?_⟩
  · show q.f1 + (q.f2 + (s.size : Int)) ≤ (if q.f0 = true then (((L ++ bytesOf s).length : Nat) : Int) else (s0.size : Int))
    rw [if_pos h0, List.length_append]
    omega
  · show q.f3 + nlB s = _
    rw [tx_more h h0 h1, nlB_app, h.f3]
/-- A piece goes in between. -/
theorem put_ok {s : ByteArray} {l a b : List P1} {k : Int} (hs : 0 < s.size) (h : Two s0 L l a b k) :
    Wf s0 (L ++ bytesOf s) (a ++ ⟨true, L.length, s.size, nlB s⟩ :: b) ∧ cat s0 (L ++ bytesOf s) (a ++ ⟨true, L.length, s.size, nlB s⟩ :: b) = (cat s0 L l).extract 0 k.toNat ++ s ++ (cat s0 L l).extract k.toNat (cat s0 L l).size ∧ (a ++ (⟨true, L.length, s.size, nlB s⟩ : P1) :: b).length ≤ l.length + 2 := by
  have e := two_ext h
  refine ⟨wf_three (wf_grow h.wa _) (wf_new hs) (wf_grow h.wb _), ?_, by have := h.len; simp only [List.length_append, List.length_cons]; omega⟩
  rw [cat_app]
  simp only [cat]
  rw [cat_grow h.wa, cat_grow h.wb, tx_new, e.1, e.2, ByteArray.append_assoc]
theorem more_ok {s : ByteArray} {l a b : List P1} {q : P1} {k : Int} (hs : 0 < s.size) (h : Two s0 L l (a ++ [q]) b k) (h0 : q.f0 = true) (h1 : q.f1 + q.f2 = L.length) :
    Wf s0 (L ++ bytesOf s) (a ++ ⟨q.f0, q.f1, q.f2 + s.size, q.f3 + nlB s⟩ :: b) ∧ cat s0 (L ++ bytesOf s) (a ++ ⟨q.f0, q.f1, q.f2 + s.size, q.f3 + nlB s⟩ :: b) = (cat s0 L l).extract 0 k.toNat ++ s ++ (cat s0 L l).extract k.toNat (cat s0 L l).size ∧ (a ++ (⟨q.f0, q.f1, q.f2 + s.size, q.f3 + nlB s⟩ : P1) :: b).length ≤ l.length + 2 := by
  have e := two_ext h
  obtain ⟨w1, w2⟩ := wf_app.1 h.wa
  have w3 := (wf_cons.1 w2).1
  refine ⟨wf_three (wf_grow w1 _) (wf_more w3 h0 h1 s) (wf_grow h.wb _), ?_, by have := h.len; simp only [List.length_append, List.length_cons, List.length_nil] at this ⊢; omega⟩
  rw [cat_app]
  simp only [cat]
  rw [cat_grow w1, cat_grow h.wb, tx_more w3 h0 h1, ← e.2, ← e.1, cat_app, cat_one]
  simp only [ByteArray.append_assoc]
/-- A part goes out. -/
theorem out_ok {l a b x y : List P1} {i j : Int} (h : Two s0 L l a b i) (h2 : Two s0 L b x y (j - i)) (h0 : 0 ≤ i) (hij : i ≤ j) (hj : j ≤ (cat s0 L l).size) :
    Wf s0 L (a ++ y) ∧ cat s0 L (a ++ y) = (cat s0 L l).extract 0 i.toNat ++ (cat s0 L l).extract j.toNat (cat s0 L l).size ∧ (a ++ y).length ≤ l.length + 2 := by
  have e := two_ext h
  have e2 := two_ext h2
  refine ⟨wf_app.2 ⟨h.wa, h2.wb⟩, ?_, by have := h.len; have := h2.len; rw [List.length_append]; omega⟩
  rw [cat_app, e.1, e2.2, e.2]
  congr 1
  rw [ByteArray.extract_extract]
  congr 1
  · omega
  · rw [ByteArray.size_extract]; omega
/-- A text as one piece. -/
theorem lay_ok (s : ByteArray) (hs : 0 < s.size) : WfP s [] ⟨false, 0, s.size, nlB s⟩ ∧ txP s [] ⟨false, 0, s.size, nlB s⟩ = s := by
  have e : txP s [] ⟨false, 0, s.size, nlB s⟩ = s := by
    unfold txP
    rw [if_neg (show ¬ ((⟨false, 0, s.size, nlB s⟩ : P1).f0 = true) from Bool.false_ne_true)]
    dsimp only
    rw [show (0 : Int).toNat = 0 from rfl, show ((0 : Int) + (s.size : Int)).toNat = s.size by omega, ex_all]
  refine ⟨⟨Int.le_refl _, by show (0 : Int) < s.size; omega, ?_, by rw [e]⟩, e⟩
  show (0 : Int) + (s.size : Int) ≤ (if false = true then ((0 : Nat) : Int) else (s.size : Int))
  rw [if_neg (by decide)]
  omega
end
structure TxOk (Φ : World → Prop) (s0 : ByteArray) (L : List Int) (T : AT) (D : List ByteArray) (d : Int) : Prop where
  at_ : ∀ W, Φ W → At W T
  bal : AT.bal T
  wf : Wf s0 L (fl T)
  by_ : Bytes L
  eD : D = chs s0 L (fl T)
  ed : d = ht T
  z0 : s0.size ≤ 65536
  zL : L.length ≤ 262144
  zc : (cat s0 L (fl T)).size ≤ 65536
def tcells (s0 : ByteArray) (A : Option Addr) (n c : Nat) (T : AT) : List Value := [.string s0, .slice A n c, .pointer (ptr T)]
def tx (Φ : World → Prop) (g : Nat) (D : List ByteArray) (d : Int) : HP := HP.ex fun s0 => HP.ex fun A => HP.ex fun c => HP.ex fun L => HP.ex fun T => (blk g (tcells s0 A L.length c T) 68).star ((rowl Φ 5 A c L).star (HP.pure (TxOk Φ s0 L T D d)))
section
variable {w0 w : World} {F0 : Nat → Prop} {cs : List HP} {Φ Ψ : World → Prop} {g : Nat} {D : List ByteArray} {d : Int}
theorem tx_open (h : St w0 F0 (tx Φ g D d :: cs) w) : ∃ s0 A c L T, TxOk Φ s0 L T D d ∧ L.length ≤ c ∧ St w0 F0 (blk g [.string s0, .slice A L.length c, .pointer (ptr T)] 68 :: rowl Φ 5 A c L :: cs) w := by
  obtain ⟨s0, h⟩ := st_unex h
  obtain ⟨A, h⟩ := st_unex h
  obtain ⟨c, h⟩ := st_unex h
  obtain ⟨L, h⟩ := st_unex h
  obtain ⟨T, h⟩ := st_unex h
  have h2 := st_front 1 (st_unstar h)
  have h3 := st_front 1 (st_unstar h2)
  obtain ⟨h4, h5⟩ := st_pure h3
  have h6 := st_front 1 h5
  exact ⟨s0, A, c, L, T, h4, (rowl_get h6 (i := 1) rfl).1, h6⟩
theorem tx_close {s0 : ByteArray} {A : Option Addr} {n c : Nat} {L : List Int} {T : AT} (hn : n = L.length) (ok : TxOk Φ s0 L T D d) (h : St w0 F0 (blk g [.string s0, .slice A n c, .pointer (ptr T)] 68 :: rowl Φ 5 A c L :: cs) w) : St w0 F0 (tx Φ g D d :: cs) w := by
  subst hn
  exact st_ex s0 (st_ex A (st_ex c (st_ex L (st_ex T (st_star (st_front 1 (st_star (st_front 1 (st_free (c := HP.pure (TxOk Φ s0 L T D d)) (st_front 1 h) ok)))))))))
theorem tx_weak (hs : ∀ W, Ψ W → Φ W) (h : St w0 F0 (tx Φ g D d :: cs) w) : St w0 F0 (tx Ψ g D d :: cs) w := by
  obtain ⟨s0, A, c, L, T, ok, _, h⟩ := tx_open h
  exact tx_close rfl ⟨fun W hW => ok.at_ W (hs W hW), ok.bal, ok.wf, ok.by_, ok.eD, ok.ed, ok.z0, ok.zL, ok.zc⟩ (st_front 1 (rowl_weak hs (st_front 1 h)))
theorem tok_cat {s0 : ByteArray} {L : List Int} {T : AT} (ok : TxOk Φ s0 L T D d) : catB D = cat s0 L (fl T) := by rw [ok.eD, catB_chs]
theorem tok_len {s0 : ByteArray} {L : List Int} {T : AT} (ok : TxOk Φ s0 L T D d) : (fl T).length = D.length := by rw [ok.eD, chs_len]
theorem tok_ne {s0 : ByteArray} {L : List Int} {T : AT} (ok : TxOk Φ s0 L T D d) : ∀ x ∈ D, 0 < x.size := by
  rw [ok.eD]
  intro x hx
  obtain ⟨p, hp, rfl⟩ := List.mem_map.1 hx
  have h1 := tx_size (ok.wf p hp)
  have h2 := (ok.wf p hp).f1
  omega
/-- How high a balanced tree is. -/
def dig : Nat → Nat
  | 0 => 0
  | n + 1 => 1 + dig ((n + 1) / 2)
decreasing_by omega
theorem dig_mono : ∀ (b a : Nat), a ≤ b → dig a ≤ dig b := by
  intro b
  induction b using Nat.strongRecOn with
  | _ b ih =>
    intro a h
    cases a with
    | zero => simp [dig]
    | succ a =>
      cases b with
      | zero => omega
      | succ b =>
        rw [dig, dig]
        have := ih ((b + 1) / 2) (by omega) ((a + 1) / 2) (by omega)
        omega
theorem dig_pos {n : Nat} (h : 0 < n) : dig n = 1 + dig (n / 2) := by
  cases n with
  | zero => omega
  | succ n => rw [dig]
/-- Two levels more: twice as many and one. -/
theorem bal_cnt : ∀ (n : Nat) (T : AT), AT.bal T → ht T = (n : Int) → n ≤ 2 * dig (AT.cnt T) := by
  intro n
  induction n using Nat.strongRecOn with
  | _ n ih =>
    intro T hb hh
    cases T with
    | nil => simp [ht] at hh; omega
    | nd g l p r =>
      obtain ⟨b1, b2, b3, b4⟩ := hb
      have hl := ht_nonneg l
      have hr := ht_nonneg r
      simp only [ht] at hh
      have hc : AT.cnt (.nd g l p r) = AT.cnt l + 1 + AT.cnt r := rfl
      rw [dig_pos (by omega), hc]
      rcases Nat.lt_or_ge n 3 with h3 | h3
      · omega
      · -- both trees below are at least n - 2 high
        have key : ∀ U : AT, AT.bal U → (n : Int) - 2 ≤ ht U → ht U ≤ (n : Int) - 1 → n - 2 ≤ 2 * dig (AT.cnt U) := fun U hU h1 h2 => by
          have h4 := ih (ht U).toNat (by omega) U hU (by omega)
          omega
        have k1 := key l b1 (by omega) (by omega)
        have k2 := key r b2 (by omega) (by omega)
        have : dig (min (AT.cnt l) (AT.cnt r)) ≤ dig ((AT.cnt l + 1 + AT.cnt r) / 2) := dig_mono _ _ (by omega)
        rcases Nat.le_total (AT.cnt l) (AT.cnt r) with z | z
        · rw [Nat.min_eq_left z] at this; omega
        · rw [Nat.min_eq_right z] at this; omega
structure Facts (D : List ByteArray) (d : Int) : Prop where
  size : (catB D).size ≤ 65536
  ne : ∀ x ∈ D, 0 < x.size
  d0 : 0 ≤ d
  d1 : d ≤ 2 * (dig D.length : Int)
  dn : D ≠ [] → 1 ≤ d
  dz : D = [] → d = 0
theorem tx_facts (h : St w0 F0 (tx Φ g D d :: cs) w) : Facts D d := by
  obtain ⟨s0, A, c, L, T, ok, _, h⟩ := tx_open h
  have e1 := tok_cat ok
  have e2 := tok_len ok
  have hh := ht_nonneg T
  refine ⟨by rw [e1]; exact ok.zc, tok_ne ok, by rw [ok.ed]; exact hh, ?_, fun hD => ?_, fun hD => ?_⟩
  · have := bal_cnt (ht T).toNat T ok.bal (by omega)
    rw [← cnt_fl T, e2] at this
    rw [ok.ed]
    omega
  · rw [ok.ed]
    cases T with
    | nil => exact absurd (by rw [ok.eD]; rfl) hD
    | nd g l p r => have h1 := ht_nonneg l; have h2 := ht_nonneg r; simp only [ht]; omega
  · rw [ok.ed]
    cases T with
    | nil => rfl
    | nd g l p r => rw [hD] at e2; simp [fl] at e2
end
end Go.Proofs.Ytieieindakbpoaa.Pc
