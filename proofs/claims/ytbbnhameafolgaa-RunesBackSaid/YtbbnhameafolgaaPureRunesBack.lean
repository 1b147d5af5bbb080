/- What runes are written as is right, has these runes, and their numbers alone write so; what is appended to is kept: the pure statement of RunesBack. For every two lists. -/
import Derived.Test.YtbbnhameafolgaaPureRunesEnds
import Derived.Test.YtbbnhameafolgaaPAllx7
import Derived.Test.YtbbnhameafolgaaLowBits
set_option linter.unusedVariables false
namespace Go.Proofs.Ytbbnhameafolgaa.Pure
open Go.RowKit Go.Proofs.Ytbbnhameafolgaa.PAll Go.Proofs.YtbbnhameafolgaaW.PrintWords Go.Proofs.YtbbnhameafolgaaW.PrintLast Go.Proofs.YtbbnhameafolgaaW.PrintMore Go.Proofs.Ytbbnhameafolgaa.Given

theorem or_lead (n : Nat) (b : Nat) (h : (n = 192 ∧ b < 32) ∨ (n = 224 ∧ b < 16) ∨ (n = 240 ∧ b < 8)) : n ||| b = n + b := by
  have h1 : ∀ b, b < 32 → 192 ||| b = 192 + b := by decide
  have h2 : ∀ b, b < 16 → 224 ||| b = 224 + b := by decide
  have h3 : ∀ b, b < 8 → 240 ||| b = 240 + b := by decide
  rcases h with ⟨rfl, h⟩ | ⟨rfl, h⟩ | ⟨rfl, h⟩
  · exact h1 b h
  · exact h2 b h
  · exact h3 b h
theorem bits_lead (n : Nat) (x : Int) (h0 : 0 ≤ x) (h : (n = 192 ∧ x < 32) ∨ (n = 224 ∧ x < 16) ∨ (n = 240 ∧ x < 8)) : Go.bits .or .u8 (n : Int) (x % 256) = n + x := by
  rw [u8_or (n : Int) (x % 256) (by omega) (by omega) (by omega) (by omega), Int.toNat_natCast, or_lead n (x % 256).toNat (by omega)]
  omega
theorem low_f (r n : Int) (h0 : 0 ≤ n) (h : n ≤ 32) : runes_low.f r n = some (128 + r / 2 ^ n.toNat % 64) := by
  unfold runes_low.f
  rw [if_pos h0, low_bits]
  unfold shr
  rw [show min n.toNat IntKind.i32.bits = n.toNat from Nat.min_eq_left (by show n.toNat ≤ 32; omega)]
theorem append_f (xs : List Int) (hx : xs.length ≤ 100000) (r : Int) (k : Nat) : runes_Append.f (k + 1) xs r = some (xs ++ bytesV r) := by
  have hlim : (xs.length : Nat) + 4 < 140737488355328 := Nat.lt_of_le_of_lt (Nat.add_le_add_right hx 4) (by decide)
  have hlim1 : xs.length < 140737488355328 := by omega
  unfold runes_Append.f
  simp only [bind_s, List.nil_append, List.length_nil, Nat.zero_add]
  rw [if_pos hlim1]
  unfold bytesV
  have hj : ∀ b, runes_Append.j0 (k + 1) r xs b = _ := fun b => by rw [runes_Append.j0]
  by_cases h1 : r < 0
  · rw [if_pos h1, if_pos (.inl h1), hj, if_pos rfl, List.append_nil]
  rw [if_neg h1]
  by_cases h2 : r > 1114111
  · rw [if_pos h2, if_pos (.inr (.inl h2)), hj, if_pos rfl, List.append_nil]
  rw [if_neg h2]
  have key : ¬ (55296 ≤ r ∧ r ≤ 57343) → runes_Append.j0 (k + 1) r xs false = some (xs ++ (if r < 0 ∨ 1114111 < r ∨ (55296 ≤ r ∧ r ≤ 57343) then [] else if r < 128 then [r] else if r < 2048 then [192 + r / 64, 128 + r % 64]
      else if r < 65536 then [224 + r / 4096, 128 + r / 64 % 64, 128 + r % 64] else [240 + r / 262144, 128 + r / 4096 % 64, 128 + r / 64 % 64, 128 + r % 64])) := by
    intro h3
    rw [hj, if_neg (by decide), if_neg (show ¬ (r < 0 ∨ 1114111 < r ∨ (55296 ≤ r ∧ r ≤ 57343)) by omega)]
    have l0 : runes_low.f r 0 = some (128 + r % 64) := by rw [low_f r 0 (by omega) (by omega)]; simp
    have l6 : runes_low.f r 6 = some (128 + r / 64 % 64) := by rw [low_f r 6 (by omega) (by omega)]; rfl
    have l12 : runes_low.f r 12 = some (128 + r / 4096 % 64) := by rw [low_f r 12 (by omega) (by omega)]; rfl
    by_cases c1 : r < 128
    · rw [if_pos c1, if_pos c1, if_pos hlim1, Int.emod_eq_of_lt (by omega) (by omega)]
    rw [if_neg c1, if_neg c1]
    by_cases c2 : r < 2048
    · rw [if_pos c2, if_pos c2, l0]
      simp only [bind_s]
      rw [show (192 : Int) = ((192 : Nat) : Int) from rfl, bits_lead 192 (r / 64) (by omega) (.inl ⟨rfl, by omega⟩), if_pos (by simp only [List.length_cons, List.length_nil]; omega)]
    rw [if_neg c2, if_neg c2]
    by_cases c3 : r < 65536
    · rw [if_pos c3, if_pos c3, l6, l0]
      simp only [bind_s]
      rw [show (224 : Int) = ((224 : Nat) : Int) from rfl, bits_lead 224 (r / 4096) (by omega) (.inr (.inl ⟨rfl, by omega⟩)), if_pos (by simp only [List.length_cons, List.length_nil]; omega)]
    rw [if_neg c3, if_neg c3, l12, l6, l0]
    simp only [bind_s]
    rw [show (240 : Int) = ((240 : Nat) : Int) from rfl, bits_lead 240 (r / 262144) (by omega) (.inr (.inr ⟨rfl, by omega⟩)), if_pos (by simp only [List.length_cons, List.length_nil]; omega)]
  by_cases h3 : r ≥ 55296
  · rw [if_pos h3]
    by_cases h4 : r < 57344
    · rw [if_pos (.inr (.inr ⟨h3, by omega⟩)), decide_eq_true h4, hj, if_pos rfl, List.append_nil]
    · rw [decide_eq_false h4]
      exact key (by omega)
  · rw [if_neg h3]
    exact key (by omega)

/-! what is written is read -/
theorem bytesV_range (r : Int) : ∀ x ∈ bytesV r, 0 ≤ x ∧ x ≤ 255 := by
  intro x hx
  unfold bytesV at hx
  split at hx
  · cases hx
  split at hx
  · simp at hx; omega
  split at hx
  · simp at hx; omega
  split at hx
  · simp at hx; omega
  · simp at hx; omega
theorem bytesV_len (r : Int) : (bytesV r).length ≤ 4 := by
  unfold bytesV
  repeat' split
  all_goals simp
theorem bt_nums (l : List Int) (hl : ∀ x ∈ l, 0 ≤ x ∧ x ≤ 255) (i : Int) (h0 : 0 ≤ i) (h1 : i < l.length) : bt (strOfNums l) i = rd l i := by
  have hz : (strOfNums l).size = l.length := by simp [strOfNums, ByteArray.size]
  have hi : i.toNat < l.length := by omega
  unfold bt rd
  rw [dif_pos (by omega)]
  have hm := hl (l[i.toNat]'hi) (List.getElem_mem _)
  have e : (strOfNums l)[i.toNat]'(by omega) = UInt8.ofNat (l[i.toNat]'hi).toNat := by
    simp [strOfNums, ByteArray.getElem_eq_getElem_data]
  rw [e]
  simp only [List.getD, List.getElem?_eq_getElem hi, Option.getD_some]
  rw [UInt8.toNat_ofNat_of_lt' (by show (l[i.toNat]'hi).toNat < 256; omega)]
  omega
theorem size_nums (l : List Int) : (strOfNums l).size = l.length := by simp [strOfNums, ByteArray.size]
/-- The rune that stands at the end of what was written. -/
theorem read_enc (t : ByteArray) (q r : Int) (h0 : 0 ≤ q) (hne : bytesV r ≠ []) (hz : q + (bytesV r).length ≤ t.size) (hb : ∀ i : Int, 0 ≤ i → i < (bytesV r).length → bt t (q + i) = rd (bytesV r) i) : readV t q = (r, ((bytesV r).length : Int)) := by
  unfold bytesV at hne hz hb ⊢
  by_cases c0 : r < 0 ∨ 1114111 < r ∨ (55296 ≤ r ∧ r ≤ 57343)
  · rw [if_pos c0] at hne; exact absurd rfl hne
  rw [if_neg c0] at hz hb ⊢
  by_cases c1 : r < 128
  · rw [if_pos c1] at hz hb ⊢
    have b0 := hb 0 (by omega) (by simp)
    rw [Int.add_zero] at b0
    unfold readV
    rw [b0, show rd [r] 0 = r from rfl, if_pos c1]
    rfl
  rw [if_neg c1] at hz hb ⊢
  by_cases c2 : r < 2048
  · rw [if_pos c2] at hz hb ⊢
    simp only [List.length_cons, List.length_nil] at hz hb
    have b0 := hb 0 (by omega) (by omega)
    have b1 := hb 1 (by omega) (by omega)
    rw [Int.add_zero] at b0
    unfold readV
    rw [b0, b1, show rd [192 + r / 64, 128 + r % 64] 0 = 192 + r / 64 from rfl, show rd [192 + r / 64, 128 + r % 64] 1 = 128 + r % 64 from rfl, if_neg (by omega), if_pos ⟨by omega, by unfold m2; omega⟩]
    unfold v2
    simp only [Prod.mk.injEq, List.length_cons, List.length_nil]
    omega
  rw [if_neg c2] at hz hb ⊢
  by_cases c3 : r < 65536
  · rw [if_pos c3] at hz hb ⊢
    simp only [List.length_cons, List.length_nil] at hz hb
    have b0 := hb 0 (by omega) (by omega)
    have b1 := hb 1 (by omega) (by omega)
    have b2 := hb 2 (by omega) (by omega)
    rw [Int.add_zero] at b0
    unfold readV
    rw [b0, b1, b2, show rd [224 + r / 4096, 128 + r / 64 % 64, 128 + r % 64] 0 = 224 + r / 4096 from rfl, show rd [224 + r / 4096, 128 + r / 64 % 64, 128 + r % 64] 1 = 128 + r / 64 % 64 from rfl,
      show rd [224 + r / 4096, 128 + r / 64 % 64, 128 + r % 64] 2 = 128 + r % 64 from rfl, if_neg (by omega), if_neg (by unfold m2; omega), if_pos ⟨by omega, by unfold m3; omega⟩]
    unfold v3
    simp only [Prod.mk.injEq, List.length_cons, List.length_nil]
    omega
  rw [if_neg c3] at hz hb ⊢
  simp only [List.length_cons, List.length_nil] at hz hb
  have b0 := hb 0 (by omega) (by omega)
  have b1 := hb 1 (by omega) (by omega)
  have b2 := hb 2 (by omega) (by omega)
  have b3 := hb 3 (by omega) (by omega)
  rw [Int.add_zero] at b0
  unfold readV
  rw [b0, b1, b2, b3, show rd [240 + r / 262144, 128 + r / 4096 % 64, 128 + r / 64 % 64, 128 + r % 64] 0 = 240 + r / 262144 from rfl, show rd [240 + r / 262144, 128 + r / 4096 % 64, 128 + r / 64 % 64, 128 + r % 64] 1 = 128 + r / 4096 % 64 from rfl,
    show rd [240 + r / 262144, 128 + r / 4096 % 64, 128 + r / 64 % 64, 128 + r % 64] 2 = 128 + r / 64 % 64 from rfl, show rd [240 + r / 262144, 128 + r / 4096 % 64, 128 + r / 64 % 64, 128 + r % 64] 3 = 128 + r % 64 from rfl,
    if_neg (by omega), if_neg (by unfold m2; omega), if_neg (by unfold m3; omega), if_pos ⟨by omega, by unfold m4; omega⟩]
  unfold v4
  simp only [Prod.mk.injEq, List.length_cons, List.length_nil]
  omega
/-- What is written so far: right, and these are its runes. -/
def Wrote (out want : List Int) : Prop := (∀ x ∈ out, 0 ≤ x ∧ x ≤ 255) ∧ ∃ l, Par (strOfNums out) 0 l out.length ∧ l.map (·.2) = want
theorem rd_append_left (a b : List Int) (i : Int) (h0 : 0 ≤ i) (h : i < a.length) : rd (a ++ b) i = rd a i := by
  unfold rd
  have hi : i.toNat < a.length := by omega
  simp [List.getD, List.getElem?_append_left hi]
theorem rd_append_right (a b : List Int) (i : Int) (h0 : 0 ≤ i) : rd (a ++ b) (a.length + i) = rd b i := by
  unfold rd
  rw [show ((a.length : Int) + i).toNat = a.length + i.toNat by omega]
  simp [List.getD, List.getElem?_append_right]
theorem wrote_more {out want : List Int} (h : Wrote out want) (r : Int) (hne : bytesV r ≠ []) : Wrote (out ++ bytesV r) (want ++ [r]) := by
  obtain ⟨ho, l, hp, hl⟩ := h
  have hr : ∀ x ∈ out ++ bytesV r, 0 ≤ x ∧ x ≤ 255 := fun x hx => by
    rcases List.mem_append.1 hx with hx | hx
    · exact ho x hx
    · exact bytesV_range r x hx
  have hz := size_nums (out ++ bytesV r)
  have hz' : (out ++ bytesV r).length = out.length + (bytesV r).length := List.length_append
  have hpos : 0 < (bytesV r).length := List.length_pos_iff.2 hne
  refine ⟨hr, l ++ [((out.length : Int), r)], ?_, by rw [List.map_append, hl]; rfl⟩
  have h1 := par_shift (t := strOfNums (out ++ bytesV r)) hp 0 (by omega) (by omega) fun i hi hi' => by
    rw [Int.add_zero, bt_nums _ hr i hi (by omega), bt_nums _ ho i hi (by omega), rd_append_left _ _ _ hi hi']
  simp only [Int.add_zero, List.map_id'] at h1
  have e := read_enc (strOfNums (out ++ bytesV r)) out.length r (by omega) hne (by omega) fun i hi hi' => by
    rw [bt_nums _ hr _ (by omega) (by omega), rd_append_right _ _ _ hi]
  have h2 : Par (strOfNums (out ++ bytesV r)) out.length [((out.length : Int), r)] ((out ++ bytesV r).length : Nat) := by
    have g := Par.cons (s := strOfNums (out ++ bytesV r)) (p := (out.length : Int)) (e := ((out ++ bytesV r).length : Nat)) (l := []) (by omega) (by omega) (by rw [e]; show (0 : Int) < ((bytesV r).length : Int); omega)
      (by rw [e]; show Par _ ((out.length : Int) + ((bytesV r).length : Int)) [] _; rw [show (((out ++ bytesV r).length : Nat) : Int) = (out.length : Int) + ((bytesV r).length : Int) by omega]; exact .nil _)
    rw [e] at g
    exact g
  have h1' : Par (strOfNums (out ++ bytesV r)) 0 l out.length := by simpa using h1
  exact par_append h1' h2
theorem wrap_i32 {r : Int} (h : (Lit.int .i32 r).wf = true) : wrap64 r = r := by
  simp only [Lit.wf, IntKind.min, IntKind.max, IntKind.signed, IntKind.bits, Bool.and_eq_true, decide_eq_true_eq, if_true] at h
  exact wrap_id (by omega) (by omega)
theorem cmp_go (b : List Int) (want vals : List Int) (hv : vals = want) (hlen : want.length ≤ 1000) (j : Nat) (hb : b.length ≤ 1000) : ∀ (l pre : List Int) (k : Nat), pre ++ l = want → k = l.length + j + 2 →
    regletlaw02_RunesBack.l1 k b want vals (pre.length : Int) = some true
  | [], pre, k, hp, hk => by
    subst hk
    subst hv
    simp only [List.append_nil] at hp
    subst hp
    rw [show ([] : List Int).length + j + 2 = (j + 1) + 1 by simp]
    rw [regletlaw02_RunesBack.l1, if_neg (by omega), append_f _ (by omega)]
    simp only [bind_s]
    rw [if_pos trivial, if_pos (Nat.le_trans (show (strOfNums b).size + 1 ≤ 1001 by rw [size_nums]; omega) (by decide))]
    congr 1
    rw [beq_iff_eq]
    congr 1
    apply ByteArray.ext
    rw [ByteArray.data_append]
    simp [strOfNums, bytesV]
  | x :: l, pre, k, hp, hk => by
    have hn : pre.length + (l.length + 1) = want.length := by rw [← hp]; simp
    obtain ⟨k, rfl⟩ : ∃ i, k = i + 1 := ⟨k - 1, by simp at hk; omega⟩
    have ih := cmp_go b want vals hv hlen j hb l (pre ++ [x]) k (by rw [List.append_assoc]; exact hp) (by simp at hk ⊢; omega)
    rw [regletlaw02_RunesBack.l1, hv, if_pos (by omega), if_pos (by omega), if_pos (by omega), if_pos rfl, wrap_id (by omega) (by omega)]
    rw [hv] at ih
    simpa using ih
theorem back_go (b : List Int) (hb : b.length ≤ 1000) (N : Nat) : ∀ (l pre out want : List Int) (k : Nat), (∀ x ∈ pre ++ l, (Lit.int .i32 x).wf = true) → pre.length + l.length ≤ 1000 → Wrote out want → out.length ≤ 4 * pre.length → want.length ≤ pre.length → k = l.length + N + 8000 →
    regletlaw02_RunesBack.l0 k (pre ++ l) b out want (pre.length : Int) = some true
  | [], pre, out, want, k, hw, hn, hW, ho, hwant, hk => by
    subst hk
    simp only [List.length_nil, List.length_append] at hn ⊢
    obtain ⟨hr, pl, hp, hl⟩ := hW
    have hz := size_nums out
    have hp' : Par (strOfNums out) 0 pl (strOfNums out).size := by rw [hz]; exact hp
    have hlen : pl.length = want.length := by rw [← hl]; simp
    rw [show 0 + N + 8000 = (N + 7998 + 1) + 1 by omega, regletlaw02_RunesBack.l0, if_neg (by simp), runes_ok _ (by omega) _ (by omega), par_refV hp']
    simp only [bind_s]
    rw [if_neg (by decide), List.length_map, if_pos (by omega), par_count hp' (by omega)]
    simp only [bind_s]
    rw [hlen, hl]
    simp only [bne_self_eq_false, regletlaw02_RunesBack.j2]
    rw [if_neg (by decide)]
    have g := cmp_go b want want rfl (by omega) (N + 7998 - want.length - 2) hb want [] (N + 7998) rfl (by omega)
    simpa using g
  | x :: l, pre, out, want, k, hw, hn, hW, ho, hwant, hk => by
    simp only [List.length_cons] at hn hk
    obtain ⟨k, rfl⟩ : ∃ i, k = i + 1 := ⟨k - 1, by omega⟩
    have hx := hw x (by simp)
    have hk' : ∃ i, k = i + 1 := ⟨k - 1, by omega⟩
    have ih := fun out' want' h1 h2 h3 => back_go b hb N l (pre ++ [x]) out' want' k (by rw [List.append_assoc]; exact hw) (by simp; omega) h1 h2 h3 (by omega)
    simp only [List.append_assoc, List.cons_append, List.nil_append, List.length_append, List.length_cons, List.length_nil, Int.natCast_add, Int.natCast_one, Nat.zero_add] at ih
    have hbl := bytesV_len x
    obtain ⟨i, hi⟩ := hk'
    rw [regletlaw02_RunesBack.l0, if_pos (by simp; omega), if_pos (by omega), rd_mid, wrap_i32 hx, wrap_id (x := (pre.length : Int) + 1) (by omega) (by omega)]
    conv in runes_Append.f k out x => rw [hi]
    rw [append_f out (by omega) x i]
    simp only [bind_s]
    rw [isRune]
    simp only [bind_s, decide_eq_true_eq]
    by_cases c : x < 0 ∨ 1114111 < x ∨ (55296 ≤ x ∧ x ≤ 57343)
    · have e : bytesV x = [] := by unfold bytesV; rw [if_pos c]
      rw [if_neg (fun h => h c), e, List.append_nil, if_pos rfl]
      exact ih out want hW (by omega) (by omega)
    · have hne : bytesV x ≠ [] := by
        unfold bytesV
        rw [if_neg c]
        repeat' split
        all_goals simp
      rw [if_pos c, if_pos (Nat.lt_of_le_of_lt (show want.length ≤ 1000 by omega) (by decide))]
      exact ih _ _ (wrote_more hW x hne) (by simp; omega) (by simp; omega)
theorem RunesBack : regletlaw02_RunesBack.Pure := by
  intro l b _ _ hl _ _ _
  refine ⟨l.length + 0 + 8000 + 1, ?_⟩
  unfold regletlaw02_RunesBack.f
  rw [awake_ok]
  simp only [bind_s, if_true]
  by_cases h1 : (l.length : Int) > 1000
  · rw [if_pos h1, regletlaw02_RunesBack.j0, if_pos rfl]
  rw [if_neg h1, regletlaw02_RunesBack.j0]
  by_cases h2 : (b.length : Int) > 1000
  · rw [decide_eq_true h2, if_pos rfl]
  rw [decide_eq_false h2, if_neg (by decide)]
  have g := back_go b (by omega) 0 l [] [] [] (l.length + 0 + 8000) (by simpa using hl) (by simp; omega) ⟨fun x hx => (by cases hx), [], .nil _, rfl⟩ (by simp) (by simp) rfl
  simpa using g
end Go.Proofs.Ytbbnhameafolgaa.Pure
