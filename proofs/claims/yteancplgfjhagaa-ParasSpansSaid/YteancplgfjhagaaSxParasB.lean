/- More walks of the package paras. -/
import Derived.Test.YteancplgfjhagaaProg
import Derived.Test.YteancplgfjhagaaSxGlue
import Derived.Test.YteancplgfjhagaaSxKinds
import Derived.Test.YteancplgfjhagaaParasTh
import Derived.Test.YteancplgfjhagaaSxParas
namespace Go.Proofs.Yteancplgfjhagaa.Paras.B
open Go Go.RowKit Go.Proofs.YteancplgfjhagaaW.PrintWords Go.Proofs.Yteancplgfjhagaa.Kinds Go.Proofs.Yteancplgfjhagaa.Paras
set_option linter.unusedVariables false
set_option linter.unusedSimpArgs false
theorem fo60_0 : Sx.fieldOff Try.prog 60 0 = some 0 := by kernel_rfl
theorem sh23 : Sx.shapeOf Try.prog 23 = some (false, 1) := by kernel_rfl
theorem es23 : Sx.elemSz Try.prog 23 = some (3, 1) := by kernel_rfl
theorem fo60_1 : Sx.fieldOff Try.prog 60 1 = some 1 := by kernel_rfl
theorem sh3 : Sx.shapeOf Try.prog 3 = some (false, 1) := by kernel_rfl
theorem fo60_2 : Sx.fieldOff Try.prog 60 2 = some 2 := by kernel_rfl
theorem sh4 : Sx.shapeOf Try.prog 4 = some (false, 1) := by kernel_rfl
theorem ent16 : Sx.Ent Try.prog 16 := ⟨Try.f16, Try.func16, by kernel_rfl, by kernel_rfl⟩
theorem ent17 : Sx.Ent Try.prog 17 := ⟨Try.f17, Try.func17, by kernel_rfl, by kernel_rfl⟩
theorem infb3 : (Try.prog.info? 3).map (fun i => (i.zero, i.size)) = some (some (.int .i64 (0)), 1) := by kernel_rfl
theorem fo41_0 : Sx.fieldOff Try.prog 41 0 = some 0 := by kernel_rfl
theorem inf3 : (Try.prog.info? 3).map (fun i => (i.zero, i.size, i.bytes)) = some (some (.int .i64 (0)), 1, 8) := by kernel_rfl
theorem fo41_1 : Sx.fieldOff Try.prog 41 1 = some 1 := by kernel_rfl
theorem zo41 : Sx.zeroOf Try.prog 41 = some (.agg #[.int .i64 (0), .int .i64 (0), .int .i64 (0)]) := by kernel_rfl
theorem ent31 : Sx.Ent Try.prog 31 := ⟨Try.f31, Try.func31, by kernel_rfl, by kernel_rfl⟩
theorem sh41 : Sx.shapeOf Try.prog 41 = some (true, 3) := by kernel_rfl
theorem ent36 : Sx.Ent Try.prog 36 := ⟨Try.f36, Try.func36, by kernel_rfl, by kernel_rfl⟩
theorem ent12 : Sx.Ent Try.prog 12 := ⟨Try.f12, Try.func12, by kernel_rfl, by kernel_rfl⟩
theorem szf3 : (Try.prog.info? 3).map (·.size) = some 1 := by kernel_rfl
theorem fo41_2 : Sx.fieldOff Try.prog 41 2 = some 2 := by kernel_rfl
theorem ent35 : Sx.Ent Try.prog 35 := ⟨Try.f35, Try.func35, by kernel_rfl, by kernel_rfl⟩

def placeI (x : IX) (a : Int) : Int × Int := if a = x.size ∧ x.open_ = false then ((x.lens.length : Int), 0) else if a = x.size then ((x.lens.length : Int) - 1, x.lens.getD (x.lens.length - 1) 0) else (((findP x.lens a : Nat) : Int), a - (x.lens.take (findP x.lens a)).sum)
theorem place_ok {x : IX} {a : Int} (hok : okI x) (h0 : 0 ≤ a) (h1 : a ≤ x.size) (hop : x.open_ = true → 0 < x.lens.length) : 0 ≤ (placeI x a).1 ∧ (placeI x a).1 ≤ x.lens.length ∧ 0 ≤ (placeI x a).2 ∧ (placeI x a).2 ≤ x.size ∧ ((placeI x a).1 < x.lens.length → (placeI x a).2 ≤ x.lens.getD (placeI x a).1.toNat 0) := by
  unfold placeI
  have hs := hok.2.1
  split
  · simp only; exact ⟨by omega, by omega, by omega, by omega, fun h => by omega⟩
  · split
    · rename_i h2 h3
      have h4 : x.open_ = true := by
        cases ho : x.open_ with
        | true => rfl
        | false => exact absurd ⟨h3, ho⟩ h2
      have h5 := hop h4
      have h6 := getD_pos hok.1 (x.lens.length - 1) (by omega)
      have h7 := sum_take_succ x.lens (x.lens.length - 1) (by omega)
      have h8 := sum_take_le hok.1 (x.lens.length - 1)
      have h9 := sum_take_le hok.1 (x.lens.length - 1 + 1)
      simp only
      refine ⟨by omega, by omega, by omega, by omega, fun _ => ?_⟩
      rw [show ((x.lens.length : Int) - 1).toNat = x.lens.length - 1 by omega]
      exact Int.le_refl _
    · rename_i h2 h3
      have h4 := findP_spec h0 (by omega) hok.1
      have h5 := sum_take_le hok.1 (findP x.lens a)
      have h6 := sum_take_succ x.lens (findP x.lens a) h4.1
      simp only [Int.toNat_natCast]
      exact ⟨by omega, by omega, by omega, by omega, fun _ => by omega⟩
theorem span_find {x : IX} {a : Int} (hok : okI x) (h0 : 0 ≤ a) (h1 : a < x.size) : (findI x a).1 = ((findP x.lens a : Nat) : Int) ∧ (findI x a).2 = true ∧ (spanI x ((findP x.lens a : Nat) : Int)).1 = (x.lens.take (findP x.lens a)).sum ∧ (spanI x ((findP x.lens a : Nat) : Int)).2.1 = (x.lens.take (findP x.lens a + 1)).sum ∧ (spanI x ((findP x.lens a : Nat) : Int)).2.2 = true ∧ 0 ≤ (x.lens.take (findP x.lens a)).sum ∧ (x.lens.take (findP x.lens a)).sum ≤ a ∧ a < (x.lens.take (findP x.lens a + 1)).sum ∧ findP x.lens a < x.lens.length := by
  have hs := hok.2.1
  have h4 := findP_spec h0 (by omega) hok.1
  have h5 := sum_take_le hok.1 (findP x.lens a)
  have e1 : findI x a = (((findP x.lens a : Nat) : Int), true) := by unfold findI; rw [if_neg (by omega)]
  have e2 : spanI x ((findP x.lens a : Nat) : Int) = ((x.lens.take (findP x.lens a)).sum, (x.lens.take (findP x.lens a + 1)).sum, true) := by unfold spanI; rw [if_neg (by omega), Int.toNat_natCast]
  rw [e1, e2]
  exact ⟨rfl, rfl, rfl, rfl, rfl, h5.1, h4.2.1, h4.2.2, h4.1⟩
def chgI (x : IX) (f o : Int) (m : List Int) : IX := ⟨x.lens.take f.toNat ++ m ++ x.lens.drop (f + o).toNat, x.size, x.open_⟩
/-- The new lengths. -/
def insL (m : List Int) (k rest : Int) (op : Bool) : List Int :=
  if op = true then (m.set 0 (m.getD 0 0 + k)).set (m.length - 1) ((m.set 0 (m.getD 0 0 + k)).getD (m.length - 1) 0 + rest)
  else if 0 < rest then m.set 0 (m.getD 0 0 + k) ++ [rest] else m.set 0 (m.getD 0 0 + k)
def newLI (x : IX) (a : Int) (s : ByteArray) : List Int := if (placeI x a).1 < x.lens.length then insL (lensOf s) (placeI x a).2 (x.lens.getD (placeI x a).1.toNat 0 - (placeI x a).2) (openOf s) else lensOf s
def oldI (x : IX) (a : Int) : Int := if (placeI x a).1 < x.lens.length then 1 else 0
def newOI (x : IX) (a : Int) (s : ByteArray) : Bool := if (x.lens.length : Int) - 1 ≤ (placeI x a).1 ∧ a = x.size then openOf s else x.open_
def insI (x : IX) (a : Int) (s : ByteArray) : IX × (Int × Int × Int) × Int :=
  if a < 0 ∨ x.size < a then (x, (0, 0, 0), 30) else if s = ByteArray.mk #[] then (x, (0, 0, 0), 0) else if 65536 - x.size < (s.size : Int) then (x, (0, 0, 0), 31)
  else (chgI ⟨x.lens, x.size + s.size, newOI x a s⟩ (placeI x a).1 (oldI x a) (newLI x a s), ((placeI x a).1, oldI x a, ((newLI x a s).length : Int)), 0)
theorem size_pos {s : ByteArray} (h : ¬ s = ByteArray.mk #[]) : 0 < s.size := by
  rcases Nat.eq_zero_or_pos s.size with h1 | h1
  · exfalso
    apply h
    cases s with
    | mk d =>
      have : d = #[] := Array.eq_empty_of_size_eq_zero h1
      rw [this]
  · exact h1
theorem lens_pos {s : ByteArray} (h : 0 < s.size) : 0 < (lensOf s).length := by
  have h1 := lensOf_ok s
  rcases Nat.eq_zero_or_pos (lensOf s).length with h2 | h2
  · have : lensOf s = [] := List.eq_nil_of_length_eq_zero h2
    rw [this] at h1; simp at h1; omega
  · exact h2
theorem getD_le {l : List Int} (h : ∀ n ∈ l, 1 ≤ n) (k : Nat) (hk : k < l.length) : 1 ≤ l.getD k 0 ∧ l.getD k 0 ≤ l.sum := by
  have h1 := sum_take_succ l k hk
  have h2 := sum_take_le h k
  have h3 := sum_take_le h (k + 1)
  exact ⟨getD_pos h k hk, by omega⟩
/-- What runs over from a to b. -/
def overI (x : IX) (a b : Int) : (Int × Int × Int) × Int :=
  if errI x a b ≠ 0 then ((0, 0, 0), errI x a b) else if a = b then ((0, 0, 0), 0) else
  ((((findP x.lens a : Nat) : Int), ((findP x.lens (b - 1) : Nat) : Int) - ((findP x.lens a : Nat) : Int) + 1, ((findP x.lens (b - 1) : Nat) : Int) - ((findP x.lens a : Nat) : Int) + 1), 0)
theorem err_ok {x : IX} {a b : Int} (h : ¬ errI x a b ≠ 0) : 0 ≤ a ∧ a ≤ b ∧ b ≤ x.size := by
  unfold errI at h
  by_cases hc : a < 0 ∨ x.size < b ∨ b < a
  · rw [if_pos hc] at h; exact absurd h (by decide)
  · omega

set_option maxRecDepth 100000 in
theorem place_calls {w0 w : World} {F0 : Nat → Prop} {R : List Sx.HP} (g : Nat) (x : IX) (a : Int) (hok : okI x) (ha : 0 ≤ a) (ha2 : a ≤ x.size) (hop : x.open_ = true → 0 < x.lens.length) (h : Sx.St w0 F0 ([ixB g (x)] ++ R) w) : Calls Try.prog 36 #[.pointer (some ⟨g, 0, none⟩), .int .i64 (a)] w (fun e w1 => e = .returned (.tuple #[.int .i64 (placeI x a).1, .int .i64 (placeI x a).2]) ∧ Sx.St w0 F0 (ixB g x :: R) w1) := by
 have hlen := len_le_sum hok.1
 refine Sx.calls_fn (vs := [.pointer (some ⟨g, 0, none⟩), .int .i64 (a)]) Try.func36 rfl Try.ntmps36 rfl ?_
 refine Sx.wc_seq ?_
 refine Sx.wc_region ?_
 refine Sx.wl_v rfl rfl (Sx.ov_assign _ rfl) ?_
 refine Sx.wl_v rfl rfl (Sx.ov_assign _ rfl) ?_
 refine Sx.wl_nil ?_
 refine Sx.qn_then ?_
 refine Sx.wc_seq ?_
 refine Sx.wc_region ?_
 refine Sx.wl_v rfl rfl (Sx.ov_move _ rfl) ?_
 refine Sx.wl_v rfl rfl (Sx.ov_nilCheck _ rfl) ?_
 refine Sx.wl_v rfl rfl (Sx.ov_fieldAddr _ ⟨g, 0, none⟩ _ rfl fo60_0 rfl) ?_
 obtain ⟨A1, c2, h⟩ := ixB_open h
 refine Sx.wl_v rfl rfl (Sx.ov_loadb 0 _ h rfl rfl sh23 rfl) ?_
 refine Sx.wl_v rfl rfl (Sx.ov_len _ _ _ _ _ rfl es23) ?_
 refine Sx.wl_v rfl rfl (Sx.ov_assign _ rfl) ?_
 refine Sx.wl_nil ?_
 refine Sx.qn_then ?_
 refine Sx.wc_seq ?_
 refine Sx.wc_seq ?_
 refine Sx.wc_region ?_
 refine Sx.wl_v rfl rfl (Sx.ov_move _ rfl) ?_
 refine Sx.wl_v rfl rfl (Sx.ov_move _ rfl) ?_
 refine Sx.wl_v rfl rfl (Sx.ov_nilCheck _ rfl) ?_
 refine Sx.wl_v rfl rfl (Sx.ov_fieldAddr _ ⟨g, 1, none⟩ _ rfl fo60_1 rfl) ?_
 refine Sx.wl_v rfl rfl (Sx.ov_loadb 0 _ h rfl rfl sh3 rfl) ?_
 refine Sx.wl_v rfl rfl (Sx.ov_bin _ rfl rfl (Sx.binR_eql)) ?_
 refine Sx.wl_v rfl rfl (Sx.ov_move _ rfl) ?_
 refine Sx.wl_split 21 rfl (fun c3 => ?_) (fun c3 => ?_)
 ·
  refine Sx.wl_v rfl rfl (Sx.ov_move _ rfl) ?_
  refine Sx.wl_v rfl rfl (Sx.ov_nilCheck _ rfl) ?_
  refine Sx.wl_v rfl rfl (Sx.ov_fieldAddr _ ⟨g, 2, none⟩ _ rfl fo60_2 rfl) ?_
  refine Sx.wl_v rfl rfl (Sx.ov_loadb 0 _ h rfl rfl sh4 rfl) ?_
  refine Sx.wl_v rfl rfl (Sx.ov_notb _ rfl) ?_
  refine Sx.wl_v rfl rfl (Sx.ov_pick_true _ rfl rfl) ?_
  refine Sx.wl_nil ?_
  refine Sx.qn_then ?_
  refine Sx.wc_condb (by rfl) (fun c4 => ?_) (fun c4 => ?_)
  ·
   have ho1_ : x.open_ = false := by simpa using c4
   refine Sx.wc_seq ?_
   refine Sx.wc_region ?_
   refine Sx.wl_v rfl rfl (Sx.ov_move _ rfl) ?_
   refine Sx.wl_v rfl rfl (Sx.ov_assign _ rfl) ?_
   refine Sx.wl_v rfl rfl (Sx.ov_assign _ rfl) ?_
   refine Sx.wl_nil ?_
   refine Sx.qn_then ?_
   refine Sx.wc_ret ?_
   refine Sx.qn_then_ret ?_
   replace h := Sx.st_front 1 h
   replace h := Sx.st_front 1 h
   replace h := ixB_close ((x).lens) ((x).size) (((x).open_)) (by first | rfl | simp) h
   refine Sx.qn_ret [_, _] ⟨rfl, rfl, trivial⟩ ?_
   have ho_ : x.open_ = false := by first | assumption | (simpa using ho1_)
   have e_ : placeI x a = ((x.lens.length : Int), 0) := by unfold placeI; rw [if_pos ⟨by omega, ho_⟩]
   rw [e_]
   exact ⟨rfl, h⟩
  ·
   have hop1_ : x.open_ = true := by simpa using c4
   have hop2_ := hop hop1_
   refine Sx.wc_skip ?_
   refine Sx.qn_then ?_
   refine Sx.wc_seq ?_
   refine Sx.wc_seq ?_
   refine Sx.wc_region ?_
   refine Sx.wl_v rfl rfl (Sx.ov_move _ rfl) ?_
   refine Sx.wl_v rfl rfl (Sx.ov_move _ rfl) ?_
   refine Sx.wl_v rfl rfl (Sx.ov_nilCheck _ rfl) ?_
   refine Sx.wl_v rfl rfl (Sx.ov_fieldAddr _ ⟨g, 1, none⟩ _ rfl fo60_1 rfl) ?_
   refine Sx.wl_v rfl rfl (Sx.ov_loadb 0 _ h rfl rfl sh3 rfl) ?_
   refine Sx.wl_v rfl rfl (Sx.ov_bin _ rfl rfl (Sx.binR_eql)) ?_
   refine Sx.wl_nil ?_
   refine Sx.qn_then ?_
   refine Sx.wc_cond (by rfl) (fun c5 => ?_) (fun c5 => ?_)
   ·
    refine Sx.wc_seq ?_
    refine Sx.wc_draw (fun w => Sx.St w0 F0 ([Sx.blk g [.slice (A1) (((x).lens).length) (c2), .int .i64 ((x).size), .bool ((x).open_)] 60, Sx.row (Kd.int .i64) 3 (A1) (c2) ((x).lens)] ++ R) w) (by kernel_rfl) ?_
    replace h := Sx.st_drew h
    refine Sx.wa_tk 0 rfl rfl rfl (Sx.st_selT [true, true] h) (fun w_ hS => Sx.ov_move _ rfl) ?_
    refine Sx.wa_tk 1 rfl rfl rfl (Sx.st_selT [true, true] h) (fun w_ hS => Sx.ov_bin _ rfl rfl (Sx.binR_sub (r := (((((x).lens).length : Nat) : Int)) - 1) (Sx.w64 (by first | omega | (rw [hsf.1, hsf.2.2.1]; omega))))) ?_
    refine Sx.wa_tk 2 rfl rfl rfl (Sx.st_selT [true, true] h) (fun w_ hS => Sx.ov_move _ rfl) ?_
    refine Sx.wa_tk 3 rfl rfl rfl (Sx.st_selT [true, true] h) (fun w_ hS => Sx.ov_nilCheck _ rfl) ?_
    refine Sx.wa_tk 4 rfl rfl rfl (Sx.st_selT [true, true] h) (fun w_ hS => Sx.ov_fieldAddr _ ⟨g, 0, none⟩ _ rfl fo60_0 rfl) ?_
    refine Sx.wa_tk 5 rfl rfl rfl (Sx.st_selT [true, true] h) (fun w_ hS => Sx.ov_loadb 0 _ hS rfl rfl sh23 rfl) ?_
    refine Sx.wa_tk 6 rfl rfl rfl (Sx.st_selT [true, true] h) (fun w_ hS => Sx.ov_move _ rfl) ?_
    refine Sx.wa_tk 7 rfl rfl rfl (Sx.st_selT [true, true] h) (fun w_ hS => Sx.ov_bin _ rfl rfl (Sx.binR_sub (r := (((((x).lens).length : Nat) : Int)) - 1) (Sx.w64 (by first | omega | (rw [hsf.1, hsf.2.2.1]; omega))))) ?_
    obtain ⟨ad6, rfl⟩ := Sx.C_some ((Sx.row_reads h (i := 1) rfl).2) (k := ((((x).lens).length) - 1)) (by first | assumption | omega)
    refine Sx.wa_tk 8 rfl rfl rfl (Sx.st_selT [true, true] h) (fun w_ hS => Sx.ov_indexAddrN _ _ _ _ _ ((((x).lens).length) - 1) rfl rfl es23 (by omega) (by first | assumption | omega | (simp only [List.length_take, List.length_drop, List.length_set]; omega))) ?_
    refine Sx.wa_tk 9 rfl rfl rfl (Sx.st_selT [true, true] h) (fun w_ hS => by
        obtain ⟨cl9, _, hk8, hc7⟩ := Sx.C_cells ((Sx.row_reads hS (i := 1) rfl).2) (z := (0 : Int)) (k := ((((x).lens).length) - 1)) (by first | assumption | omega)
        obtain rfl : cl9 = [.int .i64 _] := hk8
        exact Sx.ov_load1 _ _ rfl sh3 ((hc7 0 _ rfl))) ?_
    refine Sx.wa_tk 10 rfl rfl rfl (Sx.st_selT [true, true] h) (fun w_ hS => Sx.ov_assign _ rfl) ?_
    refine Sx.wa_tk 11 rfl rfl rfl (Sx.st_selT [true, true] h) (fun w_ hS => Sx.ov_assign _ rfl) ?_
    refine Sx.wa_done (by kernel_rfl) ?_
    refine Sx.qn_then ?_
    refine Sx.wc_ret ?_
    refine Sx.qn_then_ret ?_
    replace h := Sx.st_front 1 h
    replace h := Sx.st_front 1 h
    replace h := ixB_close ((x).lens) ((x).size) (((x).open_)) (by first | rfl | simp) h
    refine Sx.qn_ret [_, _] ⟨rfl, rfl, trivial⟩ ?_
    have e_ : placeI x a = ((x.lens.length : Int) - 1, x.lens.getD (x.lens.length - 1) 0) := by unfold placeI; rw [if_neg (fun e => by rw [e.2] at hop1_; exact absurd hop1_ (by decide)), if_pos (by omega)]
    rw [e_]
    exact ⟨rfl, h⟩
   ·
    exact absurd c3 c5
 ·
  have hsf := span_find hok (by omega) (show a < x.size by omega)
  refine Sx.wl_skip rfl rfl ?_
  refine Sx.wl_skip rfl rfl ?_
  refine Sx.wl_skip rfl rfl ?_
  refine Sx.wl_skip rfl rfl ?_
  refine Sx.wl_skip rfl rfl ?_
  refine Sx.wl_v rfl rfl (Sx.ov_pick_false _ rfl rfl) ?_
  refine Sx.wl_nil ?_
  refine Sx.qn_then ?_
  refine Sx.wc_cond_false rfl ?_
  refine Sx.wc_skip ?_
  refine Sx.qn_then ?_
  refine Sx.wc_seq ?_
  refine Sx.wc_seq ?_
  refine Sx.wc_region ?_
  refine Sx.wl_v rfl rfl (Sx.ov_move _ rfl) ?_
  refine Sx.wl_v rfl rfl (Sx.ov_move _ rfl) ?_
  refine Sx.wl_v rfl rfl (Sx.ov_nilCheck _ rfl) ?_
  refine Sx.wl_v rfl rfl (Sx.ov_fieldAddr _ ⟨g, 1, none⟩ _ rfl fo60_1 rfl) ?_
  refine Sx.wl_v rfl rfl (Sx.ov_loadb 0 _ h rfl rfl sh3 rfl) ?_
  refine Sx.wl_v rfl rfl (Sx.ov_bin _ rfl rfl (Sx.binR_eql)) ?_
  refine Sx.wl_nil ?_
  refine Sx.qn_then ?_
  refine Sx.wc_cond (by rfl) (fun c10 => ?_) (fun c10 => ?_)
  ·
   exact absurd c10 c3
  ·
   have hsf := span_find hok (by omega) (show a < x.size by omega)
   refine Sx.wc_skip ?_
   refine Sx.qn_then ?_
   refine Sx.wc_seq ?_
   refine Sx.wc_region ?_
   refine Sx.wl_v rfl rfl (Sx.ov_move _ rfl) ?_
   refine Sx.wl_v rfl rfl (Sx.ov_move _ rfl) ?_
   replace h := Sx.st_front 1 h
   replace h := Sx.st_front 1 h
   replace h := ixB_close ((x).lens) ((x).size) (((x).open_)) (by first | rfl | simp) h
   refine Sx.wl_call _ rfl rfl rfl ent16 (Find_calls (R := [] ++ R) g x a (by assumption) h) ?_
   rintro e_ w_ ⟨rfl, h⟩
   refine ⟨_, rfl, ?_⟩
   refine Sx.wl_v rfl rfl (Sx.ov_move _ rfl) ?_
   refine Sx.wl_v rfl rfl (Sx.ov_extract [.int .i64 ((findI x a).1), .bool ((findI x a).2)] _ rfl rfl) ?_
   refine Sx.wl_v rfl rfl (Sx.ov_extract [.int .i64 ((findI x a).1), .bool ((findI x a).2)] _ rfl rfl) ?_
   refine Sx.wl_v rfl rfl (Sx.ov_assign _ rfl) ?_
   refine Sx.wl_nil ?_
   refine Sx.qn_then ?_
   refine Sx.wc_seq ?_
   refine Sx.wc_region ?_
   refine Sx.wl_v rfl rfl (Sx.ov_move _ rfl) ?_
   refine Sx.wl_v rfl rfl (Sx.ov_move _ rfl) ?_
   refine Sx.wl_call _ rfl rfl rfl ent17 (Span_calls (R := [] ++ R) g x ((findI x a).1) (by assumption) h) ?_
   rintro e_ w_ ⟨rfl, h⟩
   refine ⟨_, rfl, ?_⟩
   refine Sx.wl_v rfl rfl (Sx.ov_move _ rfl) ?_
   refine Sx.wl_v rfl rfl (Sx.ov_extract [.int .i64 ((spanI x ((findI x a).1)).1), .int .i64 ((spanI x ((findI x a).1)).2.1), .bool ((spanI x ((findI x a).1)).2.2)] _ rfl rfl) ?_
   refine Sx.wl_v rfl rfl (Sx.ov_extract [.int .i64 ((spanI x ((findI x a).1)).1), .int .i64 ((spanI x ((findI x a).1)).2.1), .bool ((spanI x ((findI x a).1)).2.2)] _ rfl rfl) ?_
   refine Sx.wl_v rfl rfl (Sx.ov_extract [.int .i64 ((spanI x ((findI x a).1)).1), .int .i64 ((spanI x ((findI x a).1)).2.1), .bool ((spanI x ((findI x a).1)).2.2)] _ rfl rfl) ?_
   refine Sx.wl_v rfl rfl (Sx.ov_assign _ rfl) ?_
   refine Sx.wl_v rfl rfl (Sx.ov_assign _ rfl) ?_
   refine Sx.wl_v rfl rfl (Sx.ov_assign _ rfl) ?_
   refine Sx.wl_nil ?_
   refine Sx.qn_then ?_
   refine Sx.wc_seq ?_
   refine Sx.wc_region ?_
   refine Sx.wl_v rfl rfl (Sx.ov_move _ rfl) ?_
   refine Sx.wl_v rfl rfl (Sx.ov_move _ rfl) ?_
   refine Sx.wl_v rfl rfl (Sx.ov_move _ rfl) ?_
   refine Sx.wl_v rfl rfl (Sx.ov_bin _ rfl rfl (Sx.binR_sub (r := a - ((spanI x ((findI x a).1)).1)) (Sx.w64 (by first | omega | (rw [hsf.1, hsf.2.2.1]; omega))))) ?_
   refine Sx.wl_v rfl rfl (Sx.ov_assign _ rfl) ?_
   refine Sx.wl_v rfl rfl (Sx.ov_assign _ rfl) ?_
   refine Sx.wl_nil ?_
   refine Sx.qn_then ?_
   refine Sx.wc_ret ?_
   refine Sx.qn_ret [_, _] ⟨rfl, rfl, trivial⟩ ?_
   have e_ : placeI x a = (((findP x.lens a : Nat) : Int), a - (x.lens.take (findP x.lens a)).sum) := by unfold placeI; rw [if_neg (fun e => by omega), if_neg (by omega)]
   rw [hsf.1, hsf.2.2.1]
   rw [e_]
   exact ⟨rfl, h⟩
set_option maxRecDepth 100000 in
theorem change_calls {w0 w : World} {F0 : Nat → Prop} {R : List Sx.HP} (g : Nat) (x : IX) (f o z : Int) (m : List Int) (Am : Option Addr) (cm : Nat) (hf : 0 ≤ f) (ho : 0 ≤ o) (hfo : f + o ≤ x.lens.length) (hl : x.lens.length + m.length ≤ 2199023255552) (hm : ∀ cs w, Sx.St w0 F0 (cs ++ R) w → (Kd.int .i64).C w Am m.length m) (h : Sx.St w0 F0 ([ixB g (x)] ++ R) w) : Calls Try.prog 35 #[.pointer (some ⟨g, 0, none⟩), .agg #[.int .i64 (f), .int .i64 (o), .int .i64 (z)], .slice (Am) (m.length) (cm)] w (fun e w1 => e = .returned (.tuple #[]) ∧ Sx.St w0 F0 (ixB g (chgI x f o m) :: R) w1) := by
 refine Sx.calls_fn (vs := [.pointer (some ⟨g, 0, none⟩), .agg #[.int .i64 (f), .int .i64 (o), .int .i64 (z)], .slice (Am) (m.length) (cm)]) Try.func35 rfl Try.ntmps35 rfl ?_
 refine Sx.wc_seq ?_
 refine Sx.wc_region ?_
 refine Sx.wl_box _ h rfl rfl rfl (fun b1 _ h => ?_)
 replace h : Sx.St _ _ (Sx.blk b1 [.int .i64 (f), .int .i64 (o), .int .i64 (z)] 41 :: _) _ := h
 refine Sx.wl_nil ?_
 refine Sx.qn_then ?_
 refine Sx.wc_seq ?_
 replace h := Sx.st_front 1 h
 obtain ⟨A2, c3, h⟩ := ixB_open h
 refine Sx.wc_draw (fun w => Sx.St w0 F0 ([Sx.blk g [.slice (A2) (((x).lens).length) (c3), .int .i64 ((x).size), .bool ((x).open_)] 60, Sx.row (Kd.int .i64) 3 (A2) (c3) ((x).lens), Sx.blk b1 [.int .i64 (f), .int .i64 (o), .int .i64 (z)] 41] ++ R) w) (by kernel_rfl) ?_
 replace h := Sx.st_drew h
 refine Sx.wa_tk 1 rfl rfl rfl (Sx.st_selT [true, true, true] h) (fun w_ hS => Sx.ov_move _ rfl) ?_
 refine Sx.wa_tk 2 rfl rfl rfl (Sx.st_selT [true, true, true] h) (fun w_ hS => Sx.ov_nilCheck _ rfl) ?_
 refine Sx.wa_tk 3 rfl rfl rfl (Sx.st_selT [true, true, true] h) (fun w_ hS => Sx.ov_fieldAddr _ ⟨g, 0, none⟩ _ rfl fo60_0 rfl) ?_
 refine Sx.wa_tk 4 rfl rfl rfl (Sx.st_selT [true, true, true] h) (fun w_ hS => Sx.ov_loadb 0 _ hS rfl rfl sh23 rfl) ?_
 refine Sx.wa_tk 5 rfl rfl rfl (Sx.st_selT [true, true, true] h) (fun w_ hS => Sx.ov_fieldAddr _ ⟨b1, 0, none⟩ _ rfl fo41_0 rfl) ?_
 refine Sx.wa_tk 6 rfl rfl rfl (Sx.st_selT [true, true, true] h) (fun w_ hS => Sx.ov_loadb 2 _ hS rfl rfl sh3 rfl) ?_
 have hcap4 := (Sx.row_reads h (i := 1) rfl).1
 obtain ⟨A5, hA6⟩ : ∃ A_, (if c3 = 0 then A2 else Option.map (·.add (0 * 1)) (A2)) = A_ := ⟨_, rfl⟩
 refine Sx.wa_tk 7 rfl rfl rfl (Sx.st_selT [true, true, true] h) (fun w_ hS => by exact Sx.ov_slice _ _ _ 0 ((f : Int).toNat) (by rfl) (by exact rfl) (by exact ⟨_, _, rfl, (by omega)⟩) es23 (by omega) (by omega) hA6 (n' := ((((x).lens).take ((f : Int).toNat)).drop 0).length) (by simp only [List.length_drop, List.length_take]; omega)) ?_
 refine Sx.wa_one 0 rfl (by kernel_rfl) ?_
 refine Sx.wl_lit (d := (Kd.int .i64)) [] _ [] ([]) h rfl rfl rfl rfl Try.underlying23 infb3 rfl (by decide) (by kernel_rfl) rfl (fun _ _ _ => (Reps.none _ _)) (fun A7 cp8 _ h => ?_)
 refine Sx.wl_nil ?_
 refine Sx.qn_wa (Sx.st_selT [false, true, true, true] h) ?_
 refine Sx.wa_one 8 rfl (by kernel_rfl) ?_
 refine Sx.wl_append (d := (Kd.int .i64)) (L := []) 0 _ 8 _ _ _ ((((x).lens).take ((f : Int).toNat)).drop 0) (Sx.flat_int _) h rfl rfl rfl rfl rfl ((Sx.mid_C (lo := 0) (hi := ((f : Int).toNat)) (by omega) (by omega) hcap4 hA6 ((Sx.row_reads h (i := 2) rfl).2))) Try.underlying23 inf3 rfl (by decide) (by decide) (by simp only [List.length_nil, List.length_append, List.length_take, List.length_drop]; omega) (by first | rfl | simp) (fun A9 cp10 _ h => ?_)
 refine Sx.wl_nil ?_
 refine Sx.qn_wa (Sx.st_selT [false, true, true, true] h) ?_
 refine Sx.wa_tk 9 rfl rfl rfl (Sx.st_selT [false, true, true, true] h) (fun w_ hS => Sx.ov_assign _ rfl) ?_
 refine Sx.wa_done (by kernel_rfl) ?_
 refine Sx.qn_then ?_
 refine Sx.wc_seq ?_
 refine Sx.wc_region ?_
 refine Sx.wl_v rfl rfl (Sx.ov_move _ rfl) ?_
 refine Sx.wl_v rfl rfl (Sx.ov_move _ rfl) ?_
 refine Sx.wl_append (d := (Kd.int .i64)) (L := ([]) ++ ((((x).lens).take ((f : Int).toNat)).drop 0)) 0 _ 8 _ _ _ (m) (Sx.flat_int _) h rfl rfl rfl rfl rfl ((hm [_, _, _, _] _ h)) Try.underlying23 inf3 rfl (by decide) (by decide) (by simp only [List.length_nil, List.length_append, List.length_take, List.length_drop]; omega) (by first | rfl | simp) (fun A11 cp12 _ h => ?_)
 refine Sx.wl_v rfl rfl (Sx.ov_assign _ rfl) ?_
 refine Sx.wl_nil ?_
 refine Sx.qn_then ?_
 refine Sx.wc_draw (fun w => Sx.St w0 F0 ([Sx.row (Kd.int .i64) 3 (A2) (c3) ((x).lens), Sx.blk b1 [.int .i64 (f), .int .i64 (o), .int .i64 (z)] 41] ++ R) w) (by kernel_rfl) ?_
 replace h := Sx.st_drew h
 refine Sx.wa_tk 0 rfl rfl rfl (Sx.st_selT [false, false, true, true] h) (fun w_ hS => Sx.ov_move _ rfl) ?_
 refine Sx.wa_tk 1 rfl rfl rfl (Sx.st_selT [false, false, true, true] h) (fun w_ hS => Sx.ov_move _ rfl) ?_
 refine Sx.wa_tk 2 rfl rfl rfl (Sx.st_selT [false, false, true, true] h) (fun w_ hS => Sx.ov_move _ rfl) ?_
 refine Sx.wa_tk 3 rfl rfl rfl (Sx.st_selT [false, false, true, true] h) (fun w_ hS => Sx.ov_nilCheck _ rfl) ?_
 refine Sx.wa_tk 4 rfl rfl rfl (Sx.st_selT [false, false, true, true] h) (fun w_ hS => Sx.ov_fieldAddr _ ⟨g, 0, none⟩ _ rfl fo60_0 rfl) ?_
 refine Sx.wa_tk 6 rfl rfl rfl (Sx.st_selT [false, false, true, true] h) (fun w_ hS => Sx.ov_fieldAddr _ ⟨b1, 0, none⟩ _ rfl fo41_0 rfl) ?_
 refine Sx.wa_tk 7 rfl rfl rfl (Sx.st_selT [false, false, true, true] h) (fun w_ hS => Sx.ov_loadb 1 _ hS rfl rfl sh3 rfl) ?_
 refine Sx.wa_tk 8 rfl rfl rfl (Sx.st_selT [false, false, true, true] h) (fun w_ hS => Sx.ov_fieldAddr _ ⟨b1, 1, none⟩ _ rfl fo41_1 rfl) ?_
 refine Sx.wa_tk 9 rfl rfl rfl (Sx.st_selT [false, false, true, true] h) (fun w_ hS => Sx.ov_loadb 1 _ hS rfl rfl sh3 rfl) ?_
 refine Sx.wa_tk 10 rfl rfl rfl (Sx.st_selT [false, false, true, true] h) (fun w_ hS => Sx.ov_bin _ rfl rfl (Sx.binR_add (r := f + o) (Sx.w64 (by omega)))) ?_
 refine Sx.wa_one 5 rfl (by kernel_rfl) ?_
 refine Sx.wl_v rfl rfl (Sx.ov_loadb 1 _ h rfl rfl sh23 rfl) ?_
 refine Sx.wl_nil ?_
 refine Sx.qn_wa (Sx.st_selT [false, false, true, true] h) ?_
 have hcap13 := (Sx.row_reads h (i := 2) rfl).1
 obtain ⟨A14, hA15⟩ : ∃ A_, (if c3 = ((f + o : Int).toNat) then A2 else Option.map (·.add (((f + o : Int).toNat) * 1)) (A2)) = A_ := ⟨_, rfl⟩
 refine Sx.wa_tk 11 rfl rfl rfl (Sx.st_selT [false, false, true, true] h) (fun w_ hS => by exact Sx.ov_slice _ _ _ ((f + o : Int).toNat) (((x).lens).length) (by rfl) (by exact ⟨_, _, rfl, (by omega)⟩) (by exact rfl) es23 (by omega) (by omega) hA15 (n' := ((((x).lens).take (((x).lens).length)).drop ((f + o : Int).toNat)).length) (by simp only [List.length_drop, List.length_take]; omega)) ?_
 refine Sx.wa_one 12 rfl (by kernel_rfl) ?_
 refine Sx.wl_append (d := (Kd.int .i64)) (L := (([]) ++ ((((x).lens).take ((f : Int).toNat)).drop 0)) ++ m) 0 _ 8 _ _ _ ((((x).lens).take (((x).lens).length)).drop ((f + o : Int).toNat)) (Sx.flat_int _) h rfl rfl rfl rfl rfl ((Sx.mid_C (lo := ((f + o : Int).toNat)) (hi := (((x).lens).length)) (by omega) (by omega) hcap13 hA15 ((Sx.row_reads h (i := 2) rfl).2))) Try.underlying23 inf3 rfl (by decide) (by decide) (by simp only [List.length_nil, List.length_append, List.length_take, List.length_drop]; omega) (by first | rfl | simp) (fun A16 cp17 _ h => ?_)
 refine Sx.wl_nil ?_
 refine Sx.qn_wa (Sx.st_selT [false, false, true, true] h) ?_
 refine Sx.wa_tk 13 rfl rfl rfl (Sx.st_selT [false, false, true, true] h) (fun w_ hS => Sx.ov_nilCheck _ rfl) ?_
 refine Sx.wa_tk 14 rfl rfl rfl (Sx.st_selT [false, false, true, true] h) (fun w_ hS => Sx.ov_fieldAddr _ ⟨g, 0, none⟩ _ rfl fo60_0 rfl) ?_
 refine Sx.wa_one 15 rfl (by kernel_rfl) ?_
 refine Sx.wl_storeb 1 _ [.slice (A16) ((((([]) ++ ((((x).lens).take ((f : Int).toNat)).drop 0)) ++ m) ++ ((((x).lens).take (((x).lens).length)).drop ((f + o : Int).toNat))).length) (cp17), .int .i64 ((x).size), .bool ((x).open_)] h rfl rfl rfl rfl rfl rfl sh23 rfl rfl (fun _ h => ?_)
 refine Sx.wl_nil ?_
 refine Sx.qn_wa (Sx.st_selT [false, false, true, true] h) ?_
 refine Sx.wa_done (by kernel_rfl) ?_
 replace h := Sx.st_front 1 h
 replace h := ixB_close (((([]) ++ ((((x).lens).take ((f : Int).toNat)).drop 0)) ++ m) ++ ((((x).lens).take (((x).lens).length)).drop ((f + o : Int).toNat))) ((x).size) (((x).open_)) (by first | rfl | simp) h
 have e_ : (⟨((([]) ++ ((((x).lens).take ((f : Int).toNat)).drop 0)) ++ m) ++ ((((x).lens).take (((x).lens).length)).drop ((f + o : Int).toNat)), (x).size, ((x).open_)⟩ : IX) = chgI x f o m := by simp [chgI]
 replace h := Sx.st_cast (congrArg (fun z_ => ([ixB g (z_), Sx.row (Kd.int .i64) 3 (A2) (c3) ((x).lens), Sx.blk b1 [.int .i64 (f), .int .i64 (o), .int .i64 (z)] 41] ++ R)) e_) h
 clear e_
 replace h := Sx.st_selT [true, false, false] h
 refine Sx.qn_end [] trivial ?_
 exact ⟨rfl, h⟩

theorem change_calls2 {w0 w : World} {F0 : Nat → Prop} {R : List Sx.HP} (g : Nat) (x : IX) (f o z : Int) (m : List Int) (Am : Option Addr) (cm n : Nat) (hn : n = m.length) (hf : 0 ≤ f) (ho : 0 ≤ o) (hfo : f + o ≤ x.lens.length) (hl : x.lens.length + m.length ≤ 2199023255552) (hm : ∀ cs w, Sx.St w0 F0 (cs ++ R) w → (Kd.int .i64).C w Am m.length m) (h : Sx.St w0 F0 ([ixB g x] ++ R) w) :
    Calls Try.prog 35 #[.pointer (some ⟨g, 0, none⟩), .agg #[.int .i64 (f), .int .i64 (o), .int .i64 (z)], .slice Am n cm] w (fun e w1 => e = .returned (.tuple #[]) ∧ Sx.St w0 F0 (ixB g (chgI x f o m) :: R) w1) := by
  subst hn
  exact change_calls g x f o z m Am cm hf ho hfo hl hm h

set_option maxRecDepth 100000 in
theorem Over_calls {w0 w : World} {F0 : Nat → Prop} {R : List Sx.HP} (g : Nat) (x : IX) (a b : Int) (hok : okI x) (h : Sx.St w0 F0 ([ixB g (x)] ++ R) w) : Calls Try.prog 21 #[.pointer (some ⟨g, 0, none⟩), .int .i64 (a), .int .i64 (b)] w (fun e w1 => e = .returned (.tuple #[.agg #[.int .i64 (overI x a b).1.1, .int .i64 (overI x a b).1.2.1, .int .i64 (overI x a b).1.2.2], .int .i64 (overI x a b).2]) ∧ Sx.St w0 F0 (ixB g x :: R) w1) := by
 have hlen := len_le_sum hok.1
 refine Sx.calls_fn (vs := [.pointer (some ⟨g, 0, none⟩), .int .i64 (a), .int .i64 (b)]) Try.func21 rfl Try.ntmps21 rfl ?_
 refine Sx.wc_seq ?_
 refine Sx.wc_region ?_
 refine Sx.wl_alloc _ h rfl rfl zo41 (fun b1 _ h => ?_)
 replace h : Sx.St _ _ (Sx.blk b1 [.int .i64 (0), .int .i64 (0), .int .i64 (0)] 41 :: _) _ := h
 refine Sx.wl_v rfl rfl (Sx.ov_assign _ rfl) ?_
 refine Sx.wl_nil ?_
 refine Sx.qn_then ?_
 refine Sx.wc_seq ?_
 refine Sx.wc_seq ?_
 refine Sx.wc_region ?_
 refine Sx.wl_v rfl rfl (Sx.ov_move _ rfl) ?_
 refine Sx.wl_v rfl rfl (Sx.ov_move _ rfl) ?_
 refine Sx.wl_v rfl rfl (Sx.ov_move _ rfl) ?_
 replace h := Sx.st_front 1 h
 refine Sx.wl_call _ rfl rfl rfl ent31 (span_calls (R := [Sx.blk b1 [.int .i64 (0), .int .i64 (0), .int .i64 (0)] 41] ++ R) g x a b  h) ?_
 rintro e_ w_ ⟨rfl, h⟩
 refine ⟨_, rfl, ?_⟩
 refine Sx.wl_v rfl rfl (Sx.ov_assign _ rfl) ?_
 refine Sx.wl_nil ?_
 refine Sx.qn_then ?_
 refine Sx.wc_seq ?_
 refine Sx.wc_region ?_
 refine Sx.wl_v rfl rfl (Sx.ov_move _ rfl) ?_
 refine Sx.wl_v rfl rfl (Sx.ov_bin _ rfl rfl (Sx.binR_neq)) ?_
 refine Sx.wl_nil ?_
 refine Sx.qn_then ?_
 refine Sx.wc_cond (by rfl) (fun c2 => ?_) (fun c2 => ?_)
 ·
  refine Sx.wc_seq ?_
  refine Sx.wc_region ?_
  refine Sx.wl_v rfl rfl (Sx.ov_build [] [.int .i64 (0), .int .i64 (0), .int .i64 (0)] rfl rfl (by kernel_rfl)) ?_
  refine Sx.wl_v rfl rfl (Sx.ov_move _ rfl) ?_
  refine Sx.wl_storebN 1 [.int .i64 (0), .int .i64 (0), .int .i64 (0)] [.int .i64 (0), .int .i64 (0), .int .i64 (0)] h rfl rfl rfl rfl (by simp [Value.oneCell']) sh41 rfl rfl (fun _ h => ?_)
  refine Sx.wl_v rfl rfl (Sx.ov_assign _ rfl) ?_
  refine Sx.wl_nil ?_
  refine Sx.qn_then ?_
  refine Sx.wc_ret ?_
  refine Sx.qn_then_ret ?_
  have hend_ := h
  replace h := Sx.st_selT [true, false] h
  refine Sx.qn_ret [_, _] ⟨⟨_, rfl, Sx.loadVarN (vs := [.int .i64 (0), .int .i64 (0), .int .i64 (0)]) sh41 (Sx.blk_cells (cells := [.int .i64 (0), .int .i64 (0), .int .i64 (0)]) hend_ (i := 1) rfl 0 _ rfl)⟩, rfl, trivial⟩ ?_
  have e_ : overI x a b = ((0, 0, 0), errI x a b) := by unfold overI; rw [if_pos (by omega)]
  rw [e_]
  exact ⟨rfl, h⟩
 ·
  have her0 := err_ok c2
  refine Sx.wc_skip ?_
  refine Sx.qn_then ?_
  refine Sx.wc_seq ?_
  refine Sx.wc_seq ?_
  refine Sx.wc_region ?_
  refine Sx.wl_v rfl rfl (Sx.ov_move _ rfl) ?_
  refine Sx.wl_v rfl rfl (Sx.ov_move _ rfl) ?_
  refine Sx.wl_v rfl rfl (Sx.ov_bin _ rfl rfl (Sx.binR_eql)) ?_
  refine Sx.wl_nil ?_
  refine Sx.qn_then ?_
  refine Sx.wc_cond (by rfl) (fun c3 => ?_) (fun c3 => ?_)
  ·
   refine Sx.wc_seq ?_
   refine Sx.wc_region ?_
   refine Sx.wl_v rfl rfl (Sx.ov_build [] [.int .i64 (0), .int .i64 (0), .int .i64 (0)] rfl rfl (by kernel_rfl)) ?_
   refine Sx.wl_storebN 1 [.int .i64 (0), .int .i64 (0), .int .i64 (0)] [.int .i64 (0), .int .i64 (0), .int .i64 (0)] h rfl rfl rfl rfl (by simp [Value.oneCell']) sh41 rfl rfl (fun _ h => ?_)
   refine Sx.wl_v rfl rfl (Sx.ov_assign _ rfl) ?_
   refine Sx.wl_nil ?_
   refine Sx.qn_then ?_
   refine Sx.wc_ret ?_
   refine Sx.qn_then_ret ?_
   have hend_ := h
   replace h := Sx.st_selT [true, false] h
   refine Sx.qn_ret [_, _] ⟨⟨_, rfl, Sx.loadVarN (vs := [.int .i64 (0), .int .i64 (0), .int .i64 (0)]) sh41 (Sx.blk_cells (cells := [.int .i64 (0), .int .i64 (0), .int .i64 (0)]) hend_ (i := 1) rfl 0 _ rfl)⟩, rfl, trivial⟩ ?_
   have e_ : overI x a b = ((0, 0, 0), 0) := by unfold overI; rw [if_neg (by omega), if_pos (by omega)]
   rw [e_]
   exact ⟨rfl, h⟩
  ·
   have her := err_ok (x := x) (a := a) (b := b) (by assumption)
   have hfa := span_find hok (a := a) (by omega) (by omega)
   have hfb := span_find hok (a := b - 1) (by omega) (by omega)
   refine Sx.wc_skip ?_
   refine Sx.qn_then ?_
   refine Sx.wc_seq ?_
   refine Sx.wc_region ?_
   refine Sx.wl_v rfl rfl (Sx.ov_move _ rfl) ?_
   refine Sx.wl_v rfl rfl (Sx.ov_move _ rfl) ?_
   refine Sx.wl_call _ rfl rfl rfl ent16 (Find_calls (R := [Sx.blk b1 [.int .i64 (0), .int .i64 (0), .int .i64 (0)] 41] ++ R) g x a (by assumption) h) ?_
   rintro e_ w_ ⟨rfl, h⟩
   refine ⟨_, rfl, ?_⟩
   refine Sx.wl_v rfl rfl (Sx.ov_move _ rfl) ?_
   refine Sx.wl_v rfl rfl (Sx.ov_extract [.int .i64 ((findI x a).1), .bool ((findI x a).2)] _ rfl rfl) ?_
   refine Sx.wl_v rfl rfl (Sx.ov_extract [.int .i64 ((findI x a).1), .bool ((findI x a).2)] _ rfl rfl) ?_
   refine Sx.wl_v rfl rfl (Sx.ov_assign _ rfl) ?_
   refine Sx.wl_v rfl rfl (Sx.ov_assign _ rfl) ?_
   refine Sx.wl_nil ?_
   refine Sx.qn_then ?_
   refine Sx.wc_seq ?_
   refine Sx.wc_region ?_
   refine Sx.wl_v rfl rfl (Sx.ov_move _ rfl) ?_
   refine Sx.wl_v rfl rfl (Sx.ov_move _ rfl) ?_
   refine Sx.wl_v rfl rfl (Sx.ov_bin _ rfl rfl (Sx.binR_sub (r := b - 1) (Sx.w64 (by first | omega | (rw [hfa.1, hfb.1]; omega))))) ?_
   refine Sx.wl_call _ rfl rfl rfl ent16 (Find_calls (R := [Sx.blk b1 [.int .i64 (0), .int .i64 (0), .int .i64 (0)] 41] ++ R) g x (b - 1) (by assumption) h) ?_
   rintro e_ w_ ⟨rfl, h⟩
   refine ⟨_, rfl, ?_⟩
   refine Sx.wl_v rfl rfl (Sx.ov_move _ rfl) ?_
   refine Sx.wl_v rfl rfl (Sx.ov_extract [.int .i64 ((findI x (b - 1)).1), .bool ((findI x (b - 1)).2)] _ rfl rfl) ?_
   refine Sx.wl_v rfl rfl (Sx.ov_extract [.int .i64 ((findI x (b - 1)).1), .bool ((findI x (b - 1)).2)] _ rfl rfl) ?_
   refine Sx.wl_v rfl rfl (Sx.ov_assign _ rfl) ?_
   refine Sx.wl_v rfl rfl (Sx.ov_assign _ rfl) ?_
   refine Sx.wl_nil ?_
   refine Sx.qn_then ?_
   refine Sx.wc_seq ?_
   refine Sx.wc_region ?_
   refine Sx.wl_v rfl rfl (Sx.ov_move _ rfl) ?_
   refine Sx.wl_v rfl rfl (Sx.ov_move _ rfl) ?_
   refine Sx.wl_v rfl rfl (Sx.ov_move _ rfl) ?_
   refine Sx.wl_v rfl rfl (Sx.ov_bin _ rfl rfl (Sx.binR_sub (r := ((findI x (b - 1)).1) - ((findI x a).1)) (Sx.w64 (by first | omega | (rw [hfa.1, hfb.1]; omega))))) ?_
   refine Sx.wl_v rfl rfl (Sx.ov_bin _ rfl rfl (Sx.binR_add (r := (((findI x (b - 1)).1) - ((findI x a).1)) + 1) (Sx.w64 (by first | omega | (rw [hfa.1, hfb.1]; omega))))) ?_
   refine Sx.wl_v rfl rfl (Sx.ov_move _ rfl) ?_
   refine Sx.wl_v rfl rfl (Sx.ov_move _ rfl) ?_
   refine Sx.wl_v rfl rfl (Sx.ov_bin _ rfl rfl (Sx.binR_sub (r := ((findI x (b - 1)).1) - ((findI x a).1)) (Sx.w64 (by first | omega | (rw [hfa.1, hfb.1]; omega))))) ?_
   refine Sx.wl_v rfl rfl (Sx.ov_bin _ rfl rfl (Sx.binR_add (r := (((findI x (b - 1)).1) - ((findI x a).1)) + 1) (Sx.w64 (by first | omega | (rw [hfa.1, hfb.1]; omega))))) ?_
   refine Sx.wl_v rfl rfl (Sx.ov_build [(0, .int .i64 ((findI x a).1)), (1, .int .i64 ((((findI x (b - 1)).1) - ((findI x a).1)) + 1)), (2, .int .i64 ((((findI x (b - 1)).1) - ((findI x a).1)) + 1))] [.int .i64 ((findI x a).1), .int .i64 ((((findI x (b - 1)).1) - ((findI x a).1)) + 1), .int .i64 ((((findI x (b - 1)).1) - ((findI x a).1)) + 1)] rfl rfl (by kernel_rfl)) ?_
   refine Sx.wl_storebN 1 [.int .i64 ((findI x a).1), .int .i64 ((((findI x (b - 1)).1) - ((findI x a).1)) + 1), .int .i64 ((((findI x (b - 1)).1) - ((findI x a).1)) + 1)] [.int .i64 ((findI x a).1), .int .i64 ((((findI x (b - 1)).1) - ((findI x a).1)) + 1), .int .i64 ((((findI x (b - 1)).1) - ((findI x a).1)) + 1)] h rfl rfl rfl rfl (by simp [Value.oneCell']) sh41 rfl rfl (fun _ h => ?_)
   refine Sx.wl_v rfl rfl (Sx.ov_assign _ rfl) ?_
   refine Sx.wl_nil ?_
   refine Sx.qn_then ?_
   refine Sx.wc_ret ?_
   have hend_ := h
   replace h := Sx.st_selT [true, false] h
   refine Sx.qn_ret [_, _] ⟨⟨_, rfl, Sx.loadVarN (vs := [.int .i64 ((findI x a).1), .int .i64 ((((findI x (b - 1)).1) - ((findI x a).1)) + 1), .int .i64 ((((findI x (b - 1)).1) - ((findI x a).1)) + 1)]) sh41 (Sx.blk_cells (cells := [.int .i64 ((findI x a).1), .int .i64 ((((findI x (b - 1)).1) - ((findI x a).1)) + 1), .int .i64 ((((findI x (b - 1)).1) - ((findI x a).1)) + 1)]) hend_ (i := 1) rfl 0 _ rfl)⟩, rfl, trivial⟩ ?_
   have e_ : overI x a b = ((((findP x.lens a : Nat) : Int), ((findP x.lens (b - 1) : Nat) : Int) - ((findP x.lens a : Nat) : Int) + 1, ((findP x.lens (b - 1) : Nat) : Int) - ((findP x.lens a : Nat) : Int) + 1), 0) := by unfold overI; rw [if_neg (by omega), if_neg (by omega)]
   rw [hfa.1, hfb.1]
   rw [e_]
   exact ⟨rfl, h⟩

theorem insm_len (m : List Int) (k : Int) : (m.set 0 (m.getD 0 0 + k)).length = m.length := by simp
theorem insm_last {m : List Int} {k : Int} (h : ∀ n ∈ m, 1 ≤ n) (hm : 0 < m.length) (hk : 0 ≤ k) : 1 ≤ (m.set 0 (m.getD 0 0 + k)).getD (m.length - 1) 0 ∧ (m.set 0 (m.getD 0 0 + k)).getD (m.length - 1) 0 ≤ m.sum + k := by
  have h1 := getD_le h 0 hm
  have h2 := getD_le h (m.length - 1) (by omega)
  by_cases e : m.length - 1 = 0
  · rw [e]
    have : (m.set 0 (m.getD 0 0 + k)).getD 0 0 = m.getD 0 0 + k := by simp [List.getD, List.getElem?_set, hm]
    rw [this]; omega
  · have : (m.set 0 (m.getD 0 0 + k)).getD (m.length - 1) 0 = m.getD (m.length - 1) 0 := by
      simp only [List.getD_eq_getElem?_getD, List.getElem?_set]
      rw [if_neg (by omega)]
    rw [this]; omega

set_option maxHeartbeats 1000000 in
set_option maxRecDepth 100000 in
theorem Insert_calls {w0 w : World} {F0 : Nat → Prop} {R : List Sx.HP} (g : Nat) (x : IX) (a : Int) (s : ByteArray) (hok : okI x) (hs : s.size ≤ 1099511627776) (hop : x.open_ = true → 0 < x.lens.length) (h : Sx.St w0 F0 ([ixB g (x)] ++ R) w) : Calls Try.prog 26 #[.pointer (some ⟨g, 0, none⟩), .int .i64 (a), .string (s)] w (fun e w1 => e = .returned (.tuple #[.agg #[.int .i64 (insI x a s).2.1.1, .int .i64 (insI x a s).2.1.2.1, .int .i64 (insI x a s).2.1.2.2], .int .i64 (insI x a s).2.2]) ∧ Sx.St w0 F0 (ixB g (insI x a s).1 :: R) w1) := by
 have hlen := len_le_sum hok.1
 refine Sx.calls_fn (vs := [.pointer (some ⟨g, 0, none⟩), .int .i64 (a), .string (s)]) Try.func26 rfl Try.ntmps26 rfl ?_
 refine Sx.wc_seq ?_
 refine Sx.wc_region ?_
 refine Sx.wl_alloc _ h rfl rfl zo41 (fun b1 _ h => ?_)
 replace h : Sx.St _ _ (Sx.blk b1 [.int .i64 (0), .int .i64 (0), .int .i64 (0)] 41 :: _) _ := h
 refine Sx.wl_v rfl rfl (Sx.ov_assign _ rfl) ?_
 refine Sx.wl_nil ?_
 refine Sx.qn_then ?_
 refine Sx.wc_seq ?_
 refine Sx.wc_seq ?_
 refine Sx.wc_region ?_
 refine Sx.wl_v rfl rfl (Sx.ov_move _ rfl) ?_
 refine Sx.wl_v rfl rfl (Sx.ov_bin _ rfl rfl (Sx.binR_lss)) ?_
 refine Sx.wl_v rfl rfl (Sx.ov_move _ rfl) ?_
 refine Sx.wl_split 17 rfl (fun c2 => ?_) (fun c2 => ?_)
 ·
  refine Sx.wl_skip rfl rfl ?_
  refine Sx.wl_skip rfl rfl ?_
  refine Sx.wl_skip rfl rfl ?_
  refine Sx.wl_skip rfl rfl ?_
  refine Sx.wl_skip rfl rfl ?_
  refine Sx.wl_skip rfl rfl ?_
  refine Sx.wl_v rfl rfl (Sx.ov_pick_true _ rfl rfl) ?_
  refine Sx.wl_nil ?_
  refine Sx.qn_then ?_
  refine Sx.wc_cond_true rfl ?_
  refine Sx.wc_seq ?_
  refine Sx.wc_region ?_
  refine Sx.wl_v rfl rfl (Sx.ov_build [] [.int .i64 (0), .int .i64 (0), .int .i64 (0)] rfl rfl (by kernel_rfl)) ?_
  refine Sx.wl_storebN 0 [.int .i64 (0), .int .i64 (0), .int .i64 (0)] [.int .i64 (0), .int .i64 (0), .int .i64 (0)] h rfl rfl rfl rfl (by simp [Value.oneCell']) sh41 rfl rfl (fun _ h => ?_)
  refine Sx.wl_v rfl rfl (Sx.ov_assign _ rfl) ?_
  refine Sx.wl_nil ?_
  refine Sx.qn_then ?_
  refine Sx.wc_ret ?_
  refine Sx.qn_then_ret ?_
  have hend_ := h
  replace h := Sx.st_front 1 h
  replace h := Sx.st_selT [true, false] h
  refine Sx.qn_ret [_, _] ⟨⟨_, rfl, Sx.loadVarN (vs := [.int .i64 (0), .int .i64 (0), .int .i64 (0)]) sh41 (Sx.blk_cells (cells := [.int .i64 (0), .int .i64 (0), .int .i64 (0)]) hend_ (i := 0) rfl 0 _ rfl)⟩, rfl, trivial⟩ ?_
  have e_ : insI x a s = (x, (0, 0, 0), 30) := by unfold insI; rw [if_pos (by omega)]
  rw [e_]
  exact ⟨rfl, h⟩
 ·
  refine Sx.wl_v rfl rfl (Sx.ov_move _ rfl) ?_
  refine Sx.wl_v rfl rfl (Sx.ov_move _ rfl) ?_
  refine Sx.wl_v rfl rfl (Sx.ov_nilCheck _ rfl) ?_
  refine Sx.wl_v rfl rfl (Sx.ov_fieldAddr _ ⟨g, 1, none⟩ _ rfl fo60_1 rfl) ?_
  replace h := Sx.st_front 1 h
  obtain ⟨A3, c4, h⟩ := ixB_open h
  refine Sx.wl_v rfl rfl (Sx.ov_loadb 0 _ h rfl rfl sh3 rfl) ?_
  refine Sx.wl_v rfl rfl (Sx.ov_bin _ rfl rfl (Sx.binR_gtr)) ?_
  refine Sx.wl_v rfl rfl (Sx.ov_pick_false _ rfl rfl) ?_
  refine Sx.wl_nil ?_
  refine Sx.qn_then ?_
  refine Sx.wc_cond (by rfl) (fun c5 => ?_) (fun c5 => ?_)
  ·
   refine Sx.wc_seq ?_
   refine Sx.wc_region ?_
   refine Sx.wl_v rfl rfl (Sx.ov_build [] [.int .i64 (0), .int .i64 (0), .int .i64 (0)] rfl rfl (by kernel_rfl)) ?_
   refine Sx.wl_storebN 2 [.int .i64 (0), .int .i64 (0), .int .i64 (0)] [.int .i64 (0), .int .i64 (0), .int .i64 (0)] h rfl rfl rfl rfl (by simp [Value.oneCell']) sh41 rfl rfl (fun _ h => ?_)
   refine Sx.wl_v rfl rfl (Sx.ov_assign _ rfl) ?_
   refine Sx.wl_nil ?_
   refine Sx.qn_then ?_
   refine Sx.wc_ret ?_
   refine Sx.qn_then_ret ?_
   have hend_ := h
   replace h := Sx.st_front 1 h
   replace h := Sx.st_front 1 h
   replace h := ixB_close ((x).lens) ((x).size) (((x).open_)) (by first | rfl | simp) h
   replace h := Sx.st_selT [true, false] h
   refine Sx.qn_ret [_, _] ⟨⟨_, rfl, Sx.loadVarN (vs := [.int .i64 (0), .int .i64 (0), .int .i64 (0)]) sh41 (Sx.blk_cells (cells := [.int .i64 (0), .int .i64 (0), .int .i64 (0)]) hend_ (i := 2) rfl 0 _ rfl)⟩, rfl, trivial⟩ ?_
   have e_ : insI x a s = (x, (0, 0, 0), 30) := by unfold insI; rw [if_pos (by omega)]
   rw [e_]
   exact ⟨rfl, h⟩
  ·
   refine Sx.wc_skip ?_
   refine Sx.qn_then ?_
   refine Sx.wc_seq ?_
   refine Sx.wc_seq ?_
   refine Sx.wc_region ?_
   refine Sx.wl_v rfl rfl (Sx.ov_move _ rfl) ?_
   refine Sx.wl_v rfl rfl (Sx.ov_bin _ rfl rfl (Sx.binR_eqs)) ?_
   refine Sx.wl_nil ?_
   refine Sx.qn_then ?_
   refine Sx.wc_cond (by rfl) (fun c6 => ?_) (fun c6 => ?_)
   ·
    refine Sx.wc_seq ?_
    refine Sx.wc_region ?_
    refine Sx.wl_v rfl rfl (Sx.ov_build [] [.int .i64 (0), .int .i64 (0), .int .i64 (0)] rfl rfl (by kernel_rfl)) ?_
    refine Sx.wl_storebN 2 [.int .i64 (0), .int .i64 (0), .int .i64 (0)] [.int .i64 (0), .int .i64 (0), .int .i64 (0)] h rfl rfl rfl rfl (by simp [Value.oneCell']) sh41 rfl rfl (fun _ h => ?_)
    refine Sx.wl_v rfl rfl (Sx.ov_assign _ rfl) ?_
    refine Sx.wl_nil ?_
    refine Sx.qn_then ?_
    refine Sx.wc_ret ?_
    refine Sx.qn_then_ret ?_
    have hend_ := h
    replace h := Sx.st_front 1 h
    replace h := Sx.st_front 1 h
    replace h := ixB_close ((x).lens) ((x).size) (((x).open_)) (by first | rfl | simp) h
    replace h := Sx.st_selT [true, false] h
    refine Sx.qn_ret [_, _] ⟨⟨_, rfl, Sx.loadVarN (vs := [.int .i64 (0), .int .i64 (0), .int .i64 (0)]) sh41 (Sx.blk_cells (cells := [.int .i64 (0), .int .i64 (0), .int .i64 (0)]) hend_ (i := 2) rfl 0 _ rfl)⟩, rfl, trivial⟩ ?_
    have e_ : insI x a s = (x, (0, 0, 0), 0) := by unfold insI; rw [if_neg (by omega), if_pos (by assumption)]
    rw [e_]
    exact ⟨rfl, h⟩
   ·
    have hsz := size_pos c6
    have hlp := lens_pos hsz
    have hlo := lensOf_ok s
    have hg0 := getD_le hlo.2.2 0 hlp
    refine Sx.wc_skip ?_
    refine Sx.qn_then ?_
    refine Sx.wc_seq ?_
    refine Sx.wc_seq ?_
    refine Sx.wc_region ?_
    refine Sx.wl_v rfl rfl (Sx.ov_move _ rfl) ?_
    refine Sx.wl_v rfl rfl (Sx.ov_lens _ rfl Try.underlying9) ?_
    refine Sx.wl_v rfl rfl (Sx.ov_move _ rfl) ?_
    refine Sx.wl_v rfl rfl (Sx.ov_nilCheck _ rfl) ?_
    refine Sx.wl_v rfl rfl (Sx.ov_fieldAddr _ ⟨g, 1, none⟩ _ rfl fo60_1 rfl) ?_
    refine Sx.wl_v rfl rfl (Sx.ov_loadb 0 _ h rfl rfl sh3 rfl) ?_
    refine Sx.wl_v rfl rfl (Sx.ov_bin _ rfl rfl (Sx.binR_sub (r := 65536 - ((x).size)) (Sx.w64 (by omega)))) ?_
    refine Sx.wl_v rfl rfl (Sx.ov_bin _ rfl rfl (Sx.binR_gtr)) ?_
    refine Sx.wl_nil ?_
    refine Sx.qn_then ?_
    refine Sx.wc_cond (by rfl) (fun c7 => ?_) (fun c7 => ?_)
    ·
     refine Sx.wc_seq ?_
     refine Sx.wc_region ?_
     refine Sx.wl_v rfl rfl (Sx.ov_build [] [.int .i64 (0), .int .i64 (0), .int .i64 (0)] rfl rfl (by kernel_rfl)) ?_
     refine Sx.wl_storebN 2 [.int .i64 (0), .int .i64 (0), .int .i64 (0)] [.int .i64 (0), .int .i64 (0), .int .i64 (0)] h rfl rfl rfl rfl (by simp [Value.oneCell']) sh41 rfl rfl (fun _ h => ?_)
     refine Sx.wl_v rfl rfl (Sx.ov_assign _ rfl) ?_
     refine Sx.wl_nil ?_
     refine Sx.qn_then ?_
     refine Sx.wc_ret ?_
     refine Sx.qn_then_ret ?_
     have hend_ := h
     replace h := Sx.st_front 1 h
     replace h := Sx.st_front 1 h
     replace h := ixB_close ((x).lens) ((x).size) (((x).open_)) (by first | rfl | simp) h
     replace h := Sx.st_selT [true, false] h
     refine Sx.qn_ret [_, _] ⟨⟨_, rfl, Sx.loadVarN (vs := [.int .i64 (0), .int .i64 (0), .int .i64 (0)]) sh41 (Sx.blk_cells (cells := [.int .i64 (0), .int .i64 (0), .int .i64 (0)]) hend_ (i := 2) rfl 0 _ rfl)⟩, rfl, trivial⟩ ?_
     have e_ : insI x a s = (x, (0, 0, 0), 31) := by unfold insI; rw [if_neg (by omega), if_neg (by assumption), if_pos (by omega)]
     rw [e_]
     exact ⟨rfl, h⟩
    ·
     have hpl := place_ok hok (a := a) (by omega) (by omega) hop
     refine Sx.wc_skip ?_
     refine Sx.qn_then ?_
     refine Sx.wc_seq ?_
     refine Sx.wc_region ?_
     refine Sx.wl_v rfl rfl (Sx.ov_move _ rfl) ?_
     refine Sx.wl_v rfl rfl (Sx.ov_move _ rfl) ?_
     replace h := Sx.st_front 1 h
     replace h := Sx.st_front 1 h
     replace h := ixB_close ((x).lens) ((x).size) (((x).open_)) (by first | rfl | simp) h
     refine Sx.wl_call _ rfl rfl rfl ent36 (place_calls (R := [Sx.blk b1 [.int .i64 (0), .int .i64 (0), .int .i64 (0)] 41] ++ R) g x a (by assumption) (by omega) (by omega) (by assumption) h) ?_
     rintro e_ w_ ⟨rfl, h⟩
     refine ⟨_, rfl, ?_⟩
     refine Sx.wl_v rfl rfl (Sx.ov_move _ rfl) ?_
     refine Sx.wl_v rfl rfl (Sx.ov_extract [.int .i64 ((placeI x a).1), .int .i64 ((placeI x a).2)] _ rfl rfl) ?_
     refine Sx.wl_v rfl rfl (Sx.ov_extract [.int .i64 ((placeI x a).1), .int .i64 ((placeI x a).2)] _ rfl rfl) ?_
     refine Sx.wl_v rfl rfl (Sx.ov_assign _ rfl) ?_
     refine Sx.wl_v rfl rfl (Sx.ov_assign _ rfl) ?_
     refine Sx.wl_nil ?_
     refine Sx.qn_then ?_
     refine Sx.wc_seq ?_
     refine Sx.wc_region ?_
     refine Sx.wl_v rfl rfl (Sx.ov_move _ rfl) ?_
     refine Sx.wl_call _ rfl rfl rfl ent12 (Split_calls (R := [ixB g (x), Sx.blk b1 [.int .i64 (0), .int .i64 (0), .int .i64 (0)] 41] ++ R) s (by omega) h) ?_
     rintro e_ w_ ⟨A8, cp9, rfl, h⟩
     refine ⟨_, rfl, ?_⟩
     refine Sx.wl_v rfl rfl (Sx.ov_move _ rfl) ?_
     refine Sx.wl_v rfl rfl (Sx.ov_extract [.slice (A8) ((lensOf s).length) (cp9), .bool (openOf s)] _ rfl rfl) ?_
     refine Sx.wl_v rfl rfl (Sx.ov_extract [.slice (A8) ((lensOf s).length) (cp9), .bool (openOf s)] _ rfl rfl) ?_
     refine Sx.wl_v rfl rfl (Sx.ov_assign _ rfl) ?_
     refine Sx.wl_v rfl rfl (Sx.ov_assign _ rfl) ?_
     refine Sx.wl_nil ?_
     refine Sx.qn_then ?_
     refine Sx.wc_seq ?_
     refine Sx.wc_region ?_
     refine Sx.wl_v rfl rfl (Sx.ov_move _ rfl) ?_
     refine Sx.wl_v rfl rfl (Sx.ov_build [(0, .int .i64 ((placeI x a).1))] [.int .i64 ((placeI x a).1), .int .i64 (0), .int .i64 (0)] rfl rfl (by kernel_rfl)) ?_
     refine Sx.wl_alloc _ h rfl rfl zo41 (fun b10 _ h => ?_)
     replace h : Sx.St _ _ (Sx.blk b10 [.int .i64 (0), .int .i64 (0), .int .i64 (0)] 41 :: _) _ := h
     refine Sx.wl_storebN 0 [.int .i64 ((placeI x a).1), .int .i64 (0), .int .i64 (0)] [.int .i64 ((placeI x a).1), .int .i64 (0), .int .i64 (0)] h rfl rfl rfl rfl (by simp [Value.oneCell']) sh41 rfl rfl (fun _ h => ?_)
     refine Sx.wl_nil ?_
     refine Sx.qn_then ?_
     refine Sx.wc_seq ?_
     refine Sx.wc_region ?_
     refine Sx.wl_v rfl rfl (Sx.ov_move _ rfl) ?_
     refine Sx.wl_v rfl rfl (Sx.ov_move _ rfl) ?_
     refine Sx.wl_v rfl rfl (Sx.ov_nilCheck _ rfl) ?_
     refine Sx.wl_v rfl rfl (Sx.ov_fieldAddr _ ⟨g, 0, none⟩ _ rfl fo60_0 rfl) ?_
     replace h := Sx.st_front 2 h
     obtain ⟨A11, c12, h⟩ := ixB_open h
     refine Sx.wl_v rfl rfl (Sx.ov_loadb 0 _ h rfl rfl sh23 rfl) ?_
     refine Sx.wl_v rfl rfl (Sx.ov_len _ _ _ _ _ rfl es23) ?_
     refine Sx.wl_v rfl rfl (Sx.ov_bin _ rfl rfl (Sx.binR_sub (r := (((((x).lens).length : Nat) : Int)) - 1) (Sx.w64 (by omega)))) ?_
     refine Sx.wl_v rfl rfl (Sx.ov_bin _ rfl rfl (Sx.binR_geq)) ?_
     refine Sx.wl_v rfl rfl (Sx.ov_assign _ rfl) ?_
     refine Sx.wl_nil ?_
     refine Sx.qn_then ?_
     refine Sx.wc_seq ?_
     refine Sx.wc_seq ?_
     refine Sx.wc_region ?_
     refine Sx.wl_v rfl rfl (Sx.ov_move _ rfl) ?_
     refine Sx.wl_v rfl rfl (Sx.ov_move _ rfl) ?_
     refine Sx.wl_v rfl rfl (Sx.ov_nilCheck _ rfl) ?_
     refine Sx.wl_v rfl rfl (Sx.ov_fieldAddr _ ⟨g, 0, none⟩ _ rfl fo60_0 rfl) ?_
     refine Sx.wl_v rfl rfl (Sx.ov_loadb 0 _ h rfl rfl sh23 rfl) ?_
     refine Sx.wl_v rfl rfl (Sx.ov_len _ _ _ _ _ rfl es23) ?_
     refine Sx.wl_v rfl rfl (Sx.ov_bin _ rfl rfl (Sx.binR_lss)) ?_
     refine Sx.wl_nil ?_
     refine Sx.qn_then ?_
     refine Sx.wc_cond (by rfl) (fun c13 => ?_) (fun c13 => ?_)
     ·
      have hgp := getD_le hok.1 (placeI x a).1.toNat (by omega)
      have hpk := hpl.2.2.2.2 (by omega)
      have hlm := insm_len (lensOf s) (placeI x a).2
      have hml := insm_last hlo.2.2 hlp hpl.2.2.1 (k := (placeI x a).2)
      refine Sx.wc_seq ?_
      refine Sx.wc_region ?_
      refine Sx.wl_v rfl rfl (Sx.ov_fieldAddr _ ⟨b10, 1, none⟩ _ rfl fo41_1 rfl) ?_
      refine Sx.wl_storeb 2 _ [.int .i64 ((placeI x a).1), .int .i64 (1), .int .i64 (0)] h rfl rfl rfl rfl rfl rfl sh3 rfl rfl (fun _ h => ?_)
      refine Sx.wl_nil ?_
      refine Sx.qn_then ?_
      refine Sx.wc_seq ?_
      refine Sx.wc_region ?_
      refine Sx.wl_v rfl rfl (Sx.ov_move _ rfl) ?_
      refine Sx.wl_v rfl rfl (Sx.ov_nilCheck _ rfl) ?_
      refine Sx.wl_v rfl rfl (Sx.ov_fieldAddr _ ⟨g, 0, none⟩ _ rfl fo60_0 rfl) ?_
      refine Sx.wl_v rfl rfl (Sx.ov_loadb 0 _ h rfl rfl sh23 rfl) ?_
      refine Sx.wl_v rfl rfl (Sx.ov_move _ rfl) ?_
      obtain ⟨ad14, rfl⟩ := Sx.C_some ((Sx.row_reads h (i := 1) rfl).2) (k := ((placeI x a).1 : Int).toNat) (by first | assumption | omega)
      refine Sx.wl_v rfl rfl (Sx.ov_indexAddrN _ _ _ _ _ ((placeI x a).1 : Int).toNat rfl rfl es23 (by omega) (by first | assumption | omega | (simp only [List.length_take, List.length_drop, List.length_set]; omega))) ?_
      obtain ⟨cl17, _, hk16, hc15⟩ := Sx.C_cells ((Sx.row_reads h (i := 1) rfl).2) (z := (0 : Int)) (k := ((placeI x a).1 : Int).toNat) (by first | assumption | omega)
      obtain rfl : cl17 = [.int .i64 _] := hk16
      refine Sx.wl_v rfl rfl (Sx.ov_load1 _ _ rfl sh3 ((hc15 0 _ rfl))) ?_
      refine Sx.wl_v rfl rfl (Sx.ov_move _ rfl) ?_
      refine Sx.wl_v rfl rfl (Sx.ov_bin _ rfl rfl (Sx.binR_sub (r := (((x).lens).getD ((placeI x a).1 : Int).toNat (0 : Int)) - ((placeI x a).2)) (Sx.w64 (by omega)))) ?_
      refine Sx.wl_v rfl rfl (Sx.ov_assign _ rfl) ?_
      refine Sx.wl_nil ?_
      refine Sx.qn_then ?_
      refine Sx.wc_seq ?_
      refine Sx.wc_region ?_
      refine Sx.wl_v rfl rfl (Sx.ov_move _ rfl) ?_
      obtain ⟨ad18, rfl⟩ := Sx.C_some ((Sx.row_reads h (i := 3) rfl).2) (k := 0) (by first | assumption | omega)
      refine Sx.wl_v rfl rfl (Sx.ov_indexAddrN _ _ _ _ _ 0 rfl rfl es23 rfl (by first | assumption | omega | (simp only [List.length_take, List.length_drop, List.length_set]; omega))) ?_
      obtain ⟨cl21, _, hk20, hc19⟩ := Sx.C_cells ((Sx.row_reads h (i := 3) rfl).2) (z := (0 : Int)) (k := 0) (by first | assumption | omega)
      obtain rfl : cl21 = [.int .i64 _] := hk20
      refine Sx.wl_v rfl rfl (Sx.ov_load1 _ _ rfl sh3 ((hc19 0 _ rfl))) ?_
      refine Sx.wl_v rfl rfl (Sx.ov_move _ rfl) ?_
      refine Sx.wl_v rfl rfl (Sx.ov_bin _ rfl rfl (Sx.binR_add (r := ((lensOf s).getD 0 (0 : Int)) + ((placeI x a).2)) (Sx.w64 (by omega)))) ?_
      refine Sx.wl_v rfl rfl (Sx.ov_indexAddrN _ _ _ _ _ 0 rfl rfl es23 rfl (by first | assumption | omega | (simp only [List.length_take, List.length_drop, List.length_set]; omega))) ?_
      refine Sx.wl_storeeN 3 0 0 (.int .i64 (((lensOf s).getD 0 (0 : Int)) + ((placeI x a).2))) [.int .i64 (((lensOf s).getD 0 (0 : Int)) + ((placeI x a).2))] (0 : Int) (((lensOf s).getD 0 (0 : Int)) + ((placeI x a).2)) h rfl rfl rfl (by first | rfl | simp) rfl rfl (by simp [Value.oneCell']) szf3 (by first | assumption | omega) (Nat.le_of_ble_eq_true rfl) (by intro cl hcl hM; obtain ⟨_, _, _, hM⟩ := hM; obtain rfl : cl = [.int .i64 _] := hM; intro _ _ _; exact (Sx.mkInt .i64 (((lensOf s).getD 0 (0 : Int)) + ((placeI x a).2)))) (fun _ h => ?_)
      refine Sx.wl_nil ?_
      refine Sx.qn_then ?_
      refine Sx.wc_block ?_
      refine Sx.wc_seq ?_
      refine Sx.wc_region ?_
      refine Sx.wl_v rfl rfl (Sx.ov_move _ rfl) ?_
      refine Sx.wl_v rfl rfl (Sx.ov_assign _ rfl) ?_
      refine Sx.wl_nil ?_
      refine Sx.qn_then ?_
      refine Sx.wc_condb (by rfl) (fun c22 => ?_) (fun c22 => ?_)
      ·
       refine Sx.wc_region ?_
       refine Sx.wl_v rfl rfl (Sx.ov_move _ rfl) ?_
       refine Sx.wl_v rfl rfl (Sx.ov_move _ rfl) ?_
       refine Sx.wl_v rfl rfl (Sx.ov_len _ _ _ _ _ rfl es23) ?_
       refine Sx.wl_v rfl rfl (Sx.ov_bin _ rfl rfl (Sx.binR_sub (r := ((((lensOf s).length : Nat) : Int)) - 1) (Sx.w64 (by omega)))) ?_
       refine Sx.wl_v rfl rfl (Sx.ov_indexAddrN _ _ _ _ _ (((lensOf s).length) - 1) rfl rfl es23 (by omega) (by first | assumption | omega | (simp only [List.length_take, List.length_drop, List.length_set]; omega))) ?_
       obtain ⟨cl25, _, hk24, hc23⟩ := Sx.C_cells ((Sx.row_reads h (i := 3) rfl).2) (z := (0 : Int)) (k := (((lensOf s).length) - 1)) (by first | assumption | omega)
       obtain rfl : cl25 = [.int .i64 _] := hk24
       refine Sx.wl_v rfl rfl (Sx.ov_load1 _ _ rfl sh3 ((hc23 0 _ rfl))) ?_
       refine Sx.wl_v rfl rfl (Sx.ov_move _ rfl) ?_
       refine Sx.wl_v rfl rfl (Sx.ov_bin _ rfl rfl (Sx.binR_add (r := (((lensOf s).set 0 (((lensOf s).getD 0 (0 : Int)) + ((placeI x a).2))).getD (((lensOf s).length) - 1) (0 : Int)) + ((((x).lens).getD ((placeI x a).1 : Int).toNat (0 : Int)) - ((placeI x a).2))) (Sx.w64 (by omega)))) ?_
       refine Sx.wl_v rfl rfl (Sx.ov_indexAddrN _ _ _ _ _ (((lensOf s).length) - 1) rfl rfl es23 (by omega) (by first | assumption | omega | (simp only [List.length_take, List.length_drop, List.length_set]; omega))) ?_
       refine Sx.wl_storeeN 3 (((lensOf s).length) - 1) 0 (.int .i64 ((((lensOf s).set 0 (((lensOf s).getD 0 (0 : Int)) + ((placeI x a).2))).getD (((lensOf s).length) - 1) (0 : Int)) + ((((x).lens).getD ((placeI x a).1 : Int).toNat (0 : Int)) - ((placeI x a).2)))) [.int .i64 ((((lensOf s).set 0 (((lensOf s).getD 0 (0 : Int)) + ((placeI x a).2))).getD (((lensOf s).length) - 1) (0 : Int)) + ((((x).lens).getD ((placeI x a).1 : Int).toNat (0 : Int)) - ((placeI x a).2)))] (0 : Int) ((((lensOf s).set 0 (((lensOf s).getD 0 (0 : Int)) + ((placeI x a).2))).getD (((lensOf s).length) - 1) (0 : Int)) + ((((x).lens).getD ((placeI x a).1 : Int).toNat (0 : Int)) - ((placeI x a).2))) h rfl rfl rfl (by first | rfl | simp) rfl rfl (by simp [Value.oneCell']) szf3 (by first | assumption | omega) (Nat.le_of_ble_eq_true rfl) (by intro cl hcl hM; obtain ⟨_, _, _, hM⟩ := hM; obtain rfl : cl = [.int .i64 _] := hM; intro _ _ _; exact (Sx.mkInt .i64 ((((lensOf s).set 0 (((lensOf s).getD 0 (0 : Int)) + ((placeI x a).2))).getD (((lensOf s).length) - 1) (0 : Int)) + ((((x).lens).getD ((placeI x a).1 : Int).toNat (0 : Int)) - ((placeI x a).2))))) (fun _ h => ?_)
       refine Sx.wl_nil ?_
       refine Sx.qn_block_normal ?_
       refine Sx.qn_then ?_
       refine Sx.wc_seq ?_
       refine Sx.wc_seq ?_
       refine Sx.wc_region ?_
       refine Sx.wl_v rfl rfl (Sx.ov_move _ rfl) ?_
       refine Sx.wl_nil ?_
       refine Sx.qn_then ?_
       refine Sx.wc_cond (by rfl) (fun c26 => ?_) (fun c26 => ?_)
       ·
        refine Sx.wc_seq ?_
        refine Sx.wc_region ?_
        refine Sx.wl_v rfl rfl (Sx.ov_move _ rfl) ?_
        refine Sx.wl_v rfl rfl (Sx.ov_move _ rfl) ?_
        refine Sx.wl_v rfl rfl (Sx.ov_nilCheck _ rfl) ?_
        refine Sx.wl_v rfl rfl (Sx.ov_fieldAddr _ ⟨g, 1, none⟩ _ rfl fo60_1 rfl) ?_
        refine Sx.wl_v rfl rfl (Sx.ov_loadb 0 _ h rfl rfl sh3 rfl) ?_
        refine Sx.wl_v rfl rfl (Sx.ov_bin _ rfl rfl (Sx.binR_eql)) ?_
        refine Sx.wl_nil ?_
        refine Sx.qn_then ?_
        refine Sx.wc_cond (by rfl) (fun c27 => ?_) (fun c27 => ?_)
        ·
         refine Sx.wc_region ?_
         refine Sx.wl_v rfl rfl (Sx.ov_move _ rfl) ?_
         refine Sx.wl_v rfl rfl (Sx.ov_move _ rfl) ?_
         refine Sx.wl_v rfl rfl (Sx.ov_nilCheck _ rfl) ?_
         refine Sx.wl_v rfl rfl (Sx.ov_fieldAddr _ ⟨g, 2, none⟩ _ rfl fo60_2 rfl) ?_
         refine Sx.wl_storeb 0 _ [.slice (some ad14) (((x).lens).length) (c12), .int .i64 ((x).size), .bool (openOf s)] h rfl rfl rfl rfl rfl rfl sh4 rfl rfl (fun _ h => ?_)
         refine Sx.wl_nil ?_
         refine Sx.qn_then ?_
         refine Sx.wc_seq ?_
         refine Sx.wc_region ?_
         refine Sx.wl_v rfl rfl (Sx.ov_move _ rfl) ?_
         refine Sx.wl_v rfl rfl (Sx.ov_len _ _ _ _ _ rfl es23) ?_
         refine Sx.wl_v rfl rfl (Sx.ov_fieldAddr _ ⟨b10, 2, none⟩ _ rfl fo41_2 rfl) ?_
         refine Sx.wl_storeb 2 _ [.int .i64 ((placeI x a).1), .int .i64 (1), .int .i64 ((((lensOf s).length : Nat) : Int))] h rfl rfl rfl rfl rfl rfl sh3 rfl rfl (fun _ h => ?_)
         refine Sx.wl_nil ?_
         refine Sx.qn_then ?_
         refine Sx.wc_seq ?_
         refine Sx.wc_region ?_
         refine Sx.wl_v rfl rfl (Sx.ov_move _ rfl) ?_
         refine Sx.wl_v rfl rfl (Sx.ov_nilCheck _ rfl) ?_
         refine Sx.wl_v rfl rfl (Sx.ov_fieldAddr _ ⟨g, 1, none⟩ _ rfl fo60_1 rfl) ?_
         refine Sx.wl_v rfl rfl (Sx.ov_loadb 0 _ h rfl rfl sh3 rfl) ?_
         refine Sx.wl_v rfl rfl (Sx.ov_move _ rfl) ?_
         refine Sx.wl_v rfl rfl (Sx.ov_lens _ rfl Try.underlying9) ?_
         refine Sx.wl_v rfl rfl (Sx.ov_bin _ rfl rfl (Sx.binR_add (r := ((x).size) + (((s).size : Int))) (Sx.w64 (by omega)))) ?_
         refine Sx.wl_v rfl rfl (Sx.ov_nilCheck _ rfl) ?_
         refine Sx.wl_v rfl rfl (Sx.ov_fieldAddr _ ⟨g, 1, none⟩ _ rfl fo60_1 rfl) ?_
         refine Sx.wl_storeb 0 _ [.slice (some ad14) (((x).lens).length) (c12), .int .i64 (((x).size) + (((s).size : Int))), .bool (openOf s)] h rfl rfl rfl rfl rfl rfl sh3 rfl rfl (fun _ h => ?_)
         refine Sx.wl_nil ?_
         refine Sx.qn_then ?_
         refine Sx.wc_seq ?_
         refine Sx.wc_region ?_
         refine Sx.wl_v rfl rfl (Sx.ov_move _ rfl) ?_
         refine Sx.wl_v rfl rfl (Sx.ov_loadbN 2 [.int .i64 ((placeI x a).1), .int .i64 (1), .int .i64 ((((lensOf s).length : Nat) : Int))] h rfl rfl sh41 rfl) ?_
         refine Sx.wl_v rfl rfl (Sx.ov_move _ rfl) ?_
         replace h := Sx.st_front 1 h
         replace h := Sx.st_front 1 h
         replace h := ixB_close ((x).lens) (((x).size) + (((s).size : Int))) ((openOf s)) (by first | rfl | simp) h
         refine Sx.wl_call _ rfl rfl rfl ent35 (change_calls2 (R := [Sx.blk b10 [.int .i64 ((placeI x a).1), .int .i64 (1), .int .i64 ((((lensOf s).length : Nat) : Int))] 41, Sx.row (Kd.int .i64) 3 (some ad18) (cp9) (((lensOf s).set 0 (((lensOf s).getD 0 (0 : Int)) + ((placeI x a).2))).set (((lensOf s).length) - 1) ((((lensOf s).set 0 (((lensOf s).getD 0 (0 : Int)) + ((placeI x a).2))).getD (((lensOf s).length) - 1) (0 : Int)) + ((((x).lens).getD ((placeI x a).1 : Int).toNat (0 : Int)) - ((placeI x a).2)))), Sx.blk b1 [.int .i64 (0), .int .i64 (0), .int .i64 (0)] 41] ++ R) g ((⟨(x).lens, ((x).size) + (((s).size : Int)), (openOf s)⟩ : IX)) ((placeI x a).1) 1 ((((lensOf s).length : Nat) : Int)) (((lensOf s).set 0 (((lensOf s).getD 0 (0 : Int)) + ((placeI x a).2))).set (((lensOf s).length) - 1) ((((lensOf s).set 0 (((lensOf s).getD 0 (0 : Int)) + ((placeI x a).2))).getD (((lensOf s).length) - 1) (0 : Int)) + ((((x).lens).getD ((placeI x a).1 : Int).toNat (0 : Int)) - ((placeI x a).2)))) (some ad18) (cp9) ((lensOf s).length) (by first | with_reducible rfl | simp only [List.length_set, List.length_append] | rfl) (by first | omega | (simp only [List.length_cons, List.length_nil, List.length_append, List.length_set]; omega)) (by first | omega | (simp only [List.length_cons, List.length_nil, List.length_append, List.length_set]; omega)) (by first | omega | (simp only [List.length_cons, List.length_nil, List.length_append, List.length_set]; omega)) (by first | omega | (simp only [List.length_cons, List.length_nil, List.length_append, List.length_set]; omega)) (Sx.row_reads_at (R := [Sx.blk b10 [.int .i64 ((placeI x a).1), .int .i64 (1), .int .i64 ((((lensOf s).length : Nat) : Int))] 41, Sx.row (Kd.int .i64) 3 (some ad18) (cp9) (((lensOf s).set 0 (((lensOf s).getD 0 (0 : Int)) + ((placeI x a).2))).set (((lensOf s).length) - 1) ((((lensOf s).set 0 (((lensOf s).getD 0 (0 : Int)) + ((placeI x a).2))).getD (((lensOf s).length) - 1) (0 : Int)) + ((((x).lens).getD ((placeI x a).1 : Int).toNat (0 : Int)) - ((placeI x a).2)))), Sx.blk b1 [.int .i64 (0), .int .i64 (0), .int .i64 (0)] 41] ++ R) (j := 1) rfl) h) ?_
         rintro e_ w_ ⟨rfl, h⟩
         refine ⟨_, rfl, ?_⟩
         refine Sx.wl_nil ?_
         refine Sx.qn_then ?_
         refine Sx.wc_seq ?_
         refine Sx.wc_region ?_
         refine Sx.wl_v rfl rfl (Sx.ov_loadbN 1 [.int .i64 ((placeI x a).1), .int .i64 (1), .int .i64 ((((lensOf s).length : Nat) : Int))] h rfl rfl sh41 rfl) ?_
         refine Sx.wl_storebN 3 [.int .i64 ((placeI x a).1), .int .i64 (1), .int .i64 ((((lensOf s).length : Nat) : Int))] [.int .i64 ((placeI x a).1), .int .i64 (1), .int .i64 ((((lensOf s).length : Nat) : Int))] h rfl rfl rfl rfl (by simp [Value.oneCell']) sh41 rfl rfl (fun _ h => ?_)
         refine Sx.wl_v rfl rfl (Sx.ov_assign _ rfl) ?_
         refine Sx.wl_nil ?_
         refine Sx.qn_then ?_
         refine Sx.wc_ret ?_
         have hend_ := h
         have e1_ : newLI x a s = ((lensOf s).set 0 (((lensOf s).getD 0 (0 : Int)) + ((placeI x a).2))).set (((lensOf s).length) - 1) ((((lensOf s).set 0 (((lensOf s).getD 0 (0 : Int)) + ((placeI x a).2))).getD (((lensOf s).length) - 1) (0 : Int)) + ((((x).lens).getD ((placeI x a).1 : Int).toNat (0 : Int)) - ((placeI x a).2))) := by unfold newLI; first | (rw [if_pos (by omega)]; unfold insL; first | rw [if_pos (by assumption)] | rw [if_neg (by simp_all), if_pos (by omega)] | rw [if_neg (by simp_all), if_neg (by omega)]) | rw [if_neg (by omega)]
         have e2_ : oldI x a = 1 := by unfold oldI; first | rw [if_pos (by omega)] | rw [if_neg (by omega)]
         have e3_ : newOI x a s = ((openOf s)) := by unfold newOI; first | rw [if_pos ⟨by omega, by omega⟩] | rw [if_neg (fun e => by omega)]
         have e_ : insI x a s = (chgI (⟨x.lens, x.size + s.size, ((openOf s))⟩ : IX) (placeI x a).1 1 (((lensOf s).set 0 (((lensOf s).getD 0 (0 : Int)) + ((placeI x a).2))).set (((lensOf s).length) - 1) ((((lensOf s).set 0 (((lensOf s).getD 0 (0 : Int)) + ((placeI x a).2))).getD (((lensOf s).length) - 1) (0 : Int)) + ((((x).lens).getD ((placeI x a).1 : Int).toNat (0 : Int)) - ((placeI x a).2)))), ((placeI x a).1, 1, ((((lensOf s).set 0 (((lensOf s).getD 0 (0 : Int)) + ((placeI x a).2))).set (((lensOf s).length) - 1) ((((lensOf s).set 0 (((lensOf s).getD 0 (0 : Int)) + ((placeI x a).2))).getD (((lensOf s).length) - 1) (0 : Int)) + ((((x).lens).getD ((placeI x a).1 : Int).toNat (0 : Int)) - ((placeI x a).2)))).length : Int)), 0) := by unfold insI; rw [if_neg (by omega), if_neg (by assumption), if_neg (by omega), e1_, e2_, e3_]
         replace h := Sx.st_selT [true, false, false, false] h
         refine Sx.qn_ret [_, _] ⟨⟨_, rfl, Sx.loadVarN (vs := [.int .i64 ((placeI x a).1), .int .i64 (1), .int .i64 ((((lensOf s).length : Nat) : Int))]) sh41 (Sx.blk_cells (cells := [.int .i64 ((placeI x a).1), .int .i64 (1), .int .i64 ((((lensOf s).length : Nat) : Int))]) hend_ (i := 3) rfl 0 _ rfl)⟩, rfl, trivial⟩ ?_
         rw [e_]
         refine ⟨?_, h⟩
         exact congrArg (fun z_ => Ending.returned (Value.tuple #[Value.agg #[.int .i64 (placeI x a).1, .int .i64 1, .int .i64 z_], .int .i64 0])) (by first | with_reducible rfl | simp only [List.length_set, List.length_append, List.length_cons, List.length_nil])
        ·
         refine Sx.wc_skip ?_
         refine Sx.qn_then ?_
         refine Sx.wc_seq ?_
         refine Sx.wc_region ?_
         refine Sx.wl_v rfl rfl (Sx.ov_move _ rfl) ?_
         refine Sx.wl_v rfl rfl (Sx.ov_len _ _ _ _ _ rfl es23) ?_
         refine Sx.wl_v rfl rfl (Sx.ov_fieldAddr _ ⟨b10, 2, none⟩ _ rfl fo41_2 rfl) ?_
         refine Sx.wl_storeb 2 _ [.int .i64 ((placeI x a).1), .int .i64 (1), .int .i64 ((((lensOf s).length : Nat) : Int))] h rfl rfl rfl rfl rfl rfl sh3 rfl rfl (fun _ h => ?_)
         refine Sx.wl_nil ?_
         refine Sx.qn_then ?_
         refine Sx.wc_seq ?_
         refine Sx.wc_region ?_
         refine Sx.wl_v rfl rfl (Sx.ov_move _ rfl) ?_
         refine Sx.wl_v rfl rfl (Sx.ov_nilCheck _ rfl) ?_
         refine Sx.wl_v rfl rfl (Sx.ov_fieldAddr _ ⟨g, 1, none⟩ _ rfl fo60_1 rfl) ?_
         refine Sx.wl_v rfl rfl (Sx.ov_loadb 0 _ h rfl rfl sh3 rfl) ?_
         refine Sx.wl_v rfl rfl (Sx.ov_move _ rfl) ?_
         refine Sx.wl_v rfl rfl (Sx.ov_lens _ rfl Try.underlying9) ?_
         refine Sx.wl_v rfl rfl (Sx.ov_bin _ rfl rfl (Sx.binR_add (r := ((x).size) + (((s).size : Int))) (Sx.w64 (by omega)))) ?_
         refine Sx.wl_v rfl rfl (Sx.ov_nilCheck _ rfl) ?_
         refine Sx.wl_v rfl rfl (Sx.ov_fieldAddr _ ⟨g, 1, none⟩ _ rfl fo60_1 rfl) ?_
         refine Sx.wl_storeb 0 _ [.slice (some ad14) (((x).lens).length) (c12), .int .i64 (((x).size) + (((s).size : Int))), .bool ((x).open_)] h rfl rfl rfl rfl rfl rfl sh3 rfl rfl (fun _ h => ?_)
         refine Sx.wl_nil ?_
         refine Sx.qn_then ?_
         refine Sx.wc_seq ?_
         refine Sx.wc_region ?_
         refine Sx.wl_v rfl rfl (Sx.ov_move _ rfl) ?_
         refine Sx.wl_v rfl rfl (Sx.ov_loadbN 2 [.int .i64 ((placeI x a).1), .int .i64 (1), .int .i64 ((((lensOf s).length : Nat) : Int))] h rfl rfl sh41 rfl) ?_
         refine Sx.wl_v rfl rfl (Sx.ov_move _ rfl) ?_
         replace h := Sx.st_front 1 h
         replace h := Sx.st_front 1 h
         replace h := ixB_close ((x).lens) (((x).size) + (((s).size : Int))) (((x).open_)) (by first | rfl | simp) h
         refine Sx.wl_call _ rfl rfl rfl ent35 (change_calls2 (R := [Sx.blk b10 [.int .i64 ((placeI x a).1), .int .i64 (1), .int .i64 ((((lensOf s).length : Nat) : Int))] 41, Sx.row (Kd.int .i64) 3 (some ad18) (cp9) (((lensOf s).set 0 (((lensOf s).getD 0 (0 : Int)) + ((placeI x a).2))).set (((lensOf s).length) - 1) ((((lensOf s).set 0 (((lensOf s).getD 0 (0 : Int)) + ((placeI x a).2))).getD (((lensOf s).length) - 1) (0 : Int)) + ((((x).lens).getD ((placeI x a).1 : Int).toNat (0 : Int)) - ((placeI x a).2)))), Sx.blk b1 [.int .i64 (0), .int .i64 (0), .int .i64 (0)] 41] ++ R) g ((⟨(x).lens, ((x).size) + (((s).size : Int)), ((x).open_)⟩ : IX)) ((placeI x a).1) 1 ((((lensOf s).length : Nat) : Int)) (((lensOf s).set 0 (((lensOf s).getD 0 (0 : Int)) + ((placeI x a).2))).set (((lensOf s).length) - 1) ((((lensOf s).set 0 (((lensOf s).getD 0 (0 : Int)) + ((placeI x a).2))).getD (((lensOf s).length) - 1) (0 : Int)) + ((((x).lens).getD ((placeI x a).1 : Int).toNat (0 : Int)) - ((placeI x a).2)))) (some ad18) (cp9) ((lensOf s).length) (by first | with_reducible rfl | simp only [List.length_set, List.length_append] | rfl) (by first | omega | (simp only [List.length_cons, List.length_nil, List.length_append, List.length_set]; omega)) (by first | omega | (simp only [List.length_cons, List.length_nil, List.length_append, List.length_set]; omega)) (by first | omega | (simp only [List.length_cons, List.length_nil, List.length_append, List.length_set]; omega)) (by first | omega | (simp only [List.length_cons, List.length_nil, List.length_append, List.length_set]; omega)) (Sx.row_reads_at (R := [Sx.blk b10 [.int .i64 ((placeI x a).1), .int .i64 (1), .int .i64 ((((lensOf s).length : Nat) : Int))] 41, Sx.row (Kd.int .i64) 3 (some ad18) (cp9) (((lensOf s).set 0 (((lensOf s).getD 0 (0 : Int)) + ((placeI x a).2))).set (((lensOf s).length) - 1) ((((lensOf s).set 0 (((lensOf s).getD 0 (0 : Int)) + ((placeI x a).2))).getD (((lensOf s).length) - 1) (0 : Int)) + ((((x).lens).getD ((placeI x a).1 : Int).toNat (0 : Int)) - ((placeI x a).2)))), Sx.blk b1 [.int .i64 (0), .int .i64 (0), .int .i64 (0)] 41] ++ R) (j := 1) rfl) h) ?_
         rintro e_ w_ ⟨rfl, h⟩
         refine ⟨_, rfl, ?_⟩
         refine Sx.wl_nil ?_
         refine Sx.qn_then ?_
         refine Sx.wc_seq ?_
         refine Sx.wc_region ?_
         refine Sx.wl_v rfl rfl (Sx.ov_loadbN 1 [.int .i64 ((placeI x a).1), .int .i64 (1), .int .i64 ((((lensOf s).length : Nat) : Int))] h rfl rfl sh41 rfl) ?_
         refine Sx.wl_storebN 3 [.int .i64 ((placeI x a).1), .int .i64 (1), .int .i64 ((((lensOf s).length : Nat) : Int))] [.int .i64 ((placeI x a).1), .int .i64 (1), .int .i64 ((((lensOf s).length : Nat) : Int))] h rfl rfl rfl rfl (by simp [Value.oneCell']) sh41 rfl rfl (fun _ h => ?_)
         refine Sx.wl_v rfl rfl (Sx.ov_assign _ rfl) ?_
         refine Sx.wl_nil ?_
         refine Sx.qn_then ?_
         refine Sx.wc_ret ?_
         have hend_ := h
         have e1_ : newLI x a s = ((lensOf s).set 0 (((lensOf s).getD 0 (0 : Int)) + ((placeI x a).2))).set (((lensOf s).length) - 1) ((((lensOf s).set 0 (((lensOf s).getD 0 (0 : Int)) + ((placeI x a).2))).getD (((lensOf s).length) - 1) (0 : Int)) + ((((x).lens).getD ((placeI x a).1 : Int).toNat (0 : Int)) - ((placeI x a).2))) := by unfold newLI; first | (rw [if_pos (by omega)]; unfold insL; first | rw [if_pos (by assumption)] | rw [if_neg (by simp_all), if_pos (by omega)] | rw [if_neg (by simp_all), if_neg (by omega)]) | rw [if_neg (by omega)]
         have e2_ : oldI x a = 1 := by unfold oldI; first | rw [if_pos (by omega)] | rw [if_neg (by omega)]
         have e3_ : newOI x a s = (((x).open_)) := by unfold newOI; first | rw [if_pos ⟨by omega, by omega⟩] | rw [if_neg (fun e => by omega)]
         have e_ : insI x a s = (chgI (⟨x.lens, x.size + s.size, (((x).open_))⟩ : IX) (placeI x a).1 1 (((lensOf s).set 0 (((lensOf s).getD 0 (0 : Int)) + ((placeI x a).2))).set (((lensOf s).length) - 1) ((((lensOf s).set 0 (((lensOf s).getD 0 (0 : Int)) + ((placeI x a).2))).getD (((lensOf s).length) - 1) (0 : Int)) + ((((x).lens).getD ((placeI x a).1 : Int).toNat (0 : Int)) - ((placeI x a).2)))), ((placeI x a).1, 1, ((((lensOf s).set 0 (((lensOf s).getD 0 (0 : Int)) + ((placeI x a).2))).set (((lensOf s).length) - 1) ((((lensOf s).set 0 (((lensOf s).getD 0 (0 : Int)) + ((placeI x a).2))).getD (((lensOf s).length) - 1) (0 : Int)) + ((((x).lens).getD ((placeI x a).1 : Int).toNat (0 : Int)) - ((placeI x a).2)))).length : Int)), 0) := by unfold insI; rw [if_neg (by omega), if_neg (by assumption), if_neg (by omega), e1_, e2_, e3_]
         replace h := Sx.st_selT [true, false, false, false] h
         refine Sx.qn_ret [_, _] ⟨⟨_, rfl, Sx.loadVarN (vs := [.int .i64 ((placeI x a).1), .int .i64 (1), .int .i64 ((((lensOf s).length : Nat) : Int))]) sh41 (Sx.blk_cells (cells := [.int .i64 ((placeI x a).1), .int .i64 (1), .int .i64 ((((lensOf s).length : Nat) : Int))]) hend_ (i := 3) rfl 0 _ rfl)⟩, rfl, trivial⟩ ?_
         rw [e_]
         refine ⟨?_, h⟩
         exact congrArg (fun z_ => Ending.returned (Value.tuple #[Value.agg #[.int .i64 (placeI x a).1, .int .i64 1, .int .i64 z_], .int .i64 0])) (by first | with_reducible rfl | simp only [List.length_set, List.length_append, List.length_cons, List.length_nil])
       ·
        refine Sx.wc_skip ?_
        refine Sx.qn_then ?_
        refine Sx.wc_seq ?_
        refine Sx.wc_region ?_
        refine Sx.wl_v rfl rfl (Sx.ov_move _ rfl) ?_
        refine Sx.wl_v rfl rfl (Sx.ov_len _ _ _ _ _ rfl es23) ?_
        refine Sx.wl_v rfl rfl (Sx.ov_fieldAddr _ ⟨b10, 2, none⟩ _ rfl fo41_2 rfl) ?_
        refine Sx.wl_storeb 2 _ [.int .i64 ((placeI x a).1), .int .i64 (1), .int .i64 ((((lensOf s).length : Nat) : Int))] h rfl rfl rfl rfl rfl rfl sh3 rfl rfl (fun _ h => ?_)
        refine Sx.wl_nil ?_
        refine Sx.qn_then ?_
        refine Sx.wc_seq ?_
        refine Sx.wc_region ?_
        refine Sx.wl_v rfl rfl (Sx.ov_move _ rfl) ?_
        refine Sx.wl_v rfl rfl (Sx.ov_nilCheck _ rfl) ?_
        refine Sx.wl_v rfl rfl (Sx.ov_fieldAddr _ ⟨g, 1, none⟩ _ rfl fo60_1 rfl) ?_
        refine Sx.wl_v rfl rfl (Sx.ov_loadb 0 _ h rfl rfl sh3 rfl) ?_
        refine Sx.wl_v rfl rfl (Sx.ov_move _ rfl) ?_
        refine Sx.wl_v rfl rfl (Sx.ov_lens _ rfl Try.underlying9) ?_
        refine Sx.wl_v rfl rfl (Sx.ov_bin _ rfl rfl (Sx.binR_add (r := ((x).size) + (((s).size : Int))) (Sx.w64 (by omega)))) ?_
        refine Sx.wl_v rfl rfl (Sx.ov_nilCheck _ rfl) ?_
        refine Sx.wl_v rfl rfl (Sx.ov_fieldAddr _ ⟨g, 1, none⟩ _ rfl fo60_1 rfl) ?_
        refine Sx.wl_storeb 0 _ [.slice (some ad14) (((x).lens).length) (c12), .int .i64 (((x).size) + (((s).size : Int))), .bool ((x).open_)] h rfl rfl rfl rfl rfl rfl sh3 rfl rfl (fun _ h => ?_)
        refine Sx.wl_nil ?_
        refine Sx.qn_then ?_
        refine Sx.wc_seq ?_
        refine Sx.wc_region ?_
        refine Sx.wl_v rfl rfl (Sx.ov_move _ rfl) ?_
        refine Sx.wl_v rfl rfl (Sx.ov_loadbN 2 [.int .i64 ((placeI x a).1), .int .i64 (1), .int .i64 ((((lensOf s).length : Nat) : Int))] h rfl rfl sh41 rfl) ?_
        refine Sx.wl_v rfl rfl (Sx.ov_move _ rfl) ?_
        replace h := Sx.st_front 1 h
        replace h := Sx.st_front 1 h
        replace h := ixB_close ((x).lens) (((x).size) + (((s).size : Int))) (((x).open_)) (by first | rfl | simp) h
        refine Sx.wl_call _ rfl rfl rfl ent35 (change_calls2 (R := [Sx.blk b10 [.int .i64 ((placeI x a).1), .int .i64 (1), .int .i64 ((((lensOf s).length : Nat) : Int))] 41, Sx.row (Kd.int .i64) 3 (some ad18) (cp9) (((lensOf s).set 0 (((lensOf s).getD 0 (0 : Int)) + ((placeI x a).2))).set (((lensOf s).length) - 1) ((((lensOf s).set 0 (((lensOf s).getD 0 (0 : Int)) + ((placeI x a).2))).getD (((lensOf s).length) - 1) (0 : Int)) + ((((x).lens).getD ((placeI x a).1 : Int).toNat (0 : Int)) - ((placeI x a).2)))), Sx.blk b1 [.int .i64 (0), .int .i64 (0), .int .i64 (0)] 41] ++ R) g ((⟨(x).lens, ((x).size) + (((s).size : Int)), ((x).open_)⟩ : IX)) ((placeI x a).1) 1 ((((lensOf s).length : Nat) : Int)) (((lensOf s).set 0 (((lensOf s).getD 0 (0 : Int)) + ((placeI x a).2))).set (((lensOf s).length) - 1) ((((lensOf s).set 0 (((lensOf s).getD 0 (0 : Int)) + ((placeI x a).2))).getD (((lensOf s).length) - 1) (0 : Int)) + ((((x).lens).getD ((placeI x a).1 : Int).toNat (0 : Int)) - ((placeI x a).2)))) (some ad18) (cp9) ((lensOf s).length) (by first | with_reducible rfl | simp only [List.length_set, List.length_append] | rfl) (by first | omega | (simp only [List.length_cons, List.length_nil, List.length_append, List.length_set]; omega)) (by first | omega | (simp only [List.length_cons, List.length_nil, List.length_append, List.length_set]; omega)) (by first | omega | (simp only [List.length_cons, List.length_nil, List.length_append, List.length_set]; omega)) (by first | omega | (simp only [List.length_cons, List.length_nil, List.length_append, List.length_set]; omega)) (Sx.row_reads_at (R := [Sx.blk b10 [.int .i64 ((placeI x a).1), .int .i64 (1), .int .i64 ((((lensOf s).length : Nat) : Int))] 41, Sx.row (Kd.int .i64) 3 (some ad18) (cp9) (((lensOf s).set 0 (((lensOf s).getD 0 (0 : Int)) + ((placeI x a).2))).set (((lensOf s).length) - 1) ((((lensOf s).set 0 (((lensOf s).getD 0 (0 : Int)) + ((placeI x a).2))).getD (((lensOf s).length) - 1) (0 : Int)) + ((((x).lens).getD ((placeI x a).1 : Int).toNat (0 : Int)) - ((placeI x a).2)))), Sx.blk b1 [.int .i64 (0), .int .i64 (0), .int .i64 (0)] 41] ++ R) (j := 1) rfl) h) ?_
        rintro e_ w_ ⟨rfl, h⟩
        refine ⟨_, rfl, ?_⟩
        refine Sx.wl_nil ?_
        refine Sx.qn_then ?_
        refine Sx.wc_seq ?_
        refine Sx.wc_region ?_
        refine Sx.wl_v rfl rfl (Sx.ov_loadbN 1 [.int .i64 ((placeI x a).1), .int .i64 (1), .int .i64 ((((lensOf s).length : Nat) : Int))] h rfl rfl sh41 rfl) ?_
        refine Sx.wl_storebN 3 [.int .i64 ((placeI x a).1), .int .i64 (1), .int .i64 ((((lensOf s).length : Nat) : Int))] [.int .i64 ((placeI x a).1), .int .i64 (1), .int .i64 ((((lensOf s).length : Nat) : Int))] h rfl rfl rfl rfl (by simp [Value.oneCell']) sh41 rfl rfl (fun _ h => ?_)
        refine Sx.wl_v rfl rfl (Sx.ov_assign _ rfl) ?_
        refine Sx.wl_nil ?_
        refine Sx.qn_then ?_
        refine Sx.wc_ret ?_
        have hend_ := h
        have e1_ : newLI x a s = ((lensOf s).set 0 (((lensOf s).getD 0 (0 : Int)) + ((placeI x a).2))).set (((lensOf s).length) - 1) ((((lensOf s).set 0 (((lensOf s).getD 0 (0 : Int)) + ((placeI x a).2))).getD (((lensOf s).length) - 1) (0 : Int)) + ((((x).lens).getD ((placeI x a).1 : Int).toNat (0 : Int)) - ((placeI x a).2))) := by unfold newLI; first | (rw [if_pos (by omega)]; unfold insL; first | rw [if_pos (by assumption)] | rw [if_neg (by simp_all), if_pos (by omega)] | rw [if_neg (by simp_all), if_neg (by omega)]) | rw [if_neg (by omega)]
        have e2_ : oldI x a = 1 := by unfold oldI; first | rw [if_pos (by omega)] | rw [if_neg (by omega)]
        have e3_ : newOI x a s = (((x).open_)) := by unfold newOI; first | rw [if_pos ⟨by omega, by omega⟩] | rw [if_neg (fun e => by omega)]
        have e_ : insI x a s = (chgI (⟨x.lens, x.size + s.size, (((x).open_))⟩ : IX) (placeI x a).1 1 (((lensOf s).set 0 (((lensOf s).getD 0 (0 : Int)) + ((placeI x a).2))).set (((lensOf s).length) - 1) ((((lensOf s).set 0 (((lensOf s).getD 0 (0 : Int)) + ((placeI x a).2))).getD (((lensOf s).length) - 1) (0 : Int)) + ((((x).lens).getD ((placeI x a).1 : Int).toNat (0 : Int)) - ((placeI x a).2)))), ((placeI x a).1, 1, ((((lensOf s).set 0 (((lensOf s).getD 0 (0 : Int)) + ((placeI x a).2))).set (((lensOf s).length) - 1) ((((lensOf s).set 0 (((lensOf s).getD 0 (0 : Int)) + ((placeI x a).2))).getD (((lensOf s).length) - 1) (0 : Int)) + ((((x).lens).getD ((placeI x a).1 : Int).toNat (0 : Int)) - ((placeI x a).2)))).length : Int)), 0) := by unfold insI; rw [if_neg (by omega), if_neg (by assumption), if_neg (by omega), e1_, e2_, e3_]
        replace h := Sx.st_selT [true, false, false, false] h
        refine Sx.qn_ret [_, _] ⟨⟨_, rfl, Sx.loadVarN (vs := [.int .i64 ((placeI x a).1), .int .i64 (1), .int .i64 ((((lensOf s).length : Nat) : Int))]) sh41 (Sx.blk_cells (cells := [.int .i64 ((placeI x a).1), .int .i64 (1), .int .i64 ((((lensOf s).length : Nat) : Int))]) hend_ (i := 3) rfl 0 _ rfl)⟩, rfl, trivial⟩ ?_
        rw [e_]
        refine ⟨?_, h⟩
        exact congrArg (fun z_ => Ending.returned (Value.tuple #[Value.agg #[.int .i64 (placeI x a).1, .int .i64 1, .int .i64 z_], .int .i64 0])) (by first | with_reducible rfl | simp only [List.length_set, List.length_append, List.length_cons, List.length_nil])
      ·
       refine Sx.wc_seq ?_
       refine Sx.wc_region ?_
       refine Sx.wl_v rfl rfl (Sx.ov_move _ rfl) ?_
       refine Sx.wl_v rfl rfl (Sx.ov_bin _ rfl rfl (Sx.binR_gtr)) ?_
       refine Sx.wl_v rfl rfl (Sx.ov_assign _ rfl) ?_
       refine Sx.wl_nil ?_
       refine Sx.qn_then ?_
       refine Sx.wc_cond (by rfl) (fun c28 => ?_) (fun c28 => ?_)
       ·
        refine Sx.wc_region ?_
        refine Sx.wl_v rfl rfl (Sx.ov_move _ rfl) ?_
        refine Sx.wl_v rfl rfl (Sx.ov_move _ rfl) ?_
        refine Sx.wl_lit (d := (Kd.int .i64)) [(0, .int .i64 ((((x).lens).getD ((placeI x a).1 : Int).toNat (0 : Int)) - ((placeI x a).2)))] _ [.int .i64 ((((x).lens).getD ((placeI x a).1 : Int).toNat (0 : Int)) - ((placeI x a).2))] ([(((x).lens).getD ((placeI x a).1 : Int).toNat (0 : Int)) - ((placeI x a).2)]) h rfl rfl rfl rfl Try.underlying23 infb3 rfl (by decide) (by kernel_rfl) rfl (fun _ _ _ => ((Reps.none _ _).snoc ((Sx.mkInt .i64 ((((x).lens).getD ((placeI x a).1 : Int).toNat (0 : Int)) - ((placeI x a).2)))) rfl)) (fun A29 cp30 _ h => ?_)
        refine Sx.wl_append (d := (Kd.int .i64)) (L := (lensOf s).set 0 (((lensOf s).getD 0 (0 : Int)) + ((placeI x a).2))) 4 _ 8 _ _ _ ([(((x).lens).getD ((placeI x a).1 : Int).toNat (0 : Int)) - ((placeI x a).2)]) (Sx.flat_int _) h rfl rfl rfl rfl rfl ((Sx.row_reads h (i := 0) rfl).2) Try.underlying23 inf3 rfl (by decide) (by decide) (by simp only [List.length_cons, List.length_nil, List.length_append, List.length_set]; omega) (by first | rfl | simp) (fun A31 cp32 _ h => ?_)
        replace h := Sx.st_selT [false, true, true, true, true, true] h
        refine Sx.wl_v rfl rfl (Sx.ov_assign _ rfl) ?_
        refine Sx.wl_nil ?_
        refine Sx.qn_block_normal ?_
        refine Sx.qn_then ?_
        refine Sx.wc_seq ?_
        refine Sx.wc_seq ?_
        refine Sx.wc_region ?_
        refine Sx.wl_v rfl rfl (Sx.ov_move _ rfl) ?_
        refine Sx.wl_nil ?_
        refine Sx.qn_then ?_
        refine Sx.wc_cond (by rfl) (fun c33 => ?_) (fun c33 => ?_)
        ·
         refine Sx.wc_seq ?_
         refine Sx.wc_region ?_
         refine Sx.wl_v rfl rfl (Sx.ov_move _ rfl) ?_
         refine Sx.wl_v rfl rfl (Sx.ov_move _ rfl) ?_
         refine Sx.wl_v rfl rfl (Sx.ov_nilCheck _ rfl) ?_
         refine Sx.wl_v rfl rfl (Sx.ov_fieldAddr _ ⟨g, 1, none⟩ _ rfl fo60_1 rfl) ?_
         refine Sx.wl_v rfl rfl (Sx.ov_loadb 0 _ h rfl rfl sh3 rfl) ?_
         refine Sx.wl_v rfl rfl (Sx.ov_bin _ rfl rfl (Sx.binR_eql)) ?_
         refine Sx.wl_nil ?_
         refine Sx.qn_then ?_
         refine Sx.wc_cond (by rfl) (fun c34 => ?_) (fun c34 => ?_)
         ·
          refine Sx.wc_region ?_
          refine Sx.wl_v rfl rfl (Sx.ov_move _ rfl) ?_
          refine Sx.wl_v rfl rfl (Sx.ov_move _ rfl) ?_
          refine Sx.wl_v rfl rfl (Sx.ov_nilCheck _ rfl) ?_
          refine Sx.wl_v rfl rfl (Sx.ov_fieldAddr _ ⟨g, 2, none⟩ _ rfl fo60_2 rfl) ?_
          refine Sx.wl_storeb 0 _ [.slice (some ad14) (((x).lens).length) (c12), .int .i64 ((x).size), .bool (openOf s)] h rfl rfl rfl rfl rfl rfl sh4 rfl rfl (fun _ h => ?_)
          refine Sx.wl_nil ?_
          refine Sx.qn_then ?_
          refine Sx.wc_seq ?_
          refine Sx.wc_region ?_
          refine Sx.wl_v rfl rfl (Sx.ov_move _ rfl) ?_
          refine Sx.wl_v rfl rfl (Sx.ov_len _ _ _ _ _ rfl es23) ?_
          refine Sx.wl_v rfl rfl (Sx.ov_fieldAddr _ ⟨b10, 2, none⟩ _ rfl fo41_2 rfl) ?_
          refine Sx.wl_storeb 2 _ [.int .i64 ((placeI x a).1), .int .i64 (1), .int .i64 ((((((lensOf s).set 0 (((lensOf s).getD 0 (0 : Int)) + ((placeI x a).2))) ++ ([(((x).lens).getD ((placeI x a).1 : Int).toNat (0 : Int)) - ((placeI x a).2)])).length : Nat) : Int))] h rfl rfl rfl rfl rfl rfl sh3 rfl rfl (fun _ h => ?_)
          refine Sx.wl_nil ?_
          refine Sx.qn_then ?_
          refine Sx.wc_seq ?_
          refine Sx.wc_region ?_
          refine Sx.wl_v rfl rfl (Sx.ov_move _ rfl) ?_
          refine Sx.wl_v rfl rfl (Sx.ov_nilCheck _ rfl) ?_
          refine Sx.wl_v rfl rfl (Sx.ov_fieldAddr _ ⟨g, 1, none⟩ _ rfl fo60_1 rfl) ?_
          refine Sx.wl_v rfl rfl (Sx.ov_loadb 0 _ h rfl rfl sh3 rfl) ?_
          refine Sx.wl_v rfl rfl (Sx.ov_move _ rfl) ?_
          refine Sx.wl_v rfl rfl (Sx.ov_lens _ rfl Try.underlying9) ?_
          refine Sx.wl_v rfl rfl (Sx.ov_bin _ rfl rfl (Sx.binR_add (r := ((x).size) + (((s).size : Int))) (Sx.w64 (by omega)))) ?_
          refine Sx.wl_v rfl rfl (Sx.ov_nilCheck _ rfl) ?_
          refine Sx.wl_v rfl rfl (Sx.ov_fieldAddr _ ⟨g, 1, none⟩ _ rfl fo60_1 rfl) ?_
          refine Sx.wl_storeb 0 _ [.slice (some ad14) (((x).lens).length) (c12), .int .i64 (((x).size) + (((s).size : Int))), .bool (openOf s)] h rfl rfl rfl rfl rfl rfl sh3 rfl rfl (fun _ h => ?_)
          refine Sx.wl_nil ?_
          refine Sx.qn_then ?_
          refine Sx.wc_seq ?_
          refine Sx.wc_region ?_
          refine Sx.wl_v rfl rfl (Sx.ov_move _ rfl) ?_
          refine Sx.wl_v rfl rfl (Sx.ov_loadbN 2 [.int .i64 ((placeI x a).1), .int .i64 (1), .int .i64 ((((((lensOf s).set 0 (((lensOf s).getD 0 (0 : Int)) + ((placeI x a).2))) ++ ([(((x).lens).getD ((placeI x a).1 : Int).toNat (0 : Int)) - ((placeI x a).2)])).length : Nat) : Int))] h rfl rfl sh41 rfl) ?_
          refine Sx.wl_v rfl rfl (Sx.ov_move _ rfl) ?_
          replace h := Sx.st_front 1 h
          replace h := Sx.st_front 1 h
          replace h := ixB_close ((x).lens) (((x).size) + (((s).size : Int))) ((openOf s)) (by first | rfl | simp) h
          refine Sx.wl_call _ rfl rfl rfl ent35 (change_calls2 (R := [Sx.blk b10 [.int .i64 ((placeI x a).1), .int .i64 (1), .int .i64 ((((((lensOf s).set 0 (((lensOf s).getD 0 (0 : Int)) + ((placeI x a).2))) ++ ([(((x).lens).getD ((placeI x a).1 : Int).toNat (0 : Int)) - ((placeI x a).2)])).length : Nat) : Int))] 41, Sx.row (Kd.int .i64) 3 (A31) (cp32) (((lensOf s).set 0 (((lensOf s).getD 0 (0 : Int)) + ((placeI x a).2))) ++ ([(((x).lens).getD ((placeI x a).1 : Int).toNat (0 : Int)) - ((placeI x a).2)])), Sx.blk b1 [.int .i64 (0), .int .i64 (0), .int .i64 (0)] 41] ++ R) g ((⟨(x).lens, ((x).size) + (((s).size : Int)), (openOf s)⟩ : IX)) ((placeI x a).1) 1 ((((((lensOf s).set 0 (((lensOf s).getD 0 (0 : Int)) + ((placeI x a).2))) ++ ([(((x).lens).getD ((placeI x a).1 : Int).toNat (0 : Int)) - ((placeI x a).2)])).length : Nat) : Int)) (((lensOf s).set 0 (((lensOf s).getD 0 (0 : Int)) + ((placeI x a).2))) ++ ([(((x).lens).getD ((placeI x a).1 : Int).toNat (0 : Int)) - ((placeI x a).2)])) (A31) (cp32) ((((lensOf s).set 0 (((lensOf s).getD 0 (0 : Int)) + ((placeI x a).2))) ++ ([(((x).lens).getD ((placeI x a).1 : Int).toNat (0 : Int)) - ((placeI x a).2)])).length) (by first | with_reducible rfl | simp only [List.length_set, List.length_append] | rfl) (by first | omega | (simp only [List.length_cons, List.length_nil, List.length_append, List.length_set]; omega)) (by first | omega | (simp only [List.length_cons, List.length_nil, List.length_append, List.length_set]; omega)) (by first | omega | (simp only [List.length_cons, List.length_nil, List.length_append, List.length_set]; omega)) (by first | omega | (simp only [List.length_cons, List.length_nil, List.length_append, List.length_set]; omega)) (Sx.row_reads_at (R := [Sx.blk b10 [.int .i64 ((placeI x a).1), .int .i64 (1), .int .i64 ((((((lensOf s).set 0 (((lensOf s).getD 0 (0 : Int)) + ((placeI x a).2))) ++ ([(((x).lens).getD ((placeI x a).1 : Int).toNat (0 : Int)) - ((placeI x a).2)])).length : Nat) : Int))] 41, Sx.row (Kd.int .i64) 3 (A31) (cp32) (((lensOf s).set 0 (((lensOf s).getD 0 (0 : Int)) + ((placeI x a).2))) ++ ([(((x).lens).getD ((placeI x a).1 : Int).toNat (0 : Int)) - ((placeI x a).2)])), Sx.blk b1 [.int .i64 (0), .int .i64 (0), .int .i64 (0)] 41] ++ R) (j := 1) rfl) h) ?_
          rintro e_ w_ ⟨rfl, h⟩
          refine ⟨_, rfl, ?_⟩
          refine Sx.wl_nil ?_
          refine Sx.qn_then ?_
          refine Sx.wc_seq ?_
          refine Sx.wc_region ?_
          refine Sx.wl_v rfl rfl (Sx.ov_loadbN 1 [.int .i64 ((placeI x a).1), .int .i64 (1), .int .i64 ((((((lensOf s).set 0 (((lensOf s).getD 0 (0 : Int)) + ((placeI x a).2))) ++ ([(((x).lens).getD ((placeI x a).1 : Int).toNat (0 : Int)) - ((placeI x a).2)])).length : Nat) : Int))] h rfl rfl sh41 rfl) ?_
          refine Sx.wl_storebN 3 [.int .i64 ((placeI x a).1), .int .i64 (1), .int .i64 ((((((lensOf s).set 0 (((lensOf s).getD 0 (0 : Int)) + ((placeI x a).2))) ++ ([(((x).lens).getD ((placeI x a).1 : Int).toNat (0 : Int)) - ((placeI x a).2)])).length : Nat) : Int))] [.int .i64 ((placeI x a).1), .int .i64 (1), .int .i64 ((((((lensOf s).set 0 (((lensOf s).getD 0 (0 : Int)) + ((placeI x a).2))) ++ ([(((x).lens).getD ((placeI x a).1 : Int).toNat (0 : Int)) - ((placeI x a).2)])).length : Nat) : Int))] h rfl rfl rfl rfl (by simp [Value.oneCell']) sh41 rfl rfl (fun _ h => ?_)
          refine Sx.wl_v rfl rfl (Sx.ov_assign _ rfl) ?_
          refine Sx.wl_nil ?_
          refine Sx.qn_then ?_
          refine Sx.wc_ret ?_
          have hend_ := h
          have e1_ : newLI x a s = ((lensOf s).set 0 (((lensOf s).getD 0 (0 : Int)) + ((placeI x a).2))) ++ ([(((x).lens).getD ((placeI x a).1 : Int).toNat (0 : Int)) - ((placeI x a).2)]) := by unfold newLI; first | (rw [if_pos (by omega)]; unfold insL; first | rw [if_pos (by assumption)] | rw [if_neg (by simp_all), if_pos (by omega)] | rw [if_neg (by simp_all), if_neg (by omega)]) | rw [if_neg (by omega)]
          have e2_ : oldI x a = 1 := by unfold oldI; first | rw [if_pos (by omega)] | rw [if_neg (by omega)]
          have e3_ : newOI x a s = ((openOf s)) := by unfold newOI; first | rw [if_pos ⟨by omega, by omega⟩] | rw [if_neg (fun e => by omega)]
          have e_ : insI x a s = (chgI (⟨x.lens, x.size + s.size, ((openOf s))⟩ : IX) (placeI x a).1 1 (((lensOf s).set 0 (((lensOf s).getD 0 (0 : Int)) + ((placeI x a).2))) ++ ([(((x).lens).getD ((placeI x a).1 : Int).toNat (0 : Int)) - ((placeI x a).2)])), ((placeI x a).1, 1, ((((lensOf s).set 0 (((lensOf s).getD 0 (0 : Int)) + ((placeI x a).2))) ++ ([(((x).lens).getD ((placeI x a).1 : Int).toNat (0 : Int)) - ((placeI x a).2)])).length : Int)), 0) := by unfold insI; rw [if_neg (by omega), if_neg (by assumption), if_neg (by omega), e1_, e2_, e3_]
          replace h := Sx.st_selT [true, false, false, false] h
          refine Sx.qn_ret [_, _] ⟨⟨_, rfl, Sx.loadVarN (vs := [.int .i64 ((placeI x a).1), .int .i64 (1), .int .i64 ((((((lensOf s).set 0 (((lensOf s).getD 0 (0 : Int)) + ((placeI x a).2))) ++ ([(((x).lens).getD ((placeI x a).1 : Int).toNat (0 : Int)) - ((placeI x a).2)])).length : Nat) : Int))]) sh41 (Sx.blk_cells (cells := [.int .i64 ((placeI x a).1), .int .i64 (1), .int .i64 ((((((lensOf s).set 0 (((lensOf s).getD 0 (0 : Int)) + ((placeI x a).2))) ++ ([(((x).lens).getD ((placeI x a).1 : Int).toNat (0 : Int)) - ((placeI x a).2)])).length : Nat) : Int))]) hend_ (i := 3) rfl 0 _ rfl)⟩, rfl, trivial⟩ ?_
          rw [e_]
          refine ⟨?_, h⟩
          exact congrArg (fun z_ => Ending.returned (Value.tuple #[Value.agg #[.int .i64 (placeI x a).1, .int .i64 1, .int .i64 z_], .int .i64 0])) (by first | with_reducible rfl | simp only [List.length_set, List.length_append, List.length_cons, List.length_nil])
         ·
          refine Sx.wc_skip ?_
          refine Sx.qn_then ?_
          refine Sx.wc_seq ?_
          refine Sx.wc_region ?_
          refine Sx.wl_v rfl rfl (Sx.ov_move _ rfl) ?_
          refine Sx.wl_v rfl rfl (Sx.ov_len _ _ _ _ _ rfl es23) ?_
          refine Sx.wl_v rfl rfl (Sx.ov_fieldAddr _ ⟨b10, 2, none⟩ _ rfl fo41_2 rfl) ?_
          refine Sx.wl_storeb 2 _ [.int .i64 ((placeI x a).1), .int .i64 (1), .int .i64 ((((((lensOf s).set 0 (((lensOf s).getD 0 (0 : Int)) + ((placeI x a).2))) ++ ([(((x).lens).getD ((placeI x a).1 : Int).toNat (0 : Int)) - ((placeI x a).2)])).length : Nat) : Int))] h rfl rfl rfl rfl rfl rfl sh3 rfl rfl (fun _ h => ?_)
          refine Sx.wl_nil ?_
          refine Sx.qn_then ?_
          refine Sx.wc_seq ?_
          refine Sx.wc_region ?_
          refine Sx.wl_v rfl rfl (Sx.ov_move _ rfl) ?_
          refine Sx.wl_v rfl rfl (Sx.ov_nilCheck _ rfl) ?_
          refine Sx.wl_v rfl rfl (Sx.ov_fieldAddr _ ⟨g, 1, none⟩ _ rfl fo60_1 rfl) ?_
          refine Sx.wl_v rfl rfl (Sx.ov_loadb 0 _ h rfl rfl sh3 rfl) ?_
          refine Sx.wl_v rfl rfl (Sx.ov_move _ rfl) ?_
          refine Sx.wl_v rfl rfl (Sx.ov_lens _ rfl Try.underlying9) ?_
          refine Sx.wl_v rfl rfl (Sx.ov_bin _ rfl rfl (Sx.binR_add (r := ((x).size) + (((s).size : Int))) (Sx.w64 (by omega)))) ?_
          refine Sx.wl_v rfl rfl (Sx.ov_nilCheck _ rfl) ?_
          refine Sx.wl_v rfl rfl (Sx.ov_fieldAddr _ ⟨g, 1, none⟩ _ rfl fo60_1 rfl) ?_
          refine Sx.wl_storeb 0 _ [.slice (some ad14) (((x).lens).length) (c12), .int .i64 (((x).size) + (((s).size : Int))), .bool ((x).open_)] h rfl rfl rfl rfl rfl rfl sh3 rfl rfl (fun _ h => ?_)
          refine Sx.wl_nil ?_
          refine Sx.qn_then ?_
          refine Sx.wc_seq ?_
          refine Sx.wc_region ?_
          refine Sx.wl_v rfl rfl (Sx.ov_move _ rfl) ?_
          refine Sx.wl_v rfl rfl (Sx.ov_loadbN 2 [.int .i64 ((placeI x a).1), .int .i64 (1), .int .i64 ((((((lensOf s).set 0 (((lensOf s).getD 0 (0 : Int)) + ((placeI x a).2))) ++ ([(((x).lens).getD ((placeI x a).1 : Int).toNat (0 : Int)) - ((placeI x a).2)])).length : Nat) : Int))] h rfl rfl sh41 rfl) ?_
          refine Sx.wl_v rfl rfl (Sx.ov_move _ rfl) ?_
          replace h := Sx.st_front 1 h
          replace h := Sx.st_front 1 h
          replace h := ixB_close ((x).lens) (((x).size) + (((s).size : Int))) (((x).open_)) (by first | rfl | simp) h
          refine Sx.wl_call _ rfl rfl rfl ent35 (change_calls2 (R := [Sx.blk b10 [.int .i64 ((placeI x a).1), .int .i64 (1), .int .i64 ((((((lensOf s).set 0 (((lensOf s).getD 0 (0 : Int)) + ((placeI x a).2))) ++ ([(((x).lens).getD ((placeI x a).1 : Int).toNat (0 : Int)) - ((placeI x a).2)])).length : Nat) : Int))] 41, Sx.row (Kd.int .i64) 3 (A31) (cp32) (((lensOf s).set 0 (((lensOf s).getD 0 (0 : Int)) + ((placeI x a).2))) ++ ([(((x).lens).getD ((placeI x a).1 : Int).toNat (0 : Int)) - ((placeI x a).2)])), Sx.blk b1 [.int .i64 (0), .int .i64 (0), .int .i64 (0)] 41] ++ R) g ((⟨(x).lens, ((x).size) + (((s).size : Int)), ((x).open_)⟩ : IX)) ((placeI x a).1) 1 ((((((lensOf s).set 0 (((lensOf s).getD 0 (0 : Int)) + ((placeI x a).2))) ++ ([(((x).lens).getD ((placeI x a).1 : Int).toNat (0 : Int)) - ((placeI x a).2)])).length : Nat) : Int)) (((lensOf s).set 0 (((lensOf s).getD 0 (0 : Int)) + ((placeI x a).2))) ++ ([(((x).lens).getD ((placeI x a).1 : Int).toNat (0 : Int)) - ((placeI x a).2)])) (A31) (cp32) ((((lensOf s).set 0 (((lensOf s).getD 0 (0 : Int)) + ((placeI x a).2))) ++ ([(((x).lens).getD ((placeI x a).1 : Int).toNat (0 : Int)) - ((placeI x a).2)])).length) (by first | with_reducible rfl | simp only [List.length_set, List.length_append] | rfl) (by first | omega | (simp only [List.length_cons, List.length_nil, List.length_append, List.length_set]; omega)) (by first | omega | (simp only [List.length_cons, List.length_nil, List.length_append, List.length_set]; omega)) (by first | omega | (simp only [List.length_cons, List.length_nil, List.length_append, List.length_set]; omega)) (by first | omega | (simp only [List.length_cons, List.length_nil, List.length_append, List.length_set]; omega)) (Sx.row_reads_at (R := [Sx.blk b10 [.int .i64 ((placeI x a).1), .int .i64 (1), .int .i64 ((((((lensOf s).set 0 (((lensOf s).getD 0 (0 : Int)) + ((placeI x a).2))) ++ ([(((x).lens).getD ((placeI x a).1 : Int).toNat (0 : Int)) - ((placeI x a).2)])).length : Nat) : Int))] 41, Sx.row (Kd.int .i64) 3 (A31) (cp32) (((lensOf s).set 0 (((lensOf s).getD 0 (0 : Int)) + ((placeI x a).2))) ++ ([(((x).lens).getD ((placeI x a).1 : Int).toNat (0 : Int)) - ((placeI x a).2)])), Sx.blk b1 [.int .i64 (0), .int .i64 (0), .int .i64 (0)] 41] ++ R) (j := 1) rfl) h) ?_
          rintro e_ w_ ⟨rfl, h⟩
          refine ⟨_, rfl, ?_⟩
          refine Sx.wl_nil ?_
          refine Sx.qn_then ?_
          refine Sx.wc_seq ?_
          refine Sx.wc_region ?_
          refine Sx.wl_v rfl rfl (Sx.ov_loadbN 1 [.int .i64 ((placeI x a).1), .int .i64 (1), .int .i64 ((((((lensOf s).set 0 (((lensOf s).getD 0 (0 : Int)) + ((placeI x a).2))) ++ ([(((x).lens).getD ((placeI x a).1 : Int).toNat (0 : Int)) - ((placeI x a).2)])).length : Nat) : Int))] h rfl rfl sh41 rfl) ?_
          refine Sx.wl_storebN 3 [.int .i64 ((placeI x a).1), .int .i64 (1), .int .i64 ((((((lensOf s).set 0 (((lensOf s).getD 0 (0 : Int)) + ((placeI x a).2))) ++ ([(((x).lens).getD ((placeI x a).1 : Int).toNat (0 : Int)) - ((placeI x a).2)])).length : Nat) : Int))] [.int .i64 ((placeI x a).1), .int .i64 (1), .int .i64 ((((((lensOf s).set 0 (((lensOf s).getD 0 (0 : Int)) + ((placeI x a).2))) ++ ([(((x).lens).getD ((placeI x a).1 : Int).toNat (0 : Int)) - ((placeI x a).2)])).length : Nat) : Int))] h rfl rfl rfl rfl (by simp [Value.oneCell']) sh41 rfl rfl (fun _ h => ?_)
          refine Sx.wl_v rfl rfl (Sx.ov_assign _ rfl) ?_
          refine Sx.wl_nil ?_
          refine Sx.qn_then ?_
          refine Sx.wc_ret ?_
          have hend_ := h
          have e1_ : newLI x a s = ((lensOf s).set 0 (((lensOf s).getD 0 (0 : Int)) + ((placeI x a).2))) ++ ([(((x).lens).getD ((placeI x a).1 : Int).toNat (0 : Int)) - ((placeI x a).2)]) := by unfold newLI; first | (rw [if_pos (by omega)]; unfold insL; first | rw [if_pos (by assumption)] | rw [if_neg (by simp_all), if_pos (by omega)] | rw [if_neg (by simp_all), if_neg (by omega)]) | rw [if_neg (by omega)]
          have e2_ : oldI x a = 1 := by unfold oldI; first | rw [if_pos (by omega)] | rw [if_neg (by omega)]
          have e3_ : newOI x a s = (((x).open_)) := by unfold newOI; first | rw [if_pos ⟨by omega, by omega⟩] | rw [if_neg (fun e => by omega)]
          have e_ : insI x a s = (chgI (⟨x.lens, x.size + s.size, (((x).open_))⟩ : IX) (placeI x a).1 1 (((lensOf s).set 0 (((lensOf s).getD 0 (0 : Int)) + ((placeI x a).2))) ++ ([(((x).lens).getD ((placeI x a).1 : Int).toNat (0 : Int)) - ((placeI x a).2)])), ((placeI x a).1, 1, ((((lensOf s).set 0 (((lensOf s).getD 0 (0 : Int)) + ((placeI x a).2))) ++ ([(((x).lens).getD ((placeI x a).1 : Int).toNat (0 : Int)) - ((placeI x a).2)])).length : Int)), 0) := by unfold insI; rw [if_neg (by omega), if_neg (by assumption), if_neg (by omega), e1_, e2_, e3_]
          replace h := Sx.st_selT [true, false, false, false] h
          refine Sx.qn_ret [_, _] ⟨⟨_, rfl, Sx.loadVarN (vs := [.int .i64 ((placeI x a).1), .int .i64 (1), .int .i64 ((((((lensOf s).set 0 (((lensOf s).getD 0 (0 : Int)) + ((placeI x a).2))) ++ ([(((x).lens).getD ((placeI x a).1 : Int).toNat (0 : Int)) - ((placeI x a).2)])).length : Nat) : Int))]) sh41 (Sx.blk_cells (cells := [.int .i64 ((placeI x a).1), .int .i64 (1), .int .i64 ((((((lensOf s).set 0 (((lensOf s).getD 0 (0 : Int)) + ((placeI x a).2))) ++ ([(((x).lens).getD ((placeI x a).1 : Int).toNat (0 : Int)) - ((placeI x a).2)])).length : Nat) : Int))]) hend_ (i := 3) rfl 0 _ rfl)⟩, rfl, trivial⟩ ?_
          rw [e_]
          refine ⟨?_, h⟩
          exact congrArg (fun z_ => Ending.returned (Value.tuple #[Value.agg #[.int .i64 (placeI x a).1, .int .i64 1, .int .i64 z_], .int .i64 0])) (by first | with_reducible rfl | simp only [List.length_set, List.length_append, List.length_cons, List.length_nil])
        ·
         refine Sx.wc_skip ?_
         refine Sx.qn_then ?_
         refine Sx.wc_seq ?_
         refine Sx.wc_region ?_
         refine Sx.wl_v rfl rfl (Sx.ov_move _ rfl) ?_
         refine Sx.wl_v rfl rfl (Sx.ov_len _ _ _ _ _ rfl es23) ?_
         refine Sx.wl_v rfl rfl (Sx.ov_fieldAddr _ ⟨b10, 2, none⟩ _ rfl fo41_2 rfl) ?_
         refine Sx.wl_storeb 2 _ [.int .i64 ((placeI x a).1), .int .i64 (1), .int .i64 ((((((lensOf s).set 0 (((lensOf s).getD 0 (0 : Int)) + ((placeI x a).2))) ++ ([(((x).lens).getD ((placeI x a).1 : Int).toNat (0 : Int)) - ((placeI x a).2)])).length : Nat) : Int))] h rfl rfl rfl rfl rfl rfl sh3 rfl rfl (fun _ h => ?_)
         refine Sx.wl_nil ?_
         refine Sx.qn_then ?_
         refine Sx.wc_seq ?_
         refine Sx.wc_region ?_
         refine Sx.wl_v rfl rfl (Sx.ov_move _ rfl) ?_
         refine Sx.wl_v rfl rfl (Sx.ov_nilCheck _ rfl) ?_
         refine Sx.wl_v rfl rfl (Sx.ov_fieldAddr _ ⟨g, 1, none⟩ _ rfl fo60_1 rfl) ?_
         refine Sx.wl_v rfl rfl (Sx.ov_loadb 0 _ h rfl rfl sh3 rfl) ?_
         refine Sx.wl_v rfl rfl (Sx.ov_move _ rfl) ?_
         refine Sx.wl_v rfl rfl (Sx.ov_lens _ rfl Try.underlying9) ?_
         refine Sx.wl_v rfl rfl (Sx.ov_bin _ rfl rfl (Sx.binR_add (r := ((x).size) + (((s).size : Int))) (Sx.w64 (by omega)))) ?_
         refine Sx.wl_v rfl rfl (Sx.ov_nilCheck _ rfl) ?_
         refine Sx.wl_v rfl rfl (Sx.ov_fieldAddr _ ⟨g, 1, none⟩ _ rfl fo60_1 rfl) ?_
         refine Sx.wl_storeb 0 _ [.slice (some ad14) (((x).lens).length) (c12), .int .i64 (((x).size) + (((s).size : Int))), .bool ((x).open_)] h rfl rfl rfl rfl rfl rfl sh3 rfl rfl (fun _ h => ?_)
         refine Sx.wl_nil ?_
         refine Sx.qn_then ?_
         refine Sx.wc_seq ?_
         refine Sx.wc_region ?_
         refine Sx.wl_v rfl rfl (Sx.ov_move _ rfl) ?_
         refine Sx.wl_v rfl rfl (Sx.ov_loadbN 2 [.int .i64 ((placeI x a).1), .int .i64 (1), .int .i64 ((((((lensOf s).set 0 (((lensOf s).getD 0 (0 : Int)) + ((placeI x a).2))) ++ ([(((x).lens).getD ((placeI x a).1 : Int).toNat (0 : Int)) - ((placeI x a).2)])).length : Nat) : Int))] h rfl rfl sh41 rfl) ?_
         refine Sx.wl_v rfl rfl (Sx.ov_move _ rfl) ?_
         replace h := Sx.st_front 1 h
         replace h := Sx.st_front 1 h
         replace h := ixB_close ((x).lens) (((x).size) + (((s).size : Int))) (((x).open_)) (by first | rfl | simp) h
         refine Sx.wl_call _ rfl rfl rfl ent35 (change_calls2 (R := [Sx.blk b10 [.int .i64 ((placeI x a).1), .int .i64 (1), .int .i64 ((((((lensOf s).set 0 (((lensOf s).getD 0 (0 : Int)) + ((placeI x a).2))) ++ ([(((x).lens).getD ((placeI x a).1 : Int).toNat (0 : Int)) - ((placeI x a).2)])).length : Nat) : Int))] 41, Sx.row (Kd.int .i64) 3 (A31) (cp32) (((lensOf s).set 0 (((lensOf s).getD 0 (0 : Int)) + ((placeI x a).2))) ++ ([(((x).lens).getD ((placeI x a).1 : Int).toNat (0 : Int)) - ((placeI x a).2)])), Sx.blk b1 [.int .i64 (0), .int .i64 (0), .int .i64 (0)] 41] ++ R) g ((⟨(x).lens, ((x).size) + (((s).size : Int)), ((x).open_)⟩ : IX)) ((placeI x a).1) 1 ((((((lensOf s).set 0 (((lensOf s).getD 0 (0 : Int)) + ((placeI x a).2))) ++ ([(((x).lens).getD ((placeI x a).1 : Int).toNat (0 : Int)) - ((placeI x a).2)])).length : Nat) : Int)) (((lensOf s).set 0 (((lensOf s).getD 0 (0 : Int)) + ((placeI x a).2))) ++ ([(((x).lens).getD ((placeI x a).1 : Int).toNat (0 : Int)) - ((placeI x a).2)])) (A31) (cp32) ((((lensOf s).set 0 (((lensOf s).getD 0 (0 : Int)) + ((placeI x a).2))) ++ ([(((x).lens).getD ((placeI x a).1 : Int).toNat (0 : Int)) - ((placeI x a).2)])).length) (by first | with_reducible rfl | simp only [List.length_set, List.length_append] | rfl) (by first | omega | (simp only [List.length_cons, List.length_nil, List.length_append, List.length_set]; omega)) (by first | omega | (simp only [List.length_cons, List.length_nil, List.length_append, List.length_set]; omega)) (by first | omega | (simp only [List.length_cons, List.length_nil, List.length_append, List.length_set]; omega)) (by first | omega | (simp only [List.length_cons, List.length_nil, List.length_append, List.length_set]; omega)) (Sx.row_reads_at (R := [Sx.blk b10 [.int .i64 ((placeI x a).1), .int .i64 (1), .int .i64 ((((((lensOf s).set 0 (((lensOf s).getD 0 (0 : Int)) + ((placeI x a).2))) ++ ([(((x).lens).getD ((placeI x a).1 : Int).toNat (0 : Int)) - ((placeI x a).2)])).length : Nat) : Int))] 41, Sx.row (Kd.int .i64) 3 (A31) (cp32) (((lensOf s).set 0 (((lensOf s).getD 0 (0 : Int)) + ((placeI x a).2))) ++ ([(((x).lens).getD ((placeI x a).1 : Int).toNat (0 : Int)) - ((placeI x a).2)])), Sx.blk b1 [.int .i64 (0), .int .i64 (0), .int .i64 (0)] 41] ++ R) (j := 1) rfl) h) ?_
         rintro e_ w_ ⟨rfl, h⟩
         refine ⟨_, rfl, ?_⟩
         refine Sx.wl_nil ?_
         refine Sx.qn_then ?_
         refine Sx.wc_seq ?_
         refine Sx.wc_region ?_
         refine Sx.wl_v rfl rfl (Sx.ov_loadbN 1 [.int .i64 ((placeI x a).1), .int .i64 (1), .int .i64 ((((((lensOf s).set 0 (((lensOf s).getD 0 (0 : Int)) + ((placeI x a).2))) ++ ([(((x).lens).getD ((placeI x a).1 : Int).toNat (0 : Int)) - ((placeI x a).2)])).length : Nat) : Int))] h rfl rfl sh41 rfl) ?_
         refine Sx.wl_storebN 3 [.int .i64 ((placeI x a).1), .int .i64 (1), .int .i64 ((((((lensOf s).set 0 (((lensOf s).getD 0 (0 : Int)) + ((placeI x a).2))) ++ ([(((x).lens).getD ((placeI x a).1 : Int).toNat (0 : Int)) - ((placeI x a).2)])).length : Nat) : Int))] [.int .i64 ((placeI x a).1), .int .i64 (1), .int .i64 ((((((lensOf s).set 0 (((lensOf s).getD 0 (0 : Int)) + ((placeI x a).2))) ++ ([(((x).lens).getD ((placeI x a).1 : Int).toNat (0 : Int)) - ((placeI x a).2)])).length : Nat) : Int))] h rfl rfl rfl rfl (by simp [Value.oneCell']) sh41 rfl rfl (fun _ h => ?_)
         refine Sx.wl_v rfl rfl (Sx.ov_assign _ rfl) ?_
         refine Sx.wl_nil ?_
         refine Sx.qn_then ?_
         refine Sx.wc_ret ?_
         have hend_ := h
         have e1_ : newLI x a s = ((lensOf s).set 0 (((lensOf s).getD 0 (0 : Int)) + ((placeI x a).2))) ++ ([(((x).lens).getD ((placeI x a).1 : Int).toNat (0 : Int)) - ((placeI x a).2)]) := by unfold newLI; first | (rw [if_pos (by omega)]; unfold insL; first | rw [if_pos (by assumption)] | rw [if_neg (by simp_all), if_pos (by omega)] | rw [if_neg (by simp_all), if_neg (by omega)]) | rw [if_neg (by omega)]
         have e2_ : oldI x a = 1 := by unfold oldI; first | rw [if_pos (by omega)] | rw [if_neg (by omega)]
         have e3_ : newOI x a s = (((x).open_)) := by unfold newOI; first | rw [if_pos ⟨by omega, by omega⟩] | rw [if_neg (fun e => by omega)]
         have e_ : insI x a s = (chgI (⟨x.lens, x.size + s.size, (((x).open_))⟩ : IX) (placeI x a).1 1 (((lensOf s).set 0 (((lensOf s).getD 0 (0 : Int)) + ((placeI x a).2))) ++ ([(((x).lens).getD ((placeI x a).1 : Int).toNat (0 : Int)) - ((placeI x a).2)])), ((placeI x a).1, 1, ((((lensOf s).set 0 (((lensOf s).getD 0 (0 : Int)) + ((placeI x a).2))) ++ ([(((x).lens).getD ((placeI x a).1 : Int).toNat (0 : Int)) - ((placeI x a).2)])).length : Int)), 0) := by unfold insI; rw [if_neg (by omega), if_neg (by assumption), if_neg (by omega), e1_, e2_, e3_]
         replace h := Sx.st_selT [true, false, false, false] h
         refine Sx.qn_ret [_, _] ⟨⟨_, rfl, Sx.loadVarN (vs := [.int .i64 ((placeI x a).1), .int .i64 (1), .int .i64 ((((((lensOf s).set 0 (((lensOf s).getD 0 (0 : Int)) + ((placeI x a).2))) ++ ([(((x).lens).getD ((placeI x a).1 : Int).toNat (0 : Int)) - ((placeI x a).2)])).length : Nat) : Int))]) sh41 (Sx.blk_cells (cells := [.int .i64 ((placeI x a).1), .int .i64 (1), .int .i64 ((((((lensOf s).set 0 (((lensOf s).getD 0 (0 : Int)) + ((placeI x a).2))) ++ ([(((x).lens).getD ((placeI x a).1 : Int).toNat (0 : Int)) - ((placeI x a).2)])).length : Nat) : Int))]) hend_ (i := 3) rfl 0 _ rfl)⟩, rfl, trivial⟩ ?_
         rw [e_]
         refine ⟨?_, h⟩
         exact congrArg (fun z_ => Ending.returned (Value.tuple #[Value.agg #[.int .i64 (placeI x a).1, .int .i64 1, .int .i64 z_], .int .i64 0])) (by first | with_reducible rfl | simp only [List.length_set, List.length_append, List.length_cons, List.length_nil])
       ·
        refine Sx.wc_skip ?_
        refine Sx.qn_block_normal ?_
        refine Sx.qn_then ?_
        refine Sx.wc_seq ?_
        refine Sx.wc_seq ?_
        refine Sx.wc_region ?_
        refine Sx.wl_v rfl rfl (Sx.ov_move _ rfl) ?_
        refine Sx.wl_nil ?_
        refine Sx.qn_then ?_
        refine Sx.wc_cond (by rfl) (fun c35 => ?_) (fun c35 => ?_)
        ·
         refine Sx.wc_seq ?_
         refine Sx.wc_region ?_
         refine Sx.wl_v rfl rfl (Sx.ov_move _ rfl) ?_
         refine Sx.wl_v rfl rfl (Sx.ov_move _ rfl) ?_
         refine Sx.wl_v rfl rfl (Sx.ov_nilCheck _ rfl) ?_
         refine Sx.wl_v rfl rfl (Sx.ov_fieldAddr _ ⟨g, 1, none⟩ _ rfl fo60_1 rfl) ?_
         refine Sx.wl_v rfl rfl (Sx.ov_loadb 0 _ h rfl rfl sh3 rfl) ?_
         refine Sx.wl_v rfl rfl (Sx.ov_bin _ rfl rfl (Sx.binR_eql)) ?_
         refine Sx.wl_nil ?_
         refine Sx.qn_then ?_
         refine Sx.wc_cond (by rfl) (fun c36 => ?_) (fun c36 => ?_)
         ·
          refine Sx.wc_region ?_
          refine Sx.wl_v rfl rfl (Sx.ov_move _ rfl) ?_
          refine Sx.wl_v rfl rfl (Sx.ov_move _ rfl) ?_
          refine Sx.wl_v rfl rfl (Sx.ov_nilCheck _ rfl) ?_
          refine Sx.wl_v rfl rfl (Sx.ov_fieldAddr _ ⟨g, 2, none⟩ _ rfl fo60_2 rfl) ?_
          refine Sx.wl_storeb 0 _ [.slice (some ad14) (((x).lens).length) (c12), .int .i64 ((x).size), .bool (openOf s)] h rfl rfl rfl rfl rfl rfl sh4 rfl rfl (fun _ h => ?_)
          refine Sx.wl_nil ?_
          refine Sx.qn_then ?_
          refine Sx.wc_seq ?_
          refine Sx.wc_region ?_
          refine Sx.wl_v rfl rfl (Sx.ov_move _ rfl) ?_
          refine Sx.wl_v rfl rfl (Sx.ov_len _ _ _ _ _ rfl es23) ?_
          refine Sx.wl_v rfl rfl (Sx.ov_fieldAddr _ ⟨b10, 2, none⟩ _ rfl fo41_2 rfl) ?_
          refine Sx.wl_storeb 2 _ [.int .i64 ((placeI x a).1), .int .i64 (1), .int .i64 ((((lensOf s).length : Nat) : Int))] h rfl rfl rfl rfl rfl rfl sh3 rfl rfl (fun _ h => ?_)
          refine Sx.wl_nil ?_
          refine Sx.qn_then ?_
          refine Sx.wc_seq ?_
          refine Sx.wc_region ?_
          refine Sx.wl_v rfl rfl (Sx.ov_move _ rfl) ?_
          refine Sx.wl_v rfl rfl (Sx.ov_nilCheck _ rfl) ?_
          refine Sx.wl_v rfl rfl (Sx.ov_fieldAddr _ ⟨g, 1, none⟩ _ rfl fo60_1 rfl) ?_
          refine Sx.wl_v rfl rfl (Sx.ov_loadb 0 _ h rfl rfl sh3 rfl) ?_
          refine Sx.wl_v rfl rfl (Sx.ov_move _ rfl) ?_
          refine Sx.wl_v rfl rfl (Sx.ov_lens _ rfl Try.underlying9) ?_
          refine Sx.wl_v rfl rfl (Sx.ov_bin _ rfl rfl (Sx.binR_add (r := ((x).size) + (((s).size : Int))) (Sx.w64 (by omega)))) ?_
          refine Sx.wl_v rfl rfl (Sx.ov_nilCheck _ rfl) ?_
          refine Sx.wl_v rfl rfl (Sx.ov_fieldAddr _ ⟨g, 1, none⟩ _ rfl fo60_1 rfl) ?_
          refine Sx.wl_storeb 0 _ [.slice (some ad14) (((x).lens).length) (c12), .int .i64 (((x).size) + (((s).size : Int))), .bool (openOf s)] h rfl rfl rfl rfl rfl rfl sh3 rfl rfl (fun _ h => ?_)
          refine Sx.wl_nil ?_
          refine Sx.qn_then ?_
          refine Sx.wc_seq ?_
          refine Sx.wc_region ?_
          refine Sx.wl_v rfl rfl (Sx.ov_move _ rfl) ?_
          refine Sx.wl_v rfl rfl (Sx.ov_loadbN 2 [.int .i64 ((placeI x a).1), .int .i64 (1), .int .i64 ((((lensOf s).length : Nat) : Int))] h rfl rfl sh41 rfl) ?_
          refine Sx.wl_v rfl rfl (Sx.ov_move _ rfl) ?_
          replace h := Sx.st_front 1 h
          replace h := Sx.st_front 1 h
          replace h := ixB_close ((x).lens) (((x).size) + (((s).size : Int))) ((openOf s)) (by first | rfl | simp) h
          refine Sx.wl_call _ rfl rfl rfl ent35 (change_calls2 (R := [Sx.blk b10 [.int .i64 ((placeI x a).1), .int .i64 (1), .int .i64 ((((lensOf s).length : Nat) : Int))] 41, Sx.row (Kd.int .i64) 3 (some ad18) (cp9) ((lensOf s).set 0 (((lensOf s).getD 0 (0 : Int)) + ((placeI x a).2))), Sx.blk b1 [.int .i64 (0), .int .i64 (0), .int .i64 (0)] 41] ++ R) g ((⟨(x).lens, ((x).size) + (((s).size : Int)), (openOf s)⟩ : IX)) ((placeI x a).1) 1 ((((lensOf s).length : Nat) : Int)) ((lensOf s).set 0 (((lensOf s).getD 0 (0 : Int)) + ((placeI x a).2))) (some ad18) (cp9) ((lensOf s).length) (by first | with_reducible rfl | simp only [List.length_set, List.length_append] | rfl) (by first | omega | (simp only [List.length_cons, List.length_nil, List.length_append, List.length_set]; omega)) (by first | omega | (simp only [List.length_cons, List.length_nil, List.length_append, List.length_set]; omega)) (by first | omega | (simp only [List.length_cons, List.length_nil, List.length_append, List.length_set]; omega)) (by first | omega | (simp only [List.length_cons, List.length_nil, List.length_append, List.length_set]; omega)) (Sx.row_reads_at (R := [Sx.blk b10 [.int .i64 ((placeI x a).1), .int .i64 (1), .int .i64 ((((lensOf s).length : Nat) : Int))] 41, Sx.row (Kd.int .i64) 3 (some ad18) (cp9) ((lensOf s).set 0 (((lensOf s).getD 0 (0 : Int)) + ((placeI x a).2))), Sx.blk b1 [.int .i64 (0), .int .i64 (0), .int .i64 (0)] 41] ++ R) (j := 1) rfl) h) ?_
          rintro e_ w_ ⟨rfl, h⟩
          refine ⟨_, rfl, ?_⟩
          refine Sx.wl_nil ?_
          refine Sx.qn_then ?_
          refine Sx.wc_seq ?_
          refine Sx.wc_region ?_
          refine Sx.wl_v rfl rfl (Sx.ov_loadbN 1 [.int .i64 ((placeI x a).1), .int .i64 (1), .int .i64 ((((lensOf s).length : Nat) : Int))] h rfl rfl sh41 rfl) ?_
          refine Sx.wl_storebN 3 [.int .i64 ((placeI x a).1), .int .i64 (1), .int .i64 ((((lensOf s).length : Nat) : Int))] [.int .i64 ((placeI x a).1), .int .i64 (1), .int .i64 ((((lensOf s).length : Nat) : Int))] h rfl rfl rfl rfl (by simp [Value.oneCell']) sh41 rfl rfl (fun _ h => ?_)
          refine Sx.wl_v rfl rfl (Sx.ov_assign _ rfl) ?_
          refine Sx.wl_nil ?_
          refine Sx.qn_then ?_
          refine Sx.wc_ret ?_
          have hend_ := h
          have e1_ : newLI x a s = (lensOf s).set 0 (((lensOf s).getD 0 (0 : Int)) + ((placeI x a).2)) := by unfold newLI; first | (rw [if_pos (by omega)]; unfold insL; first | rw [if_pos (by assumption)] | rw [if_neg (by simp_all), if_pos (by omega)] | rw [if_neg (by simp_all), if_neg (by omega)]) | rw [if_neg (by omega)]
          have e2_ : oldI x a = 1 := by unfold oldI; first | rw [if_pos (by omega)] | rw [if_neg (by omega)]
          have e3_ : newOI x a s = ((openOf s)) := by unfold newOI; first | rw [if_pos ⟨by omega, by omega⟩] | rw [if_neg (fun e => by omega)]
          have e_ : insI x a s = (chgI (⟨x.lens, x.size + s.size, ((openOf s))⟩ : IX) (placeI x a).1 1 ((lensOf s).set 0 (((lensOf s).getD 0 (0 : Int)) + ((placeI x a).2))), ((placeI x a).1, 1, (((lensOf s).set 0 (((lensOf s).getD 0 (0 : Int)) + ((placeI x a).2))).length : Int)), 0) := by unfold insI; rw [if_neg (by omega), if_neg (by assumption), if_neg (by omega), e1_, e2_, e3_]
          replace h := Sx.st_selT [true, false, false, false] h
          refine Sx.qn_ret [_, _] ⟨⟨_, rfl, Sx.loadVarN (vs := [.int .i64 ((placeI x a).1), .int .i64 (1), .int .i64 ((((lensOf s).length : Nat) : Int))]) sh41 (Sx.blk_cells (cells := [.int .i64 ((placeI x a).1), .int .i64 (1), .int .i64 ((((lensOf s).length : Nat) : Int))]) hend_ (i := 3) rfl 0 _ rfl)⟩, rfl, trivial⟩ ?_
          rw [e_]
          refine ⟨?_, h⟩
          exact congrArg (fun z_ => Ending.returned (Value.tuple #[Value.agg #[.int .i64 (placeI x a).1, .int .i64 1, .int .i64 z_], .int .i64 0])) (by first | with_reducible rfl | simp only [List.length_set, List.length_append, List.length_cons, List.length_nil])
         ·
          refine Sx.wc_skip ?_
          refine Sx.qn_then ?_
          refine Sx.wc_seq ?_
          refine Sx.wc_region ?_
          refine Sx.wl_v rfl rfl (Sx.ov_move _ rfl) ?_
          refine Sx.wl_v rfl rfl (Sx.ov_len _ _ _ _ _ rfl es23) ?_
          refine Sx.wl_v rfl rfl (Sx.ov_fieldAddr _ ⟨b10, 2, none⟩ _ rfl fo41_2 rfl) ?_
          refine Sx.wl_storeb 2 _ [.int .i64 ((placeI x a).1), .int .i64 (1), .int .i64 ((((lensOf s).length : Nat) : Int))] h rfl rfl rfl rfl rfl rfl sh3 rfl rfl (fun _ h => ?_)
          refine Sx.wl_nil ?_
          refine Sx.qn_then ?_
          refine Sx.wc_seq ?_
          refine Sx.wc_region ?_
          refine Sx.wl_v rfl rfl (Sx.ov_move _ rfl) ?_
          refine Sx.wl_v rfl rfl (Sx.ov_nilCheck _ rfl) ?_
          refine Sx.wl_v rfl rfl (Sx.ov_fieldAddr _ ⟨g, 1, none⟩ _ rfl fo60_1 rfl) ?_
          refine Sx.wl_v rfl rfl (Sx.ov_loadb 0 _ h rfl rfl sh3 rfl) ?_
          refine Sx.wl_v rfl rfl (Sx.ov_move _ rfl) ?_
          refine Sx.wl_v rfl rfl (Sx.ov_lens _ rfl Try.underlying9) ?_
          refine Sx.wl_v rfl rfl (Sx.ov_bin _ rfl rfl (Sx.binR_add (r := ((x).size) + (((s).size : Int))) (Sx.w64 (by omega)))) ?_
          refine Sx.wl_v rfl rfl (Sx.ov_nilCheck _ rfl) ?_
          refine Sx.wl_v rfl rfl (Sx.ov_fieldAddr _ ⟨g, 1, none⟩ _ rfl fo60_1 rfl) ?_
          refine Sx.wl_storeb 0 _ [.slice (some ad14) (((x).lens).length) (c12), .int .i64 (((x).size) + (((s).size : Int))), .bool ((x).open_)] h rfl rfl rfl rfl rfl rfl sh3 rfl rfl (fun _ h => ?_)
          refine Sx.wl_nil ?_
          refine Sx.qn_then ?_
          refine Sx.wc_seq ?_
          refine Sx.wc_region ?_
          refine Sx.wl_v rfl rfl (Sx.ov_move _ rfl) ?_
          refine Sx.wl_v rfl rfl (Sx.ov_loadbN 2 [.int .i64 ((placeI x a).1), .int .i64 (1), .int .i64 ((((lensOf s).length : Nat) : Int))] h rfl rfl sh41 rfl) ?_
          refine Sx.wl_v rfl rfl (Sx.ov_move _ rfl) ?_
          replace h := Sx.st_front 1 h
          replace h := Sx.st_front 1 h
          replace h := ixB_close ((x).lens) (((x).size) + (((s).size : Int))) (((x).open_)) (by first | rfl | simp) h
          refine Sx.wl_call _ rfl rfl rfl ent35 (change_calls2 (R := [Sx.blk b10 [.int .i64 ((placeI x a).1), .int .i64 (1), .int .i64 ((((lensOf s).length : Nat) : Int))] 41, Sx.row (Kd.int .i64) 3 (some ad18) (cp9) ((lensOf s).set 0 (((lensOf s).getD 0 (0 : Int)) + ((placeI x a).2))), Sx.blk b1 [.int .i64 (0), .int .i64 (0), .int .i64 (0)] 41] ++ R) g ((⟨(x).lens, ((x).size) + (((s).size : Int)), ((x).open_)⟩ : IX)) ((placeI x a).1) 1 ((((lensOf s).length : Nat) : Int)) ((lensOf s).set 0 (((lensOf s).getD 0 (0 : Int)) + ((placeI x a).2))) (some ad18) (cp9) ((lensOf s).length) (by first | with_reducible rfl | simp only [List.length_set, List.length_append] | rfl) (by first | omega | (simp only [List.length_cons, List.length_nil, List.length_append, List.length_set]; omega)) (by first | omega | (simp only [List.length_cons, List.length_nil, List.length_append, List.length_set]; omega)) (by first | omega | (simp only [List.length_cons, List.length_nil, List.length_append, List.length_set]; omega)) (by first | omega | (simp only [List.length_cons, List.length_nil, List.length_append, List.length_set]; omega)) (Sx.row_reads_at (R := [Sx.blk b10 [.int .i64 ((placeI x a).1), .int .i64 (1), .int .i64 ((((lensOf s).length : Nat) : Int))] 41, Sx.row (Kd.int .i64) 3 (some ad18) (cp9) ((lensOf s).set 0 (((lensOf s).getD 0 (0 : Int)) + ((placeI x a).2))), Sx.blk b1 [.int .i64 (0), .int .i64 (0), .int .i64 (0)] 41] ++ R) (j := 1) rfl) h) ?_
          rintro e_ w_ ⟨rfl, h⟩
          refine ⟨_, rfl, ?_⟩
          refine Sx.wl_nil ?_
          refine Sx.qn_then ?_
          refine Sx.wc_seq ?_
          refine Sx.wc_region ?_
          refine Sx.wl_v rfl rfl (Sx.ov_loadbN 1 [.int .i64 ((placeI x a).1), .int .i64 (1), .int .i64 ((((lensOf s).length : Nat) : Int))] h rfl rfl sh41 rfl) ?_
          refine Sx.wl_storebN 3 [.int .i64 ((placeI x a).1), .int .i64 (1), .int .i64 ((((lensOf s).length : Nat) : Int))] [.int .i64 ((placeI x a).1), .int .i64 (1), .int .i64 ((((lensOf s).length : Nat) : Int))] h rfl rfl rfl rfl (by simp [Value.oneCell']) sh41 rfl rfl (fun _ h => ?_)
          refine Sx.wl_v rfl rfl (Sx.ov_assign _ rfl) ?_
          refine Sx.wl_nil ?_
          refine Sx.qn_then ?_
          refine Sx.wc_ret ?_
          have hend_ := h
          have e1_ : newLI x a s = (lensOf s).set 0 (((lensOf s).getD 0 (0 : Int)) + ((placeI x a).2)) := by unfold newLI; first | (rw [if_pos (by omega)]; unfold insL; first | rw [if_pos (by assumption)] | rw [if_neg (by simp_all), if_pos (by omega)] | rw [if_neg (by simp_all), if_neg (by omega)]) | rw [if_neg (by omega)]
          have e2_ : oldI x a = 1 := by unfold oldI; first | rw [if_pos (by omega)] | rw [if_neg (by omega)]
          have e3_ : newOI x a s = (((x).open_)) := by unfold newOI; first | rw [if_pos ⟨by omega, by omega⟩] | rw [if_neg (fun e => by omega)]
          have e_ : insI x a s = (chgI (⟨x.lens, x.size + s.size, (((x).open_))⟩ : IX) (placeI x a).1 1 ((lensOf s).set 0 (((lensOf s).getD 0 (0 : Int)) + ((placeI x a).2))), ((placeI x a).1, 1, (((lensOf s).set 0 (((lensOf s).getD 0 (0 : Int)) + ((placeI x a).2))).length : Int)), 0) := by unfold insI; rw [if_neg (by omega), if_neg (by assumption), if_neg (by omega), e1_, e2_, e3_]
          replace h := Sx.st_selT [true, false, false, false] h
          refine Sx.qn_ret [_, _] ⟨⟨_, rfl, Sx.loadVarN (vs := [.int .i64 ((placeI x a).1), .int .i64 (1), .int .i64 ((((lensOf s).length : Nat) : Int))]) sh41 (Sx.blk_cells (cells := [.int .i64 ((placeI x a).1), .int .i64 (1), .int .i64 ((((lensOf s).length : Nat) : Int))]) hend_ (i := 3) rfl 0 _ rfl)⟩, rfl, trivial⟩ ?_
          rw [e_]
          refine ⟨?_, h⟩
          exact congrArg (fun z_ => Ending.returned (Value.tuple #[Value.agg #[.int .i64 (placeI x a).1, .int .i64 1, .int .i64 z_], .int .i64 0])) (by first | with_reducible rfl | simp only [List.length_set, List.length_append, List.length_cons, List.length_nil])
        ·
         refine Sx.wc_skip ?_
         refine Sx.qn_then ?_
         refine Sx.wc_seq ?_
         refine Sx.wc_region ?_
         refine Sx.wl_v rfl rfl (Sx.ov_move _ rfl) ?_
         refine Sx.wl_v rfl rfl (Sx.ov_len _ _ _ _ _ rfl es23) ?_
         refine Sx.wl_v rfl rfl (Sx.ov_fieldAddr _ ⟨b10, 2, none⟩ _ rfl fo41_2 rfl) ?_
         refine Sx.wl_storeb 2 _ [.int .i64 ((placeI x a).1), .int .i64 (1), .int .i64 ((((lensOf s).length : Nat) : Int))] h rfl rfl rfl rfl rfl rfl sh3 rfl rfl (fun _ h => ?_)
         refine Sx.wl_nil ?_
         refine Sx.qn_then ?_
         refine Sx.wc_seq ?_
         refine Sx.wc_region ?_
         refine Sx.wl_v rfl rfl (Sx.ov_move _ rfl) ?_
         refine Sx.wl_v rfl rfl (Sx.ov_nilCheck _ rfl) ?_
         refine Sx.wl_v rfl rfl (Sx.ov_fieldAddr _ ⟨g, 1, none⟩ _ rfl fo60_1 rfl) ?_
         refine Sx.wl_v rfl rfl (Sx.ov_loadb 0 _ h rfl rfl sh3 rfl) ?_
         refine Sx.wl_v rfl rfl (Sx.ov_move _ rfl) ?_
         refine Sx.wl_v rfl rfl (Sx.ov_lens _ rfl Try.underlying9) ?_
         refine Sx.wl_v rfl rfl (Sx.ov_bin _ rfl rfl (Sx.binR_add (r := ((x).size) + (((s).size : Int))) (Sx.w64 (by omega)))) ?_
         refine Sx.wl_v rfl rfl (Sx.ov_nilCheck _ rfl) ?_
         refine Sx.wl_v rfl rfl (Sx.ov_fieldAddr _ ⟨g, 1, none⟩ _ rfl fo60_1 rfl) ?_
         refine Sx.wl_storeb 0 _ [.slice (some ad14) (((x).lens).length) (c12), .int .i64 (((x).size) + (((s).size : Int))), .bool ((x).open_)] h rfl rfl rfl rfl rfl rfl sh3 rfl rfl (fun _ h => ?_)
         refine Sx.wl_nil ?_
         refine Sx.qn_then ?_
         refine Sx.wc_seq ?_
         refine Sx.wc_region ?_
         refine Sx.wl_v rfl rfl (Sx.ov_move _ rfl) ?_
         refine Sx.wl_v rfl rfl (Sx.ov_loadbN 2 [.int .i64 ((placeI x a).1), .int .i64 (1), .int .i64 ((((lensOf s).length : Nat) : Int))] h rfl rfl sh41 rfl) ?_
         refine Sx.wl_v rfl rfl (Sx.ov_move _ rfl) ?_
         replace h := Sx.st_front 1 h
         replace h := Sx.st_front 1 h
         replace h := ixB_close ((x).lens) (((x).size) + (((s).size : Int))) (((x).open_)) (by first | rfl | simp) h
         refine Sx.wl_call _ rfl rfl rfl ent35 (change_calls2 (R := [Sx.blk b10 [.int .i64 ((placeI x a).1), .int .i64 (1), .int .i64 ((((lensOf s).length : Nat) : Int))] 41, Sx.row (Kd.int .i64) 3 (some ad18) (cp9) ((lensOf s).set 0 (((lensOf s).getD 0 (0 : Int)) + ((placeI x a).2))), Sx.blk b1 [.int .i64 (0), .int .i64 (0), .int .i64 (0)] 41] ++ R) g ((⟨(x).lens, ((x).size) + (((s).size : Int)), ((x).open_)⟩ : IX)) ((placeI x a).1) 1 ((((lensOf s).length : Nat) : Int)) ((lensOf s).set 0 (((lensOf s).getD 0 (0 : Int)) + ((placeI x a).2))) (some ad18) (cp9) ((lensOf s).length) (by first | with_reducible rfl | simp only [List.length_set, List.length_append] | rfl) (by first | omega | (simp only [List.length_cons, List.length_nil, List.length_append, List.length_set]; omega)) (by first | omega | (simp only [List.length_cons, List.length_nil, List.length_append, List.length_set]; omega)) (by first | omega | (simp only [List.length_cons, List.length_nil, List.length_append, List.length_set]; omega)) (by first | omega | (simp only [List.length_cons, List.length_nil, List.length_append, List.length_set]; omega)) (Sx.row_reads_at (R := [Sx.blk b10 [.int .i64 ((placeI x a).1), .int .i64 (1), .int .i64 ((((lensOf s).length : Nat) : Int))] 41, Sx.row (Kd.int .i64) 3 (some ad18) (cp9) ((lensOf s).set 0 (((lensOf s).getD 0 (0 : Int)) + ((placeI x a).2))), Sx.blk b1 [.int .i64 (0), .int .i64 (0), .int .i64 (0)] 41] ++ R) (j := 1) rfl) h) ?_
         rintro e_ w_ ⟨rfl, h⟩
         refine ⟨_, rfl, ?_⟩
         refine Sx.wl_nil ?_
         refine Sx.qn_then ?_
         refine Sx.wc_seq ?_
         refine Sx.wc_region ?_
         refine Sx.wl_v rfl rfl (Sx.ov_loadbN 1 [.int .i64 ((placeI x a).1), .int .i64 (1), .int .i64 ((((lensOf s).length : Nat) : Int))] h rfl rfl sh41 rfl) ?_
         refine Sx.wl_storebN 3 [.int .i64 ((placeI x a).1), .int .i64 (1), .int .i64 ((((lensOf s).length : Nat) : Int))] [.int .i64 ((placeI x a).1), .int .i64 (1), .int .i64 ((((lensOf s).length : Nat) : Int))] h rfl rfl rfl rfl (by simp [Value.oneCell']) sh41 rfl rfl (fun _ h => ?_)
         refine Sx.wl_v rfl rfl (Sx.ov_assign _ rfl) ?_
         refine Sx.wl_nil ?_
         refine Sx.qn_then ?_
         refine Sx.wc_ret ?_
         have hend_ := h
         have e1_ : newLI x a s = (lensOf s).set 0 (((lensOf s).getD 0 (0 : Int)) + ((placeI x a).2)) := by unfold newLI; first | (rw [if_pos (by omega)]; unfold insL; first | rw [if_pos (by assumption)] | rw [if_neg (by simp_all), if_pos (by omega)] | rw [if_neg (by simp_all), if_neg (by omega)]) | rw [if_neg (by omega)]
         have e2_ : oldI x a = 1 := by unfold oldI; first | rw [if_pos (by omega)] | rw [if_neg (by omega)]
         have e3_ : newOI x a s = (((x).open_)) := by unfold newOI; first | rw [if_pos ⟨by omega, by omega⟩] | rw [if_neg (fun e => by omega)]
         have e_ : insI x a s = (chgI (⟨x.lens, x.size + s.size, (((x).open_))⟩ : IX) (placeI x a).1 1 ((lensOf s).set 0 (((lensOf s).getD 0 (0 : Int)) + ((placeI x a).2))), ((placeI x a).1, 1, (((lensOf s).set 0 (((lensOf s).getD 0 (0 : Int)) + ((placeI x a).2))).length : Int)), 0) := by unfold insI; rw [if_neg (by omega), if_neg (by assumption), if_neg (by omega), e1_, e2_, e3_]
         replace h := Sx.st_selT [true, false, false, false] h
         refine Sx.qn_ret [_, _] ⟨⟨_, rfl, Sx.loadVarN (vs := [.int .i64 ((placeI x a).1), .int .i64 (1), .int .i64 ((((lensOf s).length : Nat) : Int))]) sh41 (Sx.blk_cells (cells := [.int .i64 ((placeI x a).1), .int .i64 (1), .int .i64 ((((lensOf s).length : Nat) : Int))]) hend_ (i := 3) rfl 0 _ rfl)⟩, rfl, trivial⟩ ?_
         rw [e_]
         refine ⟨?_, h⟩
         exact congrArg (fun z_ => Ending.returned (Value.tuple #[Value.agg #[.int .i64 (placeI x a).1, .int .i64 1, .int .i64 z_], .int .i64 0])) (by first | with_reducible rfl | simp only [List.length_set, List.length_append, List.length_cons, List.length_nil])
     ·
      refine Sx.wc_skip ?_
      refine Sx.qn_then ?_
      refine Sx.wc_seq ?_
      refine Sx.wc_seq ?_
      refine Sx.wc_region ?_
      refine Sx.wl_v rfl rfl (Sx.ov_move _ rfl) ?_
      refine Sx.wl_nil ?_
      refine Sx.qn_then ?_
      refine Sx.wc_cond (by rfl) (fun c37 => ?_) (fun c37 => ?_)
      ·
       refine Sx.wc_seq ?_
       refine Sx.wc_region ?_
       refine Sx.wl_v rfl rfl (Sx.ov_move _ rfl) ?_
       refine Sx.wl_v rfl rfl (Sx.ov_move _ rfl) ?_
       refine Sx.wl_v rfl rfl (Sx.ov_nilCheck _ rfl) ?_
       refine Sx.wl_v rfl rfl (Sx.ov_fieldAddr _ ⟨g, 1, none⟩ _ rfl fo60_1 rfl) ?_
       refine Sx.wl_v rfl rfl (Sx.ov_loadb 0 _ h rfl rfl sh3 rfl) ?_
       refine Sx.wl_v rfl rfl (Sx.ov_bin _ rfl rfl (Sx.binR_eql)) ?_
       refine Sx.wl_nil ?_
       refine Sx.qn_then ?_
       refine Sx.wc_cond (by rfl) (fun c38 => ?_) (fun c38 => ?_)
       ·
        refine Sx.wc_region ?_
        refine Sx.wl_v rfl rfl (Sx.ov_move _ rfl) ?_
        refine Sx.wl_v rfl rfl (Sx.ov_move _ rfl) ?_
        refine Sx.wl_v rfl rfl (Sx.ov_nilCheck _ rfl) ?_
        refine Sx.wl_v rfl rfl (Sx.ov_fieldAddr _ ⟨g, 2, none⟩ _ rfl fo60_2 rfl) ?_
        refine Sx.wl_storeb 0 _ [.slice (A11) (((x).lens).length) (c12), .int .i64 ((x).size), .bool (openOf s)] h rfl rfl rfl rfl rfl rfl sh4 rfl rfl (fun _ h => ?_)
        refine Sx.wl_nil ?_
        refine Sx.qn_then ?_
        refine Sx.wc_seq ?_
        refine Sx.wc_region ?_
        refine Sx.wl_v rfl rfl (Sx.ov_move _ rfl) ?_
        refine Sx.wl_v rfl rfl (Sx.ov_len _ _ _ _ _ rfl es23) ?_
        refine Sx.wl_v rfl rfl (Sx.ov_fieldAddr _ ⟨b10, 2, none⟩ _ rfl fo41_2 rfl) ?_
        refine Sx.wl_storeb 2 _ [.int .i64 ((placeI x a).1), .int .i64 (0), .int .i64 ((((lensOf s).length : Nat) : Int))] h rfl rfl rfl rfl rfl rfl sh3 rfl rfl (fun _ h => ?_)
        refine Sx.wl_nil ?_
        refine Sx.qn_then ?_
        refine Sx.wc_seq ?_
        refine Sx.wc_region ?_
        refine Sx.wl_v rfl rfl (Sx.ov_move _ rfl) ?_
        refine Sx.wl_v rfl rfl (Sx.ov_nilCheck _ rfl) ?_
        refine Sx.wl_v rfl rfl (Sx.ov_fieldAddr _ ⟨g, 1, none⟩ _ rfl fo60_1 rfl) ?_
        refine Sx.wl_v rfl rfl (Sx.ov_loadb 0 _ h rfl rfl sh3 rfl) ?_
        refine Sx.wl_v rfl rfl (Sx.ov_move _ rfl) ?_
        refine Sx.wl_v rfl rfl (Sx.ov_lens _ rfl Try.underlying9) ?_
        refine Sx.wl_v rfl rfl (Sx.ov_bin _ rfl rfl (Sx.binR_add (r := ((x).size) + (((s).size : Int))) (Sx.w64 (by omega)))) ?_
        refine Sx.wl_v rfl rfl (Sx.ov_nilCheck _ rfl) ?_
        refine Sx.wl_v rfl rfl (Sx.ov_fieldAddr _ ⟨g, 1, none⟩ _ rfl fo60_1 rfl) ?_
        refine Sx.wl_storeb 0 _ [.slice (A11) (((x).lens).length) (c12), .int .i64 (((x).size) + (((s).size : Int))), .bool (openOf s)] h rfl rfl rfl rfl rfl rfl sh3 rfl rfl (fun _ h => ?_)
        refine Sx.wl_nil ?_
        refine Sx.qn_then ?_
        refine Sx.wc_seq ?_
        refine Sx.wc_region ?_
        refine Sx.wl_v rfl rfl (Sx.ov_move _ rfl) ?_
        refine Sx.wl_v rfl rfl (Sx.ov_loadbN 2 [.int .i64 ((placeI x a).1), .int .i64 (0), .int .i64 ((((lensOf s).length : Nat) : Int))] h rfl rfl sh41 rfl) ?_
        refine Sx.wl_v rfl rfl (Sx.ov_move _ rfl) ?_
        replace h := Sx.st_front 1 h
        replace h := Sx.st_front 1 h
        replace h := ixB_close ((x).lens) (((x).size) + (((s).size : Int))) ((openOf s)) (by first | rfl | simp) h
        refine Sx.wl_call _ rfl rfl rfl ent35 (change_calls2 (R := [Sx.blk b10 [.int .i64 ((placeI x a).1), .int .i64 (0), .int .i64 ((((lensOf s).length : Nat) : Int))] 41, Sx.row (Kd.int .i64) 3 (A8) (cp9) (lensOf s), Sx.blk b1 [.int .i64 (0), .int .i64 (0), .int .i64 (0)] 41] ++ R) g ((⟨(x).lens, ((x).size) + (((s).size : Int)), (openOf s)⟩ : IX)) ((placeI x a).1) 0 ((((lensOf s).length : Nat) : Int)) (lensOf s) (A8) (cp9) ((lensOf s).length) (by first | with_reducible rfl | simp only [List.length_set, List.length_append] | rfl) (by first | omega | (simp only [List.length_cons, List.length_nil, List.length_append, List.length_set]; omega)) (by first | omega | (simp only [List.length_cons, List.length_nil, List.length_append, List.length_set]; omega)) (by first | omega | (simp only [List.length_cons, List.length_nil, List.length_append, List.length_set]; omega)) (by first | omega | (simp only [List.length_cons, List.length_nil, List.length_append, List.length_set]; omega)) (Sx.row_reads_at (R := [Sx.blk b10 [.int .i64 ((placeI x a).1), .int .i64 (0), .int .i64 ((((lensOf s).length : Nat) : Int))] 41, Sx.row (Kd.int .i64) 3 (A8) (cp9) (lensOf s), Sx.blk b1 [.int .i64 (0), .int .i64 (0), .int .i64 (0)] 41] ++ R) (j := 1) rfl) h) ?_
        rintro e_ w_ ⟨rfl, h⟩
        refine ⟨_, rfl, ?_⟩
        refine Sx.wl_nil ?_
        refine Sx.qn_then ?_
        refine Sx.wc_seq ?_
        refine Sx.wc_region ?_
        refine Sx.wl_v rfl rfl (Sx.ov_loadbN 1 [.int .i64 ((placeI x a).1), .int .i64 (0), .int .i64 ((((lensOf s).length : Nat) : Int))] h rfl rfl sh41 rfl) ?_
        refine Sx.wl_storebN 3 [.int .i64 ((placeI x a).1), .int .i64 (0), .int .i64 ((((lensOf s).length : Nat) : Int))] [.int .i64 ((placeI x a).1), .int .i64 (0), .int .i64 ((((lensOf s).length : Nat) : Int))] h rfl rfl rfl rfl (by simp [Value.oneCell']) sh41 rfl rfl (fun _ h => ?_)
        refine Sx.wl_v rfl rfl (Sx.ov_assign _ rfl) ?_
        refine Sx.wl_nil ?_
        refine Sx.qn_then ?_
        refine Sx.wc_ret ?_
        have hend_ := h
        have e1_ : newLI x a s = lensOf s := by unfold newLI; first | (rw [if_pos (by omega)]; unfold insL; first | rw [if_pos (by assumption)] | rw [if_neg (by simp_all), if_pos (by omega)] | rw [if_neg (by simp_all), if_neg (by omega)]) | rw [if_neg (by omega)]
        have e2_ : oldI x a = 0 := by unfold oldI; first | rw [if_pos (by omega)] | rw [if_neg (by omega)]
        have e3_ : newOI x a s = ((openOf s)) := by unfold newOI; first | rw [if_pos ⟨by omega, by omega⟩] | rw [if_neg (fun e => by omega)]
        have e_ : insI x a s = (chgI (⟨x.lens, x.size + s.size, ((openOf s))⟩ : IX) (placeI x a).1 0 (lensOf s), ((placeI x a).1, 0, ((lensOf s).length : Int)), 0) := by unfold insI; rw [if_neg (by omega), if_neg (by assumption), if_neg (by omega), e1_, e2_, e3_]
        replace h := Sx.st_selT [true, false, false, false] h
        refine Sx.qn_ret [_, _] ⟨⟨_, rfl, Sx.loadVarN (vs := [.int .i64 ((placeI x a).1), .int .i64 (0), .int .i64 ((((lensOf s).length : Nat) : Int))]) sh41 (Sx.blk_cells (cells := [.int .i64 ((placeI x a).1), .int .i64 (0), .int .i64 ((((lensOf s).length : Nat) : Int))]) hend_ (i := 3) rfl 0 _ rfl)⟩, rfl, trivial⟩ ?_
        rw [e_]
        refine ⟨?_, h⟩
        exact congrArg (fun z_ => Ending.returned (Value.tuple #[Value.agg #[.int .i64 (placeI x a).1, .int .i64 0, .int .i64 z_], .int .i64 0])) (by first | with_reducible rfl | simp only [List.length_set, List.length_append, List.length_cons, List.length_nil])
       ·
        refine Sx.wc_skip ?_
        refine Sx.qn_then ?_
        refine Sx.wc_seq ?_
        refine Sx.wc_region ?_
        refine Sx.wl_v rfl rfl (Sx.ov_move _ rfl) ?_
        refine Sx.wl_v rfl rfl (Sx.ov_len _ _ _ _ _ rfl es23) ?_
        refine Sx.wl_v rfl rfl (Sx.ov_fieldAddr _ ⟨b10, 2, none⟩ _ rfl fo41_2 rfl) ?_
        refine Sx.wl_storeb 2 _ [.int .i64 ((placeI x a).1), .int .i64 (0), .int .i64 ((((lensOf s).length : Nat) : Int))] h rfl rfl rfl rfl rfl rfl sh3 rfl rfl (fun _ h => ?_)
        refine Sx.wl_nil ?_
        refine Sx.qn_then ?_
        refine Sx.wc_seq ?_
        refine Sx.wc_region ?_
        refine Sx.wl_v rfl rfl (Sx.ov_move _ rfl) ?_
        refine Sx.wl_v rfl rfl (Sx.ov_nilCheck _ rfl) ?_
        refine Sx.wl_v rfl rfl (Sx.ov_fieldAddr _ ⟨g, 1, none⟩ _ rfl fo60_1 rfl) ?_
        refine Sx.wl_v rfl rfl (Sx.ov_loadb 0 _ h rfl rfl sh3 rfl) ?_
        refine Sx.wl_v rfl rfl (Sx.ov_move _ rfl) ?_
        refine Sx.wl_v rfl rfl (Sx.ov_lens _ rfl Try.underlying9) ?_
        refine Sx.wl_v rfl rfl (Sx.ov_bin _ rfl rfl (Sx.binR_add (r := ((x).size) + (((s).size : Int))) (Sx.w64 (by omega)))) ?_
        refine Sx.wl_v rfl rfl (Sx.ov_nilCheck _ rfl) ?_
        refine Sx.wl_v rfl rfl (Sx.ov_fieldAddr _ ⟨g, 1, none⟩ _ rfl fo60_1 rfl) ?_
        refine Sx.wl_storeb 0 _ [.slice (A11) (((x).lens).length) (c12), .int .i64 (((x).size) + (((s).size : Int))), .bool ((x).open_)] h rfl rfl rfl rfl rfl rfl sh3 rfl rfl (fun _ h => ?_)
        refine Sx.wl_nil ?_
        refine Sx.qn_then ?_
        refine Sx.wc_seq ?_
        refine Sx.wc_region ?_
        refine Sx.wl_v rfl rfl (Sx.ov_move _ rfl) ?_
        refine Sx.wl_v rfl rfl (Sx.ov_loadbN 2 [.int .i64 ((placeI x a).1), .int .i64 (0), .int .i64 ((((lensOf s).length : Nat) : Int))] h rfl rfl sh41 rfl) ?_
        refine Sx.wl_v rfl rfl (Sx.ov_move _ rfl) ?_
        replace h := Sx.st_front 1 h
        replace h := Sx.st_front 1 h
        replace h := ixB_close ((x).lens) (((x).size) + (((s).size : Int))) (((x).open_)) (by first | rfl | simp) h
        refine Sx.wl_call _ rfl rfl rfl ent35 (change_calls2 (R := [Sx.blk b10 [.int .i64 ((placeI x a).1), .int .i64 (0), .int .i64 ((((lensOf s).length : Nat) : Int))] 41, Sx.row (Kd.int .i64) 3 (A8) (cp9) (lensOf s), Sx.blk b1 [.int .i64 (0), .int .i64 (0), .int .i64 (0)] 41] ++ R) g ((⟨(x).lens, ((x).size) + (((s).size : Int)), ((x).open_)⟩ : IX)) ((placeI x a).1) 0 ((((lensOf s).length : Nat) : Int)) (lensOf s) (A8) (cp9) ((lensOf s).length) (by first | with_reducible rfl | simp only [List.length_set, List.length_append] | rfl) (by first | omega | (simp only [List.length_cons, List.length_nil, List.length_append, List.length_set]; omega)) (by first | omega | (simp only [List.length_cons, List.length_nil, List.length_append, List.length_set]; omega)) (by first | omega | (simp only [List.length_cons, List.length_nil, List.length_append, List.length_set]; omega)) (by first | omega | (simp only [List.length_cons, List.length_nil, List.length_append, List.length_set]; omega)) (Sx.row_reads_at (R := [Sx.blk b10 [.int .i64 ((placeI x a).1), .int .i64 (0), .int .i64 ((((lensOf s).length : Nat) : Int))] 41, Sx.row (Kd.int .i64) 3 (A8) (cp9) (lensOf s), Sx.blk b1 [.int .i64 (0), .int .i64 (0), .int .i64 (0)] 41] ++ R) (j := 1) rfl) h) ?_
        rintro e_ w_ ⟨rfl, h⟩
        refine ⟨_, rfl, ?_⟩
        refine Sx.wl_nil ?_
        refine Sx.qn_then ?_
        refine Sx.wc_seq ?_
        refine Sx.wc_region ?_
        refine Sx.wl_v rfl rfl (Sx.ov_loadbN 1 [.int .i64 ((placeI x a).1), .int .i64 (0), .int .i64 ((((lensOf s).length : Nat) : Int))] h rfl rfl sh41 rfl) ?_
        refine Sx.wl_storebN 3 [.int .i64 ((placeI x a).1), .int .i64 (0), .int .i64 ((((lensOf s).length : Nat) : Int))] [.int .i64 ((placeI x a).1), .int .i64 (0), .int .i64 ((((lensOf s).length : Nat) : Int))] h rfl rfl rfl rfl (by simp [Value.oneCell']) sh41 rfl rfl (fun _ h => ?_)
        refine Sx.wl_v rfl rfl (Sx.ov_assign _ rfl) ?_
        refine Sx.wl_nil ?_
        refine Sx.qn_then ?_
        refine Sx.wc_ret ?_
        have hend_ := h
        have e1_ : newLI x a s = lensOf s := by unfold newLI; first | (rw [if_pos (by omega)]; unfold insL; first | rw [if_pos (by assumption)] | rw [if_neg (by simp_all), if_pos (by omega)] | rw [if_neg (by simp_all), if_neg (by omega)]) | rw [if_neg (by omega)]
        have e2_ : oldI x a = 0 := by unfold oldI; first | rw [if_pos (by omega)] | rw [if_neg (by omega)]
        have e3_ : newOI x a s = (((x).open_)) := by unfold newOI; first | rw [if_pos ⟨by omega, by omega⟩] | rw [if_neg (fun e => by omega)]
        have e_ : insI x a s = (chgI (⟨x.lens, x.size + s.size, (((x).open_))⟩ : IX) (placeI x a).1 0 (lensOf s), ((placeI x a).1, 0, ((lensOf s).length : Int)), 0) := by unfold insI; rw [if_neg (by omega), if_neg (by assumption), if_neg (by omega), e1_, e2_, e3_]
        replace h := Sx.st_selT [true, false, false, false] h
        refine Sx.qn_ret [_, _] ⟨⟨_, rfl, Sx.loadVarN (vs := [.int .i64 ((placeI x a).1), .int .i64 (0), .int .i64 ((((lensOf s).length : Nat) : Int))]) sh41 (Sx.blk_cells (cells := [.int .i64 ((placeI x a).1), .int .i64 (0), .int .i64 ((((lensOf s).length : Nat) : Int))]) hend_ (i := 3) rfl 0 _ rfl)⟩, rfl, trivial⟩ ?_
        rw [e_]
        refine ⟨?_, h⟩
        exact congrArg (fun z_ => Ending.returned (Value.tuple #[Value.agg #[.int .i64 (placeI x a).1, .int .i64 0, .int .i64 z_], .int .i64 0])) (by first | with_reducible rfl | simp only [List.length_set, List.length_append, List.length_cons, List.length_nil])
      ·
       exfalso
       omega
end Go.Proofs.Yteancplgfjhagaa.Paras.B
