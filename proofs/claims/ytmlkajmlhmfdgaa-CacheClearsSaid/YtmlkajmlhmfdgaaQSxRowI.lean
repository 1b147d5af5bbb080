/- Pruned by wip/prune.py. -/
import Derived.Test.YtmlkajmlhmfdgaaProg
import Derived.Test.YtmlkajmlhmfdgaaQSxGlue
import Derived.Test.YtmlkajmlhmfdgaaQSxArr
import Derived.Test.YtmlkajmlhmfdgaaQSxKinds
import Derived.Test.YtmlkajmlhmfdgaaQRunsTh
import Derived.Test.YtmlkajmlhmfdgaaQSxRunsR
import Derived.Test.YtmlkajmlhmfdgaaQCaP
import Derived.Test.YtmlkajmlhmfdgaaQCaRef
import Derived.Test.YtmlkajmlhmfdgaaQSxCKey
namespace Go.Proofs.Ytmlkajmlhmfdgaa.RI
open Go Go.RowKit Go.Proofs.YtmlkajmlhmfdgaaW.PrintWords Go.Proofs.Ytmlkajmlhmfdgaa.Kinds Go.Proofs.Ytmlkajmlhmfdgaa.Runs Go.Proofs.Ytmlkajmlhmfdgaa.RW Go.Proofs.Ytmlkajmlhmfdgaa.Ca Go.Proofs.Ytmlkajmlhmfdgaa.Sx 
set_option linter.unusedVariables false
set_option linter.unusedSimpArgs false
theorem fo90_3 : Sx.fieldOff Try.prog 90 3 = some 13 := by kernel_rfl
theorem sh85 : Sx.shapeOf Try.prog 85 = some (false, 1) := by kernel_rfl
theorem fo90_4 : Sx.fieldOff Try.prog 90 4 = some 14 := by kernel_rfl
theorem fo87_2 : Sx.fieldOff Try.prog 87 2 = some 2 := by kernel_rfl
theorem fo87_3 : Sx.fieldOff Try.prog 87 3 = some 3 := by kernel_rfl
theorem fo87_1 : Sx.fieldOff Try.prog 87 1 = some 1 := by kernel_rfl
theorem sh84 : Sx.shapeOf Try.prog 84 = some (false, 1) := by kernel_rfl
theorem zo92 : Sx.zeroOf Try.prog 92 = some (.slice (none) (0) (0)) := by kernel_rfl
theorem es92 : Sx.elemSz Try.prog 92 = some (85, 1) := by kernel_rfl
theorem fo90_0 : Sx.fieldOff Try.prog 90 0 = some 0 := by kernel_rfl
theorem sh33 : Sx.shapeOf Try.prog 33 = some (true, 11) := by kernel_rfl
theorem ent16 : Sx.Ent Try.prog 16 := ⟨Try.f16, Try.func16, by kernel_rfl, by kernel_rfl⟩
set_option maxHeartbeats 400000 in
set_option maxRecDepth 100000 in
theorem out_calls {w0 w : World} {F0 : Nat → Prop} {R : List Sx.HP} (c g gm : Nat) (room size hits misses : Int) (ff ll p q : Option Nat) (δ : Nat → Option (Dat Int)) (lt er : Nat → Option Nat) (d : Dat Int) (hd : δ g = some d) (hp : lt g = p) (hq : er g = q) (hpd : (∀ x, p = some x → ∃ d', δ x = some d')) (hqd : (∀ x, q = some x → ∃ d', δ x = some d')) (h : Sx.St w0 F0 ([Sx.blk c [.int .i64 (room), .map (some gm), .pointer (Sx.pa ff), .pointer (Sx.pa ll), .int .i64 (size), .int .i64 (hits), .int .i64 (misses)] 87, Sx.ents (enK 90 (Value.int .i64)) (δ) (lt) (er)] ++ R) w) : Calls Try.prog 38 #[.pointer (some ⟨c, 0, none⟩), .pointer (some ⟨g, 0, none⟩)] w (fun e w1 => e = .returned (.tuple #[]) ∧ Sx.St w0 F0 ([Sx.blk c [.int .i64 (room), .map (some gm), .pointer (Sx.pa (outF ff p q)), .pointer (Sx.pa (outL ll p q)), .int .i64 (size), .int .i64 (hits), .int .i64 (misses)] 87, Sx.ents (enK 90 (Value.int .i64)) (δ) (outLt lt g p q) (outEr er g p q)] ++ R) w1) := by
 refine Sx.calls_fn (vs := [.pointer (some ⟨c, 0, none⟩), .pointer (some ⟨g, 0, none⟩)]) Try.func38 rfl Try.ntmps38 rfl ?_
 refine wc_seq ?_
 refine wc_seq ?_
 refine wc_region ?_
 refine wl_v rfl rfl (ov_move _ rfl) ?_
 refine wl_v rfl rfl (ov_nilCheck _ rfl) ?_
 refine wl_v rfl rfl (ov_fieldAddr _ ⟨g, 13, none⟩ _ rfl fo90_3 rfl) ?_
 refine wl_v rfl rfl (ov_load1 ⟨g, 13, none⟩ _ rfl sh85 ((Sx.ents_at (i := 1) h rfl hd hp hq 13).trans rfl)) ?_
 refine wl_v rfl rfl (ov_bin _ rfl rfl (binR_eqnil Try.underlying85)) ?_
 refine wl_nil ?_
 refine qn_then ?_
 refine wc_cond (by rfl) (fun c1 => ?_) (fun c1 => ?_)
 ·
  obtain rfl := Sx.pa_none c1
  refine wc_region ?_
  refine wl_v rfl rfl (ov_move _ rfl) ?_
  refine wl_v rfl rfl (ov_move _ rfl) ?_
  refine wl_v rfl rfl (ov_nilCheck _ rfl) ?_
  refine wl_v rfl rfl (ov_fieldAddr _ ⟨g, 14, none⟩ _ rfl fo90_4 rfl) ?_
  refine wl_v rfl rfl (ov_load1 ⟨g, 14, none⟩ _ rfl sh85 ((Sx.ents_at (i := 1) h rfl hd hp hq 14).trans rfl)) ?_
  refine wl_v rfl rfl (ov_nilCheck _ rfl) ?_
  refine wl_v rfl rfl (ov_fieldAddr _ ⟨c, 2, none⟩ _ rfl fo87_2 rfl) ?_
  refine wl_storeb 0 _ [.int .i64 (room), .map (some gm), .pointer (Sx.pa q), .pointer (Sx.pa ll), .int .i64 (size), .int .i64 (hits), .int .i64 (misses)] h rfl rfl rfl rfl rfl rfl sh85 rfl rfl (fun _ h => ?_)
  refine wl_nil ?_
  refine qn_then ?_
  refine wc_seq ?_
  refine wc_seq ?_
  refine wc_region ?_
  refine wl_v rfl rfl (ov_move _ rfl) ?_
  refine wl_v rfl rfl (ov_nilCheck _ rfl) ?_
  refine wl_v rfl rfl (ov_fieldAddr _ ⟨g, 14, none⟩ _ rfl fo90_4 rfl) ?_
  refine wl_v rfl rfl (ov_load1 ⟨g, 14, none⟩ _ rfl sh85 ((Sx.ents_at (i := 1) h rfl hd hp hq 14).trans rfl)) ?_
  refine wl_v rfl rfl (ov_bin _ rfl rfl (binR_eqnil Try.underlying85)) ?_
  refine wl_nil ?_
  refine qn_then ?_
  refine wc_cond (by rfl) (fun c2 => ?_) (fun c2 => ?_)
  ·
   obtain rfl := Sx.pa_none c2
   refine wc_region ?_
   refine wl_v rfl rfl (ov_move _ rfl) ?_
   refine wl_v rfl rfl (ov_move _ rfl) ?_
   refine wl_v rfl rfl (ov_nilCheck _ rfl) ?_
   refine wl_v rfl rfl (ov_fieldAddr _ ⟨g, 13, none⟩ _ rfl fo90_3 rfl) ?_
   refine wl_v rfl rfl (ov_load1 ⟨g, 13, none⟩ _ rfl sh85 ((Sx.ents_at (i := 1) h rfl hd hp hq 13).trans rfl)) ?_
   refine wl_v rfl rfl (ov_nilCheck _ rfl) ?_
   refine wl_v rfl rfl (ov_fieldAddr _ ⟨c, 3, none⟩ _ rfl fo87_3 rfl) ?_
   refine wl_storeb 0 _ [.int .i64 (room), .map (some gm), .pointer none, .pointer none, .int .i64 (size), .int .i64 (hits), .int .i64 (misses)] h rfl rfl rfl rfl rfl rfl sh85 rfl rfl (fun _ h => ?_)
   refine wl_nil ?_
   refine qn_then ?_
   refine wc_region ?_
   refine wl_v rfl rfl (ov_move _ rfl) ?_
   refine wl_v rfl rfl (ov_move _ rfl) ?_
   refine wl_v rfl rfl (ov_nilCheck _ rfl) ?_
   refine wl_v rfl rfl (ov_fieldAddr _ ⟨g, 13, none⟩ _ rfl fo90_3 rfl) ?_
   refine wl_storeE (δ' := δ) (lt' := (Sx.up (lt) g none)) (er' := er) 1 g 13 (.pointer none) (d) (d) h rfl hd rfl rfl rfl rfl rfl sh85 (Nat.le_of_ble_eq_true rfl) hd (by first | rfl | (simp only [Sx.up_self]; rfl)) (fun x_ hx_ => ⟨rfl, (Sx.up_ne hx_), rfl⟩) (fun _ h => ?_)
   replace h : Sx.St w0 F0 ([Sx.blk c [.int .i64 (room), .map (some gm), .pointer none, .pointer none, .int .i64 (size), .int .i64 (hits), .int .i64 (misses)] 87, Sx.ents (enK 90 (Value.int .i64)) (δ) ((Sx.up (lt) g none)) (er)] ++ R) _ := h
   refine wl_v rfl rfl (ov_nilCheck _ rfl) ?_
   refine wl_v rfl rfl (ov_fieldAddr _ ⟨g, 14, none⟩ _ rfl fo90_4 rfl) ?_
   refine wl_storeE (δ' := δ) (lt' := (Sx.up (lt) g none)) (er' := (Sx.up (er) g none)) 1 g 14 (.pointer none) (d) (d) h rfl hd rfl rfl rfl rfl rfl sh85 (Nat.le_of_ble_eq_true rfl) hd (by first | rfl | (simp only [Sx.up_self]; rfl)) (fun x_ hx_ => ⟨rfl, rfl, (Sx.up_ne hx_)⟩) (fun _ h => ?_)
   replace h : Sx.St w0 F0 ([Sx.blk c [.int .i64 (room), .map (some gm), .pointer none, .pointer none, .int .i64 (size), .int .i64 (hits), .int .i64 (misses)] 87, Sx.ents (enK 90 (Value.int .i64)) (δ) ((Sx.up (lt) g none)) ((Sx.up (er) g none))] ++ R) _ := h
   refine wl_nil ?_
   replace h := st_front 1 h
   replace h := st_front 1 h
   refine qn_end [] trivial ?_
   exact ⟨rfl, h⟩
  ·
   obtain ⟨g3, rfl⟩ := Sx.pa_some c2
   obtain ⟨dn4, hdn5⟩ := hqd g3 rfl
   refine wc_draw (fun w => Sx.St w0 F0 ([Sx.blk c [.int .i64 (room), .map (some gm), .pointer (some ⟨g3, 0, none⟩), .pointer (Sx.pa ll), .int .i64 (size), .int .i64 (hits), .int .i64 (misses)] 87] ++ R) w) (by kernel_rfl) ?_
   replace h := st_drew h
   refine wa_tk 0 rfl rfl rfl (st_selT [true, false] h) (fun w_ hS => ov_move _ rfl) ?_
   refine wa_tk 1 rfl rfl rfl (st_selT [true, false] h) (fun w_ hS => ov_nilCheck _ rfl) ?_
   refine wa_tk 2 rfl rfl rfl (st_selT [true, false] h) (fun w_ hS => ov_fieldAddr _ ⟨g, 14, none⟩ _ rfl fo90_4 rfl) ?_
   refine wa_tk 4 rfl rfl rfl (st_selT [true, false] h) (fun w_ hS => ov_move _ rfl) ?_
   refine wa_tk 5 rfl rfl rfl (st_selT [true, false] h) (fun w_ hS => ov_nilCheck _ rfl) ?_
   refine wa_tk 6 rfl rfl rfl (st_selT [true, false] h) (fun w_ hS => ov_fieldAddr _ ⟨g, 13, none⟩ _ rfl fo90_3 rfl) ?_
   refine wa_two 3 7 rfl rfl (by kernel_rfl) ?_ ?_
   ·
    refine wl_v rfl rfl (ov_load1 ⟨g, 14, none⟩ _ rfl sh85 ((Sx.ents_at (i := 1) h rfl hd hp hq 14).trans rfl)) ?_
    refine wl_nil ?_
    refine qn_wa (st_selT [true, false] h) ?_
    refine wa_one 7 rfl (by kernel_rfl) ?_
    refine wl_v rfl rfl (ov_load1 ⟨g, 13, none⟩ _ rfl sh85 ((Sx.ents_at (i := 1) h rfl hd hp hq 13).trans rfl)) ?_
    refine wl_nil ?_
    refine qn_wa (st_selT [true, false] h) ?_
    refine wa_tk 8 rfl rfl rfl (st_selT [true, false] h) (fun w_ hS => ov_nilCheck _ rfl) ?_
    refine wa_tk 9 rfl rfl rfl (st_selT [true, false] h) (fun w_ hS => ov_fieldAddr _ ⟨g3, 13, none⟩ _ rfl fo90_3 rfl) ?_
    refine wa_one 10 rfl (by kernel_rfl) ?_
    refine wl_storeE (δ' := δ) (lt' := (Sx.up (lt) g3 none)) (er' := er) 1 g3 13 (.pointer none) (dn4) (dn4) h rfl hdn5 rfl rfl rfl rfl rfl sh85 (Nat.le_of_ble_eq_true rfl) hdn5 (by first | rfl | (simp only [Sx.up_self]; rfl)) (fun x_ hx_ => ⟨rfl, (Sx.up_ne hx_), rfl⟩) (fun _ h => ?_)
    replace h : Sx.St w0 F0 ([Sx.blk c [.int .i64 (room), .map (some gm), .pointer (some ⟨g3, 0, none⟩), .pointer (Sx.pa ll), .int .i64 (size), .int .i64 (hits), .int .i64 (misses)] 87, Sx.ents (enK 90 (Value.int .i64)) (δ) ((Sx.up (lt) g3 none)) (er)] ++ R) _ := h
    refine wl_nil ?_
    refine qn_wa (st_selT [true, false] h) ?_
    refine wa_done (by kernel_rfl) ?_
    refine qn_then ?_
    refine wc_region ?_
    refine wl_v rfl rfl (ov_move _ rfl) ?_
    refine wl_v rfl rfl (ov_move _ rfl) ?_
    refine wl_v rfl rfl (ov_nilCheck _ rfl) ?_
    refine wl_v rfl rfl (ov_fieldAddr _ ⟨g, 13, none⟩ _ rfl fo90_3 rfl) ?_
    refine wl_storeE (δ' := δ) (lt' := (Sx.up ((Sx.up (lt) g3 none)) g none)) (er' := er) 1 g 13 (.pointer none) (d) (d) h rfl hd rfl rfl rfl rfl rfl sh85 (Nat.le_of_ble_eq_true rfl) hd (by first | rfl | (simp only [Sx.up_self]; rfl)) (fun x_ hx_ => ⟨rfl, (Sx.up_ne hx_), rfl⟩) (fun _ h => ?_)
    replace h : Sx.St w0 F0 ([Sx.blk c [.int .i64 (room), .map (some gm), .pointer (some ⟨g3, 0, none⟩), .pointer (Sx.pa ll), .int .i64 (size), .int .i64 (hits), .int .i64 (misses)] 87, Sx.ents (enK 90 (Value.int .i64)) (δ) ((Sx.up ((Sx.up (lt) g3 none)) g none)) (er)] ++ R) _ := h
    refine wl_v rfl rfl (ov_nilCheck _ rfl) ?_
    refine wl_v rfl rfl (ov_fieldAddr _ ⟨g, 14, none⟩ _ rfl fo90_4 rfl) ?_
    refine wl_storeE (δ' := δ) (lt' := (Sx.up ((Sx.up (lt) g3 none)) g none)) (er' := (Sx.up (er) g none)) 1 g 14 (.pointer none) (d) (d) h rfl hd rfl rfl rfl rfl rfl sh85 (Nat.le_of_ble_eq_true rfl) hd (by first | rfl | (simp only [Sx.up_self]; rfl)) (fun x_ hx_ => ⟨rfl, rfl, (Sx.up_ne hx_)⟩) (fun _ h => ?_)
    replace h : Sx.St w0 F0 ([Sx.blk c [.int .i64 (room), .map (some gm), .pointer (some ⟨g3, 0, none⟩), .pointer (Sx.pa ll), .int .i64 (size), .int .i64 (hits), .int .i64 (misses)] 87, Sx.ents (enK 90 (Value.int .i64)) (δ) ((Sx.up ((Sx.up (lt) g3 none)) g none)) ((Sx.up (er) g none))] ++ R) _ := h
    refine wl_nil ?_
    replace h := st_front 1 h
    replace h := st_front 1 h
    refine qn_end [] trivial ?_
    exact ⟨rfl, h⟩
   ·
    refine wl_v rfl rfl (ov_load1 ⟨g, 13, none⟩ _ rfl sh85 ((Sx.ents_at (i := 1) h rfl hd hp hq 13).trans rfl)) ?_
    refine wl_nil ?_
    refine qn_wa (st_selT [true, false] h) ?_
    refine wa_one 3 rfl (by kernel_rfl) ?_
    refine wl_v rfl rfl (ov_load1 ⟨g, 14, none⟩ _ rfl sh85 ((Sx.ents_at (i := 1) h rfl hd hp hq 14).trans rfl)) ?_
    refine wl_nil ?_
    refine qn_wa (st_selT [true, false] h) ?_
    refine wa_tk 8 rfl rfl rfl (st_selT [true, false] h) (fun w_ hS => ov_nilCheck _ rfl) ?_
    refine wa_tk 9 rfl rfl rfl (st_selT [true, false] h) (fun w_ hS => ov_fieldAddr _ ⟨g3, 13, none⟩ _ rfl fo90_3 rfl) ?_
    refine wa_one 10 rfl (by kernel_rfl) ?_
    refine wl_storeE (δ' := δ) (lt' := (Sx.up (lt) g3 none)) (er' := er) 1 g3 13 (.pointer none) (dn4) (dn4) h rfl hdn5 rfl rfl rfl rfl rfl sh85 (Nat.le_of_ble_eq_true rfl) hdn5 (by first | rfl | (simp only [Sx.up_self]; rfl)) (fun x_ hx_ => ⟨rfl, (Sx.up_ne hx_), rfl⟩) (fun _ h => ?_)
    replace h : Sx.St w0 F0 ([Sx.blk c [.int .i64 (room), .map (some gm), .pointer (some ⟨g3, 0, none⟩), .pointer (Sx.pa ll), .int .i64 (size), .int .i64 (hits), .int .i64 (misses)] 87, Sx.ents (enK 90 (Value.int .i64)) (δ) ((Sx.up (lt) g3 none)) (er)] ++ R) _ := h
    refine wl_nil ?_
    refine qn_wa (st_selT [true, false] h) ?_
    refine wa_done (by kernel_rfl) ?_
    refine qn_then ?_
    refine wc_region ?_
    refine wl_v rfl rfl (ov_move _ rfl) ?_
    refine wl_v rfl rfl (ov_move _ rfl) ?_
    refine wl_v rfl rfl (ov_nilCheck _ rfl) ?_
    refine wl_v rfl rfl (ov_fieldAddr _ ⟨g, 13, none⟩ _ rfl fo90_3 rfl) ?_
    refine wl_storeE (δ' := δ) (lt' := (Sx.up ((Sx.up (lt) g3 none)) g none)) (er' := er) 1 g 13 (.pointer none) (d) (d) h rfl hd rfl rfl rfl rfl rfl sh85 (Nat.le_of_ble_eq_true rfl) hd (by first | rfl | (simp only [Sx.up_self]; rfl)) (fun x_ hx_ => ⟨rfl, (Sx.up_ne hx_), rfl⟩) (fun _ h => ?_)
    replace h : Sx.St w0 F0 ([Sx.blk c [.int .i64 (room), .map (some gm), .pointer (some ⟨g3, 0, none⟩), .pointer (Sx.pa ll), .int .i64 (size), .int .i64 (hits), .int .i64 (misses)] 87, Sx.ents (enK 90 (Value.int .i64)) (δ) ((Sx.up ((Sx.up (lt) g3 none)) g none)) (er)] ++ R) _ := h
    refine wl_v rfl rfl (ov_nilCheck _ rfl) ?_
    refine wl_v rfl rfl (ov_fieldAddr _ ⟨g, 14, none⟩ _ rfl fo90_4 rfl) ?_
    refine wl_storeE (δ' := δ) (lt' := (Sx.up ((Sx.up (lt) g3 none)) g none)) (er' := (Sx.up (er) g none)) 1 g 14 (.pointer none) (d) (d) h rfl hd rfl rfl rfl rfl rfl sh85 (Nat.le_of_ble_eq_true rfl) hd (by first | rfl | (simp only [Sx.up_self]; rfl)) (fun x_ hx_ => ⟨rfl, rfl, (Sx.up_ne hx_)⟩) (fun _ h => ?_)
    replace h : Sx.St w0 F0 ([Sx.blk c [.int .i64 (room), .map (some gm), .pointer (some ⟨g3, 0, none⟩), .pointer (Sx.pa ll), .int .i64 (size), .int .i64 (hits), .int .i64 (misses)] 87, Sx.ents (enK 90 (Value.int .i64)) (δ) ((Sx.up ((Sx.up (lt) g3 none)) g none)) ((Sx.up (er) g none))] ++ R) _ := h
    refine wl_nil ?_
    replace h := st_front 1 h
    replace h := st_front 1 h
    refine qn_end [] trivial ?_
    exact ⟨rfl, h⟩
 ·
  obtain ⟨g6, rfl⟩ := Sx.pa_some c1
  obtain ⟨dn7, hdn8⟩ := hpd g6 rfl
  refine wc_draw (fun w => Sx.St w0 F0 ([Sx.blk c [.int .i64 (room), .map (some gm), .pointer (Sx.pa ff), .pointer (Sx.pa ll), .int .i64 (size), .int .i64 (hits), .int .i64 (misses)] 87] ++ R) w) (by kernel_rfl) ?_
  replace h := st_drew h
  refine wa_tk 0 rfl rfl rfl (st_selT [true, false] h) (fun w_ hS => ov_move _ rfl) ?_
  refine wa_tk 1 rfl rfl rfl (st_selT [true, false] h) (fun w_ hS => ov_nilCheck _ rfl) ?_
  refine wa_tk 2 rfl rfl rfl (st_selT [true, false] h) (fun w_ hS => ov_fieldAddr _ ⟨g, 13, none⟩ _ rfl fo90_3 rfl) ?_
  refine wa_tk 4 rfl rfl rfl (st_selT [true, false] h) (fun w_ hS => ov_move _ rfl) ?_
  refine wa_tk 5 rfl rfl rfl (st_selT [true, false] h) (fun w_ hS => ov_nilCheck _ rfl) ?_
  refine wa_tk 6 rfl rfl rfl (st_selT [true, false] h) (fun w_ hS => ov_fieldAddr _ ⟨g, 14, none⟩ _ rfl fo90_4 rfl) ?_
  refine wa_two 3 7 rfl rfl (by kernel_rfl) ?_ ?_
  ·
   refine wl_v rfl rfl (ov_load1 ⟨g, 13, none⟩ _ rfl sh85 ((Sx.ents_at (i := 1) h rfl hd hp hq 13).trans rfl)) ?_
   refine wl_nil ?_
   refine qn_wa (st_selT [true, false] h) ?_
   refine wa_one 7 rfl (by kernel_rfl) ?_
   refine wl_v rfl rfl (ov_load1 ⟨g, 14, none⟩ _ rfl sh85 ((Sx.ents_at (i := 1) h rfl hd hp hq 14).trans rfl)) ?_
   refine wl_nil ?_
   refine qn_wa (st_selT [true, false] h) ?_
   refine wa_tk 8 rfl rfl rfl (st_selT [true, false] h) (fun w_ hS => ov_nilCheck _ rfl) ?_
   refine wa_tk 9 rfl rfl rfl (st_selT [true, false] h) (fun w_ hS => ov_fieldAddr _ ⟨g6, 14, none⟩ _ rfl fo90_4 rfl) ?_
   refine wa_one 10 rfl (by kernel_rfl) ?_
   refine wl_storeE (δ' := δ) (lt' := lt) (er' := (Sx.up (er) g6 q)) 1 g6 14 (.pointer (Sx.pa q)) (dn7) (dn7) h rfl hdn8 rfl rfl rfl rfl rfl sh85 (Nat.le_of_ble_eq_true rfl) hdn8 (by first | rfl | (simp only [Sx.up_self]; rfl)) (fun x_ hx_ => ⟨rfl, rfl, (Sx.up_ne hx_)⟩) (fun _ h => ?_)
   replace h : Sx.St w0 F0 ([Sx.blk c [.int .i64 (room), .map (some gm), .pointer (Sx.pa ff), .pointer (Sx.pa ll), .int .i64 (size), .int .i64 (hits), .int .i64 (misses)] 87, Sx.ents (enK 90 (Value.int .i64)) (δ) (lt) ((Sx.up (er) g6 q))] ++ R) _ := h
   refine wl_nil ?_
   refine qn_wa (st_selT [true, false] h) ?_
   refine wa_done (by kernel_rfl) ?_
   refine qn_then ?_
   refine wc_seq ?_
   refine wc_seq ?_
   refine wc_region ?_
   refine wl_v rfl rfl (ov_move _ rfl) ?_
   refine wl_v rfl rfl (ov_nilCheck _ rfl) ?_
   refine wl_v rfl rfl (ov_fieldAddr _ ⟨g, 14, none⟩ _ rfl fo90_4 rfl) ?_
   refine wl_v rfl rfl (ov_load1 ⟨g, 14, none⟩ _ rfl sh85 ((Sx.ents_at (i := 1) h rfl hd hp (Sx.up_val hq) 14).trans rfl)) ?_
   refine wl_v rfl rfl (ov_bin _ rfl rfl (binR_eqnil Try.underlying85)) ?_
   refine wl_nil ?_
   refine qn_then ?_
   refine wc_cond (by rfl) (fun c9 => ?_) (fun c9 => ?_)
   ·
    obtain rfl := Sx.pa_none c9
    refine wc_region ?_
    refine wl_v rfl rfl (ov_move _ rfl) ?_
    refine wl_v rfl rfl (ov_move _ rfl) ?_
    refine wl_v rfl rfl (ov_nilCheck _ rfl) ?_
    refine wl_v rfl rfl (ov_fieldAddr _ ⟨g, 13, none⟩ _ rfl fo90_3 rfl) ?_
    refine wl_v rfl rfl (ov_load1 ⟨g, 13, none⟩ _ rfl sh85 ((Sx.ents_at (i := 1) h rfl hd hp (Sx.up_val hq) 13).trans rfl)) ?_
    refine wl_v rfl rfl (ov_nilCheck _ rfl) ?_
    refine wl_v rfl rfl (ov_fieldAddr _ ⟨c, 3, none⟩ _ rfl fo87_3 rfl) ?_
    refine wl_storeb 0 _ [.int .i64 (room), .map (some gm), .pointer (Sx.pa ff), .pointer (some ⟨g6, 0, none⟩), .int .i64 (size), .int .i64 (hits), .int .i64 (misses)] h rfl rfl rfl rfl rfl rfl sh85 rfl rfl (fun _ h => ?_)
    refine wl_nil ?_
    refine qn_then ?_
    refine wc_region ?_
    refine wl_v rfl rfl (ov_move _ rfl) ?_
    refine wl_v rfl rfl (ov_move _ rfl) ?_
    refine wl_v rfl rfl (ov_nilCheck _ rfl) ?_
    refine wl_v rfl rfl (ov_fieldAddr _ ⟨g, 13, none⟩ _ rfl fo90_3 rfl) ?_
    refine wl_storeE (δ' := δ) (lt' := (Sx.up (lt) g none)) (er' := (Sx.up (er) g6 none)) 1 g 13 (.pointer none) (d) (d) h rfl hd rfl rfl rfl rfl rfl sh85 (Nat.le_of_ble_eq_true rfl) hd (by first | rfl | (simp only [Sx.up_self]; rfl)) (fun x_ hx_ => ⟨rfl, (Sx.up_ne hx_), rfl⟩) (fun _ h => ?_)
    replace h : Sx.St w0 F0 ([Sx.blk c [.int .i64 (room), .map (some gm), .pointer (Sx.pa ff), .pointer (some ⟨g6, 0, none⟩), .int .i64 (size), .int .i64 (hits), .int .i64 (misses)] 87, Sx.ents (enK 90 (Value.int .i64)) (δ) ((Sx.up (lt) g none)) ((Sx.up (er) g6 none))] ++ R) _ := h
    refine wl_v rfl rfl (ov_nilCheck _ rfl) ?_
    refine wl_v rfl rfl (ov_fieldAddr _ ⟨g, 14, none⟩ _ rfl fo90_4 rfl) ?_
    refine wl_storeE (δ' := δ) (lt' := (Sx.up (lt) g none)) (er' := (Sx.up ((Sx.up (er) g6 none)) g none)) 1 g 14 (.pointer none) (d) (d) h rfl hd rfl rfl rfl rfl rfl sh85 (Nat.le_of_ble_eq_true rfl) hd (by first | rfl | (simp only [Sx.up_self]; rfl)) (fun x_ hx_ => ⟨rfl, rfl, (Sx.up_ne hx_)⟩) (fun _ h => ?_)
    replace h : Sx.St w0 F0 ([Sx.blk c [.int .i64 (room), .map (some gm), .pointer (Sx.pa ff), .pointer (some ⟨g6, 0, none⟩), .int .i64 (size), .int .i64 (hits), .int .i64 (misses)] 87, Sx.ents (enK 90 (Value.int .i64)) (δ) ((Sx.up (lt) g none)) ((Sx.up ((Sx.up (er) g6 none)) g none))] ++ R) _ := h
    refine wl_nil ?_
    replace h := st_front 1 h
    replace h := st_front 1 h
    refine qn_end [] trivial ?_
    exact ⟨rfl, h⟩
   ·
    obtain ⟨g10, rfl⟩ := Sx.pa_some c9
    obtain ⟨dn11, hdn12⟩ := hqd g10 rfl
    refine wc_draw (fun w => Sx.St w0 F0 ([Sx.blk c [.int .i64 (room), .map (some gm), .pointer (Sx.pa ff), .pointer (Sx.pa ll), .int .i64 (size), .int .i64 (hits), .int .i64 (misses)] 87] ++ R) w) (by kernel_rfl) ?_
    replace h := st_drew h
    refine wa_tk 0 rfl rfl rfl (st_selT [true, false] h) (fun w_ hS => ov_move _ rfl) ?_
    refine wa_tk 1 rfl rfl rfl (st_selT [true, false] h) (fun w_ hS => ov_nilCheck _ rfl) ?_
    refine wa_tk 2 rfl rfl rfl (st_selT [true, false] h) (fun w_ hS => ov_fieldAddr _ ⟨g, 14, none⟩ _ rfl fo90_4 rfl) ?_
    refine wa_tk 4 rfl rfl rfl (st_selT [true, false] h) (fun w_ hS => ov_move _ rfl) ?_
    refine wa_tk 5 rfl rfl rfl (st_selT [true, false] h) (fun w_ hS => ov_nilCheck _ rfl) ?_
    refine wa_tk 6 rfl rfl rfl (st_selT [true, false] h) (fun w_ hS => ov_fieldAddr _ ⟨g, 13, none⟩ _ rfl fo90_3 rfl) ?_
    refine wa_two 3 7 rfl rfl (by kernel_rfl) ?_ ?_
    ·
     refine wl_v rfl rfl (ov_load1 ⟨g, 14, none⟩ _ rfl sh85 ((Sx.ents_at (i := 1) h rfl hd hp (Sx.up_val hq) 14).trans rfl)) ?_
     refine wl_nil ?_
     refine qn_wa (st_selT [true, false] h) ?_
     refine wa_one 7 rfl (by kernel_rfl) ?_
     refine wl_v rfl rfl (ov_load1 ⟨g, 13, none⟩ _ rfl sh85 ((Sx.ents_at (i := 1) h rfl hd hp (Sx.up_val hq) 13).trans rfl)) ?_
     refine wl_nil ?_
     refine qn_wa (st_selT [true, false] h) ?_
     refine wa_tk 8 rfl rfl rfl (st_selT [true, false] h) (fun w_ hS => ov_nilCheck _ rfl) ?_
     refine wa_tk 9 rfl rfl rfl (st_selT [true, false] h) (fun w_ hS => ov_fieldAddr _ ⟨g10, 13, none⟩ _ rfl fo90_3 rfl) ?_
     refine wa_one 10 rfl (by kernel_rfl) ?_
     refine wl_storeE (δ' := δ) (lt' := (Sx.up (lt) g10 (some g6))) (er' := (Sx.up (er) g6 (some g10))) 1 g10 13 (.pointer (some ⟨g6, 0, none⟩)) (dn11) (dn11) h rfl hdn12 rfl rfl rfl rfl rfl sh85 (Nat.le_of_ble_eq_true rfl) hdn12 (by first | rfl | (simp only [Sx.up_self]; rfl)) (fun x_ hx_ => ⟨rfl, (Sx.up_ne hx_), rfl⟩) (fun _ h => ?_)
     replace h : Sx.St w0 F0 ([Sx.blk c [.int .i64 (room), .map (some gm), .pointer (Sx.pa ff), .pointer (Sx.pa ll), .int .i64 (size), .int .i64 (hits), .int .i64 (misses)] 87, Sx.ents (enK 90 (Value.int .i64)) (δ) ((Sx.up (lt) g10 (some g6))) ((Sx.up (er) g6 (some g10)))] ++ R) _ := h
     refine wl_nil ?_
     refine qn_wa (st_selT [true, false] h) ?_
     refine wa_done (by kernel_rfl) ?_
     refine qn_then ?_
     refine wc_region ?_
     refine wl_v rfl rfl (ov_move _ rfl) ?_
     refine wl_v rfl rfl (ov_move _ rfl) ?_
     refine wl_v rfl rfl (ov_nilCheck _ rfl) ?_
     refine wl_v rfl rfl (ov_fieldAddr _ ⟨g, 13, none⟩ _ rfl fo90_3 rfl) ?_
     refine wl_storeE (δ' := δ) (lt' := (Sx.up ((Sx.up (lt) g10 (some g6))) g none)) (er' := (Sx.up (er) g6 (some g10))) 1 g 13 (.pointer none) (d) (d) h rfl hd rfl rfl rfl rfl rfl sh85 (Nat.le_of_ble_eq_true rfl) hd (by first | rfl | (simp only [Sx.up_self]; rfl)) (fun x_ hx_ => ⟨rfl, (Sx.up_ne hx_), rfl⟩) (fun _ h => ?_)
     replace h : Sx.St w0 F0 ([Sx.blk c [.int .i64 (room), .map (some gm), .pointer (Sx.pa ff), .pointer (Sx.pa ll), .int .i64 (size), .int .i64 (hits), .int .i64 (misses)] 87, Sx.ents (enK 90 (Value.int .i64)) (δ) ((Sx.up ((Sx.up (lt) g10 (some g6))) g none)) ((Sx.up (er) g6 (some g10)))] ++ R) _ := h
     refine wl_v rfl rfl (ov_nilCheck _ rfl) ?_
     refine wl_v rfl rfl (ov_fieldAddr _ ⟨g, 14, none⟩ _ rfl fo90_4 rfl) ?_
     refine wl_storeE (δ' := δ) (lt' := (Sx.up ((Sx.up (lt) g10 (some g6))) g none)) (er' := (Sx.up ((Sx.up (er) g6 (some g10))) g none)) 1 g 14 (.pointer none) (d) (d) h rfl hd rfl rfl rfl rfl rfl sh85 (Nat.le_of_ble_eq_true rfl) hd (by first | rfl | (simp only [Sx.up_self]; rfl)) (fun x_ hx_ => ⟨rfl, rfl, (Sx.up_ne hx_)⟩) (fun _ h => ?_)
     replace h : Sx.St w0 F0 ([Sx.blk c [.int .i64 (room), .map (some gm), .pointer (Sx.pa ff), .pointer (Sx.pa ll), .int .i64 (size), .int .i64 (hits), .int .i64 (misses)] 87, Sx.ents (enK 90 (Value.int .i64)) (δ) ((Sx.up ((Sx.up (lt) g10 (some g6))) g none)) ((Sx.up ((Sx.up (er) g6 (some g10))) g none))] ++ R) _ := h
     refine wl_nil ?_
     replace h := st_front 1 h
     replace h := st_front 1 h
     refine qn_end [] trivial ?_
     exact ⟨rfl, h⟩
    ·
     refine wl_v rfl rfl (ov_load1 ⟨g, 13, none⟩ _ rfl sh85 ((Sx.ents_at (i := 1) h rfl hd hp (Sx.up_val hq) 13).trans rfl)) ?_
     refine wl_nil ?_
     refine qn_wa (st_selT [true, false] h) ?_
     refine wa_one 3 rfl (by kernel_rfl) ?_
     refine wl_v rfl rfl (ov_load1 ⟨g, 14, none⟩ _ rfl sh85 ((Sx.ents_at (i := 1) h rfl hd hp (Sx.up_val hq) 14).trans rfl)) ?_
     refine wl_nil ?_
     refine qn_wa (st_selT [true, false] h) ?_
     refine wa_tk 8 rfl rfl rfl (st_selT [true, false] h) (fun w_ hS => ov_nilCheck _ rfl) ?_
     refine wa_tk 9 rfl rfl rfl (st_selT [true, false] h) (fun w_ hS => ov_fieldAddr _ ⟨g10, 13, none⟩ _ rfl fo90_3 rfl) ?_
     refine wa_one 10 rfl (by kernel_rfl) ?_
     refine wl_storeE (δ' := δ) (lt' := (Sx.up (lt) g10 (some g6))) (er' := (Sx.up (er) g6 (some g10))) 1 g10 13 (.pointer (some ⟨g6, 0, none⟩)) (dn11) (dn11) h rfl hdn12 rfl rfl rfl rfl rfl sh85 (Nat.le_of_ble_eq_true rfl) hdn12 (by first | rfl | (simp only [Sx.up_self]; rfl)) (fun x_ hx_ => ⟨rfl, (Sx.up_ne hx_), rfl⟩) (fun _ h => ?_)
     replace h : Sx.St w0 F0 ([Sx.blk c [.int .i64 (room), .map (some gm), .pointer (Sx.pa ff), .pointer (Sx.pa ll), .int .i64 (size), .int .i64 (hits), .int .i64 (misses)] 87, Sx.ents (enK 90 (Value.int .i64)) (δ) ((Sx.up (lt) g10 (some g6))) ((Sx.up (er) g6 (some g10)))] ++ R) _ := h
     refine wl_nil ?_
     refine qn_wa (st_selT [true, false] h) ?_
     refine wa_done (by kernel_rfl) ?_
     refine qn_then ?_
     refine wc_region ?_
     refine wl_v rfl rfl (ov_move _ rfl) ?_
     refine wl_v rfl rfl (ov_move _ rfl) ?_
     refine wl_v rfl rfl (ov_nilCheck _ rfl) ?_
     refine wl_v rfl rfl (ov_fieldAddr _ ⟨g, 13, none⟩ _ rfl fo90_3 rfl) ?_
     refine wl_storeE (δ' := δ) (lt' := (Sx.up ((Sx.up (lt) g10 (some g6))) g none)) (er' := (Sx.up (er) g6 (some g10))) 1 g 13 (.pointer none) (d) (d) h rfl hd rfl rfl rfl rfl rfl sh85 (Nat.le_of_ble_eq_true rfl) hd (by first | rfl | (simp only [Sx.up_self]; rfl)) (fun x_ hx_ => ⟨rfl, (Sx.up_ne hx_), rfl⟩) (fun _ h => ?_)
     replace h : Sx.St w0 F0 ([Sx.blk c [.int .i64 (room), .map (some gm), .pointer (Sx.pa ff), .pointer (Sx.pa ll), .int .i64 (size), .int .i64 (hits), .int .i64 (misses)] 87, Sx.ents (enK 90 (Value.int .i64)) (δ) ((Sx.up ((Sx.up (lt) g10 (some g6))) g none)) ((Sx.up (er) g6 (some g10)))] ++ R) _ := h
     refine wl_v rfl rfl (ov_nilCheck _ rfl) ?_
     refine wl_v rfl rfl (ov_fieldAddr _ ⟨g, 14, none⟩ _ rfl fo90_4 rfl) ?_
     refine wl_storeE (δ' := δ) (lt' := (Sx.up ((Sx.up (lt) g10 (some g6))) g none)) (er' := (Sx.up ((Sx.up (er) g6 (some g10))) g none)) 1 g 14 (.pointer none) (d) (d) h rfl hd rfl rfl rfl rfl rfl sh85 (Nat.le_of_ble_eq_true rfl) hd (by first | rfl | (simp only [Sx.up_self]; rfl)) (fun x_ hx_ => ⟨rfl, rfl, (Sx.up_ne hx_)⟩) (fun _ h => ?_)
     replace h : Sx.St w0 F0 ([Sx.blk c [.int .i64 (room), .map (some gm), .pointer (Sx.pa ff), .pointer (Sx.pa ll), .int .i64 (size), .int .i64 (hits), .int .i64 (misses)] 87, Sx.ents (enK 90 (Value.int .i64)) (δ) ((Sx.up ((Sx.up (lt) g10 (some g6))) g none)) ((Sx.up ((Sx.up (er) g6 (some g10))) g none))] ++ R) _ := h
     refine wl_nil ?_
     replace h := st_front 1 h
     replace h := st_front 1 h
     refine qn_end [] trivial ?_
     exact ⟨rfl, h⟩
  ·
   refine wl_v rfl rfl (ov_load1 ⟨g, 14, none⟩ _ rfl sh85 ((Sx.ents_at (i := 1) h rfl hd hp hq 14).trans rfl)) ?_
   refine wl_nil ?_
   refine qn_wa (st_selT [true, false] h) ?_
   refine wa_one 3 rfl (by kernel_rfl) ?_
   refine wl_v rfl rfl (ov_load1 ⟨g, 13, none⟩ _ rfl sh85 ((Sx.ents_at (i := 1) h rfl hd hp hq 13).trans rfl)) ?_
   refine wl_nil ?_
   refine qn_wa (st_selT [true, false] h) ?_
   refine wa_tk 8 rfl rfl rfl (st_selT [true, false] h) (fun w_ hS => ov_nilCheck _ rfl) ?_
   refine wa_tk 9 rfl rfl rfl (st_selT [true, false] h) (fun w_ hS => ov_fieldAddr _ ⟨g6, 14, none⟩ _ rfl fo90_4 rfl) ?_
   refine wa_one 10 rfl (by kernel_rfl) ?_
   refine wl_storeE (δ' := δ) (lt' := lt) (er' := (Sx.up (er) g6 q)) 1 g6 14 (.pointer (Sx.pa q)) (dn7) (dn7) h rfl hdn8 rfl rfl rfl rfl rfl sh85 (Nat.le_of_ble_eq_true rfl) hdn8 (by first | rfl | (simp only [Sx.up_self]; rfl)) (fun x_ hx_ => ⟨rfl, rfl, (Sx.up_ne hx_)⟩) (fun _ h => ?_)
   replace h : Sx.St w0 F0 ([Sx.blk c [.int .i64 (room), .map (some gm), .pointer (Sx.pa ff), .pointer (Sx.pa ll), .int .i64 (size), .int .i64 (hits), .int .i64 (misses)] 87, Sx.ents (enK 90 (Value.int .i64)) (δ) (lt) ((Sx.up (er) g6 q))] ++ R) _ := h
   refine wl_nil ?_
   refine qn_wa (st_selT [true, false] h) ?_
   refine wa_done (by kernel_rfl) ?_
   refine qn_then ?_
   refine wc_seq ?_
   refine wc_seq ?_
   refine wc_region ?_
   refine wl_v rfl rfl (ov_move _ rfl) ?_
   refine wl_v rfl rfl (ov_nilCheck _ rfl) ?_
   refine wl_v rfl rfl (ov_fieldAddr _ ⟨g, 14, none⟩ _ rfl fo90_4 rfl) ?_
   refine wl_v rfl rfl (ov_load1 ⟨g, 14, none⟩ _ rfl sh85 ((Sx.ents_at (i := 1) h rfl hd hp (Sx.up_val hq) 14).trans rfl)) ?_
   refine wl_v rfl rfl (ov_bin _ rfl rfl (binR_eqnil Try.underlying85)) ?_
   refine wl_nil ?_
   refine qn_then ?_
   refine wc_cond (by rfl) (fun c13 => ?_) (fun c13 => ?_)
   ·
    obtain rfl := Sx.pa_none c13
    refine wc_region ?_
    refine wl_v rfl rfl (ov_move _ rfl) ?_
    refine wl_v rfl rfl (ov_move _ rfl) ?_
    refine wl_v rfl rfl (ov_nilCheck _ rfl) ?_
    refine wl_v rfl rfl (ov_fieldAddr _ ⟨g, 13, none⟩ _ rfl fo90_3 rfl) ?_
    refine wl_v rfl rfl (ov_load1 ⟨g, 13, none⟩ _ rfl sh85 ((Sx.ents_at (i := 1) h rfl hd hp (Sx.up_val hq) 13).trans rfl)) ?_
    refine wl_v rfl rfl (ov_nilCheck _ rfl) ?_
    refine wl_v rfl rfl (ov_fieldAddr _ ⟨c, 3, none⟩ _ rfl fo87_3 rfl) ?_
    refine wl_storeb 0 _ [.int .i64 (room), .map (some gm), .pointer (Sx.pa ff), .pointer (some ⟨g6, 0, none⟩), .int .i64 (size), .int .i64 (hits), .int .i64 (misses)] h rfl rfl rfl rfl rfl rfl sh85 rfl rfl (fun _ h => ?_)
    refine wl_nil ?_
    refine qn_then ?_
    refine wc_region ?_
    refine wl_v rfl rfl (ov_move _ rfl) ?_
    refine wl_v rfl rfl (ov_move _ rfl) ?_
    refine wl_v rfl rfl (ov_nilCheck _ rfl) ?_
    refine wl_v rfl rfl (ov_fieldAddr _ ⟨g, 13, none⟩ _ rfl fo90_3 rfl) ?_
    refine wl_storeE (δ' := δ) (lt' := (Sx.up (lt) g none)) (er' := (Sx.up (er) g6 none)) 1 g 13 (.pointer none) (d) (d) h rfl hd rfl rfl rfl rfl rfl sh85 (Nat.le_of_ble_eq_true rfl) hd (by first | rfl | (simp only [Sx.up_self]; rfl)) (fun x_ hx_ => ⟨rfl, (Sx.up_ne hx_), rfl⟩) (fun _ h => ?_)
    replace h : Sx.St w0 F0 ([Sx.blk c [.int .i64 (room), .map (some gm), .pointer (Sx.pa ff), .pointer (some ⟨g6, 0, none⟩), .int .i64 (size), .int .i64 (hits), .int .i64 (misses)] 87, Sx.ents (enK 90 (Value.int .i64)) (δ) ((Sx.up (lt) g none)) ((Sx.up (er) g6 none))] ++ R) _ := h
    refine wl_v rfl rfl (ov_nilCheck _ rfl) ?_
    refine wl_v rfl rfl (ov_fieldAddr _ ⟨g, 14, none⟩ _ rfl fo90_4 rfl) ?_
    refine wl_storeE (δ' := δ) (lt' := (Sx.up (lt) g none)) (er' := (Sx.up ((Sx.up (er) g6 none)) g none)) 1 g 14 (.pointer none) (d) (d) h rfl hd rfl rfl rfl rfl rfl sh85 (Nat.le_of_ble_eq_true rfl) hd (by first | rfl | (simp only [Sx.up_self]; rfl)) (fun x_ hx_ => ⟨rfl, rfl, (Sx.up_ne hx_)⟩) (fun _ h => ?_)
    replace h : Sx.St w0 F0 ([Sx.blk c [.int .i64 (room), .map (some gm), .pointer (Sx.pa ff), .pointer (some ⟨g6, 0, none⟩), .int .i64 (size), .int .i64 (hits), .int .i64 (misses)] 87, Sx.ents (enK 90 (Value.int .i64)) (δ) ((Sx.up (lt) g none)) ((Sx.up ((Sx.up (er) g6 none)) g none))] ++ R) _ := h
    refine wl_nil ?_
    replace h := st_front 1 h
    replace h := st_front 1 h
    refine qn_end [] trivial ?_
    exact ⟨rfl, h⟩
   ·
    obtain ⟨g14, rfl⟩ := Sx.pa_some c13
    obtain ⟨dn15, hdn16⟩ := hqd g14 rfl
    refine wc_draw (fun w => Sx.St w0 F0 ([Sx.blk c [.int .i64 (room), .map (some gm), .pointer (Sx.pa ff), .pointer (Sx.pa ll), .int .i64 (size), .int .i64 (hits), .int .i64 (misses)] 87] ++ R) w) (by kernel_rfl) ?_
    replace h := st_drew h
    refine wa_tk 0 rfl rfl rfl (st_selT [true, false] h) (fun w_ hS => ov_move _ rfl) ?_
    refine wa_tk 1 rfl rfl rfl (st_selT [true, false] h) (fun w_ hS => ov_nilCheck _ rfl) ?_
    refine wa_tk 2 rfl rfl rfl (st_selT [true, false] h) (fun w_ hS => ov_fieldAddr _ ⟨g, 14, none⟩ _ rfl fo90_4 rfl) ?_
    refine wa_tk 4 rfl rfl rfl (st_selT [true, false] h) (fun w_ hS => ov_move _ rfl) ?_
    refine wa_tk 5 rfl rfl rfl (st_selT [true, false] h) (fun w_ hS => ov_nilCheck _ rfl) ?_
    refine wa_tk 6 rfl rfl rfl (st_selT [true, false] h) (fun w_ hS => ov_fieldAddr _ ⟨g, 13, none⟩ _ rfl fo90_3 rfl) ?_
    refine wa_two 3 7 rfl rfl (by kernel_rfl) ?_ ?_
    ·
     refine wl_v rfl rfl (ov_load1 ⟨g, 14, none⟩ _ rfl sh85 ((Sx.ents_at (i := 1) h rfl hd hp (Sx.up_val hq) 14).trans rfl)) ?_
     refine wl_nil ?_
     refine qn_wa (st_selT [true, false] h) ?_
     refine wa_one 7 rfl (by kernel_rfl) ?_
     refine wl_v rfl rfl (ov_load1 ⟨g, 13, none⟩ _ rfl sh85 ((Sx.ents_at (i := 1) h rfl hd hp (Sx.up_val hq) 13).trans rfl)) ?_
     refine wl_nil ?_
     refine qn_wa (st_selT [true, false] h) ?_
     refine wa_tk 8 rfl rfl rfl (st_selT [true, false] h) (fun w_ hS => ov_nilCheck _ rfl) ?_
     refine wa_tk 9 rfl rfl rfl (st_selT [true, false] h) (fun w_ hS => ov_fieldAddr _ ⟨g14, 13, none⟩ _ rfl fo90_3 rfl) ?_
     refine wa_one 10 rfl (by kernel_rfl) ?_
     refine wl_storeE (δ' := δ) (lt' := (Sx.up (lt) g14 (some g6))) (er' := (Sx.up (er) g6 (some g14))) 1 g14 13 (.pointer (some ⟨g6, 0, none⟩)) (dn15) (dn15) h rfl hdn16 rfl rfl rfl rfl rfl sh85 (Nat.le_of_ble_eq_true rfl) hdn16 (by first | rfl | (simp only [Sx.up_self]; rfl)) (fun x_ hx_ => ⟨rfl, (Sx.up_ne hx_), rfl⟩) (fun _ h => ?_)
     replace h : Sx.St w0 F0 ([Sx.blk c [.int .i64 (room), .map (some gm), .pointer (Sx.pa ff), .pointer (Sx.pa ll), .int .i64 (size), .int .i64 (hits), .int .i64 (misses)] 87, Sx.ents (enK 90 (Value.int .i64)) (δ) ((Sx.up (lt) g14 (some g6))) ((Sx.up (er) g6 (some g14)))] ++ R) _ := h
     refine wl_nil ?_
     refine qn_wa (st_selT [true, false] h) ?_
     refine wa_done (by kernel_rfl) ?_
     refine qn_then ?_
     refine wc_region ?_
     refine wl_v rfl rfl (ov_move _ rfl) ?_
     refine wl_v rfl rfl (ov_move _ rfl) ?_
     refine wl_v rfl rfl (ov_nilCheck _ rfl) ?_
     refine wl_v rfl rfl (ov_fieldAddr _ ⟨g, 13, none⟩ _ rfl fo90_3 rfl) ?_
     refine wl_storeE (δ' := δ) (lt' := (Sx.up ((Sx.up (lt) g14 (some g6))) g none)) (er' := (Sx.up (er) g6 (some g14))) 1 g 13 (.pointer none) (d) (d) h rfl hd rfl rfl rfl rfl rfl sh85 (Nat.le_of_ble_eq_true rfl) hd (by first | rfl | (simp only [Sx.up_self]; rfl)) (fun x_ hx_ => ⟨rfl, (Sx.up_ne hx_), rfl⟩) (fun _ h => ?_)
     replace h : Sx.St w0 F0 ([Sx.blk c [.int .i64 (room), .map (some gm), .pointer (Sx.pa ff), .pointer (Sx.pa ll), .int .i64 (size), .int .i64 (hits), .int .i64 (misses)] 87, Sx.ents (enK 90 (Value.int .i64)) (δ) ((Sx.up ((Sx.up (lt) g14 (some g6))) g none)) ((Sx.up (er) g6 (some g14)))] ++ R) _ := h
     refine wl_v rfl rfl (ov_nilCheck _ rfl) ?_
     refine wl_v rfl rfl (ov_fieldAddr _ ⟨g, 14, none⟩ _ rfl fo90_4 rfl) ?_
     refine wl_storeE (δ' := δ) (lt' := (Sx.up ((Sx.up (lt) g14 (some g6))) g none)) (er' := (Sx.up ((Sx.up (er) g6 (some g14))) g none)) 1 g 14 (.pointer none) (d) (d) h rfl hd rfl rfl rfl rfl rfl sh85 (Nat.le_of_ble_eq_true rfl) hd (by first | rfl | (simp only [Sx.up_self]; rfl)) (fun x_ hx_ => ⟨rfl, rfl, (Sx.up_ne hx_)⟩) (fun _ h => ?_)
     replace h : Sx.St w0 F0 ([Sx.blk c [.int .i64 (room), .map (some gm), .pointer (Sx.pa ff), .pointer (Sx.pa ll), .int .i64 (size), .int .i64 (hits), .int .i64 (misses)] 87, Sx.ents (enK 90 (Value.int .i64)) (δ) ((Sx.up ((Sx.up (lt) g14 (some g6))) g none)) ((Sx.up ((Sx.up (er) g6 (some g14))) g none))] ++ R) _ := h
     refine wl_nil ?_
     replace h := st_front 1 h
     replace h := st_front 1 h
     refine qn_end [] trivial ?_
     exact ⟨rfl, h⟩
    ·
     refine wl_v rfl rfl (ov_load1 ⟨g, 13, none⟩ _ rfl sh85 ((Sx.ents_at (i := 1) h rfl hd hp (Sx.up_val hq) 13).trans rfl)) ?_
     refine wl_nil ?_
     refine qn_wa (st_selT [true, false] h) ?_
     refine wa_one 3 rfl (by kernel_rfl) ?_
     refine wl_v rfl rfl (ov_load1 ⟨g, 14, none⟩ _ rfl sh85 ((Sx.ents_at (i := 1) h rfl hd hp (Sx.up_val hq) 14).trans rfl)) ?_
     refine wl_nil ?_
     refine qn_wa (st_selT [true, false] h) ?_
     refine wa_tk 8 rfl rfl rfl (st_selT [true, false] h) (fun w_ hS => ov_nilCheck _ rfl) ?_
     refine wa_tk 9 rfl rfl rfl (st_selT [true, false] h) (fun w_ hS => ov_fieldAddr _ ⟨g14, 13, none⟩ _ rfl fo90_3 rfl) ?_
     refine wa_one 10 rfl (by kernel_rfl) ?_
     refine wl_storeE (δ' := δ) (lt' := (Sx.up (lt) g14 (some g6))) (er' := (Sx.up (er) g6 (some g14))) 1 g14 13 (.pointer (some ⟨g6, 0, none⟩)) (dn15) (dn15) h rfl hdn16 rfl rfl rfl rfl rfl sh85 (Nat.le_of_ble_eq_true rfl) hdn16 (by first | rfl | (simp only [Sx.up_self]; rfl)) (fun x_ hx_ => ⟨rfl, (Sx.up_ne hx_), rfl⟩) (fun _ h => ?_)
     replace h : Sx.St w0 F0 ([Sx.blk c [.int .i64 (room), .map (some gm), .pointer (Sx.pa ff), .pointer (Sx.pa ll), .int .i64 (size), .int .i64 (hits), .int .i64 (misses)] 87, Sx.ents (enK 90 (Value.int .i64)) (δ) ((Sx.up (lt) g14 (some g6))) ((Sx.up (er) g6 (some g14)))] ++ R) _ := h
     refine wl_nil ?_
     refine qn_wa (st_selT [true, false] h) ?_
     refine wa_done (by kernel_rfl) ?_
     refine qn_then ?_
     refine wc_region ?_
     refine wl_v rfl rfl (ov_move _ rfl) ?_
     refine wl_v rfl rfl (ov_move _ rfl) ?_
     refine wl_v rfl rfl (ov_nilCheck _ rfl) ?_
     refine wl_v rfl rfl (ov_fieldAddr _ ⟨g, 13, none⟩ _ rfl fo90_3 rfl) ?_
     refine wl_storeE (δ' := δ) (lt' := (Sx.up ((Sx.up (lt) g14 (some g6))) g none)) (er' := (Sx.up (er) g6 (some g14))) 1 g 13 (.pointer none) (d) (d) h rfl hd rfl rfl rfl rfl rfl sh85 (Nat.le_of_ble_eq_true rfl) hd (by first | rfl | (simp only [Sx.up_self]; rfl)) (fun x_ hx_ => ⟨rfl, (Sx.up_ne hx_), rfl⟩) (fun _ h => ?_)
     replace h : Sx.St w0 F0 ([Sx.blk c [.int .i64 (room), .map (some gm), .pointer (Sx.pa ff), .pointer (Sx.pa ll), .int .i64 (size), .int .i64 (hits), .int .i64 (misses)] 87, Sx.ents (enK 90 (Value.int .i64)) (δ) ((Sx.up ((Sx.up (lt) g14 (some g6))) g none)) ((Sx.up (er) g6 (some g14)))] ++ R) _ := h
     refine wl_v rfl rfl (ov_nilCheck _ rfl) ?_
     refine wl_v rfl rfl (ov_fieldAddr _ ⟨g, 14, none⟩ _ rfl fo90_4 rfl) ?_
     refine wl_storeE (δ' := δ) (lt' := (Sx.up ((Sx.up (lt) g14 (some g6))) g none)) (er' := (Sx.up ((Sx.up (er) g6 (some g14))) g none)) 1 g 14 (.pointer none) (d) (d) h rfl hd rfl rfl rfl rfl rfl sh85 (Nat.le_of_ble_eq_true rfl) hd (by first | rfl | (simp only [Sx.up_self]; rfl)) (fun x_ hx_ => ⟨rfl, rfl, (Sx.up_ne hx_)⟩) (fun _ h => ?_)
     replace h : Sx.St w0 F0 ([Sx.blk c [.int .i64 (room), .map (some gm), .pointer (Sx.pa ff), .pointer (Sx.pa ll), .int .i64 (size), .int .i64 (hits), .int .i64 (misses)] 87, Sx.ents (enK 90 (Value.int .i64)) (δ) ((Sx.up ((Sx.up (lt) g14 (some g6))) g none)) ((Sx.up ((Sx.up (er) g6 (some g14))) g none))] ++ R) _ := h
     refine wl_nil ?_
     replace h := st_front 1 h
     replace h := st_front 1 h
     refine qn_end [] trivial ?_
     exact ⟨rfl, h⟩
set_option maxHeartbeats 400000 in
set_option maxRecDepth 100000 in
theorem front_calls {w0 w : World} {F0 : Nat → Prop} {R : List Sx.HP} (c g gm : Nat) (room size hits misses : Int) (ff ll  : Option Nat) (δ : Nat → Option (Dat Int)) (lt er : Nat → Option Nat) (d : Dat Int) (hd : δ g = some d) (hfd : (∀ x, ff = some x → ∃ d', δ x = some d')) (h : Sx.St w0 F0 ([Sx.blk c [.int .i64 (room), .map (some gm), .pointer (Sx.pa ff), .pointer (Sx.pa ll), .int .i64 (size), .int .i64 (hits), .int .i64 (misses)] 87, Sx.ents (enK 90 (Value.int .i64)) (δ) (lt) (er)] ++ R) w) : Calls Try.prog 39 #[.pointer (some ⟨c, 0, none⟩), .pointer (some ⟨g, 0, none⟩)] w (fun e w1 => e = .returned (.tuple #[]) ∧ Sx.St w0 F0 ([Sx.blk c [.int .i64 (room), .map (some gm), .pointer (some ⟨g, 0, none⟩), .pointer (Sx.pa (frL ll g)), .int .i64 (size), .int .i64 (hits), .int .i64 (misses)] 87, Sx.ents (enK 90 (Value.int .i64)) (δ) (frLt lt g ff) (frEr er g ff)] ++ R) w1) := by
 refine Sx.calls_fn (vs := [.pointer (some ⟨c, 0, none⟩), .pointer (some ⟨g, 0, none⟩)]) Try.func39 rfl Try.ntmps39 rfl ?_
 refine wc_seq ?_
 refine wc_region ?_
 refine wl_v rfl rfl (ov_move _ rfl) ?_
 refine wl_v rfl rfl (ov_move _ rfl) ?_
 refine wl_v rfl rfl (ov_nilCheck _ rfl) ?_
 refine wl_v rfl rfl (ov_fieldAddr _ ⟨c, 2, none⟩ _ rfl fo87_2 rfl) ?_
 refine wl_v rfl rfl (ov_loadb 0 _ h rfl rfl sh85 rfl) ?_
 refine wl_v rfl rfl (ov_nilCheck _ rfl) ?_
 refine wl_v rfl rfl (ov_fieldAddr _ ⟨g, 14, none⟩ _ rfl fo90_4 rfl) ?_
 refine wl_storeE (δ' := δ) (lt' := lt) (er' := (Sx.up (er) g ff)) 1 g 14 (.pointer (Sx.pa ff)) (d) (d) h rfl hd rfl rfl rfl rfl rfl sh85 (Nat.le_of_ble_eq_true rfl) hd (by first | rfl | (simp only [Sx.up_self]; rfl)) (fun x_ hx_ => ⟨rfl, rfl, (Sx.up_ne hx_)⟩) (fun _ h => ?_)
 replace h : Sx.St w0 F0 ([Sx.blk c [.int .i64 (room), .map (some gm), .pointer (Sx.pa ff), .pointer (Sx.pa ll), .int .i64 (size), .int .i64 (hits), .int .i64 (misses)] 87, Sx.ents (enK 90 (Value.int .i64)) (δ) (lt) ((Sx.up (er) g ff))] ++ R) _ := h
 refine wl_nil ?_
 refine qn_then ?_
 refine wc_seq ?_
 refine wc_seq ?_
 refine wc_region ?_
 refine wl_v rfl rfl (ov_move _ rfl) ?_
 refine wl_v rfl rfl (ov_nilCheck _ rfl) ?_
 refine wl_v rfl rfl (ov_fieldAddr _ ⟨c, 2, none⟩ _ rfl fo87_2 rfl) ?_
 refine wl_v rfl rfl (ov_loadb 0 _ h rfl rfl sh85 rfl) ?_
 refine wl_v rfl rfl (ov_bin _ rfl rfl (binR_nenil Try.underlying85)) ?_
 refine wl_nil ?_
 refine qn_then ?_
 refine wc_cond (by rfl) (fun c1 => ?_) (fun c1 => ?_)
 ·
  obtain ⟨g2, rfl⟩ := Sx.pa_some c1
  obtain ⟨dn3, hdn4⟩ := hfd g2 rfl
  refine wc_region ?_
  refine wl_v rfl rfl (ov_move _ rfl) ?_
  refine wl_v rfl rfl (ov_nilCheck _ rfl) ?_
  refine wl_v rfl rfl (ov_fieldAddr _ ⟨c, 2, none⟩ _ rfl fo87_2 rfl) ?_
  refine wl_v rfl rfl (ov_loadb 0 _ h rfl rfl sh85 rfl) ?_
  refine wl_v rfl rfl (ov_move _ rfl) ?_
  refine wl_v rfl rfl (ov_nilCheck _ rfl) ?_
  refine wl_v rfl rfl (ov_fieldAddr _ ⟨g2, 13, none⟩ _ rfl fo90_3 rfl) ?_
  refine wl_storeE (δ' := δ) (lt' := (Sx.up (lt) g2 (some g))) (er' := (Sx.up (er) g (some g2))) 1 g2 13 (.pointer (some ⟨g, 0, none⟩)) (dn3) (dn3) h rfl hdn4 rfl rfl rfl rfl rfl sh85 (Nat.le_of_ble_eq_true rfl) hdn4 (by first | rfl | (simp only [Sx.up_self]; rfl)) (fun x_ hx_ => ⟨rfl, (Sx.up_ne hx_), rfl⟩) (fun _ h => ?_)
  replace h : Sx.St w0 F0 ([Sx.blk c [.int .i64 (room), .map (some gm), .pointer (some ⟨g2, 0, none⟩), .pointer (Sx.pa ll), .int .i64 (size), .int .i64 (hits), .int .i64 (misses)] 87, Sx.ents (enK 90 (Value.int .i64)) (δ) ((Sx.up (lt) g2 (some g))) ((Sx.up (er) g (some g2)))] ++ R) _ := h
  refine wl_nil ?_
  refine qn_then ?_
  refine wc_seq ?_
  refine wc_region ?_
  refine wl_v rfl rfl (ov_move _ rfl) ?_
  refine wl_v rfl rfl (ov_move _ rfl) ?_
  refine wl_v rfl rfl (ov_nilCheck _ rfl) ?_
  refine wl_v rfl rfl (ov_fieldAddr _ ⟨c, 2, none⟩ _ rfl fo87_2 rfl) ?_
  refine wl_storeb 0 _ [.int .i64 (room), .map (some gm), .pointer (some ⟨g, 0, none⟩), .pointer (Sx.pa ll), .int .i64 (size), .int .i64 (hits), .int .i64 (misses)] h rfl rfl rfl rfl rfl rfl sh85 rfl rfl (fun _ h => ?_)
  refine wl_nil ?_
  refine qn_then ?_
  refine wc_seq ?_
  refine wc_region ?_
  refine wl_v rfl rfl (ov_move _ rfl) ?_
  refine wl_v rfl rfl (ov_nilCheck _ rfl) ?_
  refine wl_v rfl rfl (ov_fieldAddr _ ⟨c, 3, none⟩ _ rfl fo87_3 rfl) ?_
  refine wl_v rfl rfl (ov_loadb 0 _ h rfl rfl sh85 rfl) ?_
  refine wl_v rfl rfl (ov_bin _ rfl rfl (binR_eqnil Try.underlying85)) ?_
  refine wl_nil ?_
  refine qn_then ?_
  refine wc_cond (by rfl) (fun c5 => ?_) (fun c5 => ?_)
  ·
   obtain rfl := Sx.pa_none c5
   refine wc_region ?_
   refine wl_v rfl rfl (ov_move _ rfl) ?_
   refine wl_v rfl rfl (ov_move _ rfl) ?_
   refine wl_v rfl rfl (ov_nilCheck _ rfl) ?_
   refine wl_v rfl rfl (ov_fieldAddr _ ⟨c, 3, none⟩ _ rfl fo87_3 rfl) ?_
   refine wl_storeb 0 _ [.int .i64 (room), .map (some gm), .pointer (some ⟨g, 0, none⟩), .pointer (some ⟨g, 0, none⟩), .int .i64 (size), .int .i64 (hits), .int .i64 (misses)] h rfl rfl rfl rfl rfl rfl sh85 rfl rfl (fun _ h => ?_)
   refine wl_nil ?_
   replace h := st_front 1 h
   replace h := st_front 1 h
   refine qn_end [] trivial ?_
   exact ⟨rfl, h⟩
  ·
   obtain ⟨g6, rfl⟩ := Sx.pa_some c5
   refine wc_skip ?_
   replace h := st_front 1 h
   replace h := st_front 1 h
   refine qn_end [] trivial ?_
   exact ⟨rfl, h⟩
 ·
  obtain rfl := Sx.pa_none (Classical.not_not.1 c1)
  refine wc_skip ?_
  refine qn_then ?_
  refine wc_seq ?_
  refine wc_region ?_
  refine wl_v rfl rfl (ov_move _ rfl) ?_
  refine wl_v rfl rfl (ov_move _ rfl) ?_
  refine wl_v rfl rfl (ov_nilCheck _ rfl) ?_
  refine wl_v rfl rfl (ov_fieldAddr _ ⟨c, 2, none⟩ _ rfl fo87_2 rfl) ?_
  refine wl_storeb 0 _ [.int .i64 (room), .map (some gm), .pointer (some ⟨g, 0, none⟩), .pointer (Sx.pa ll), .int .i64 (size), .int .i64 (hits), .int .i64 (misses)] h rfl rfl rfl rfl rfl rfl sh85 rfl rfl (fun _ h => ?_)
  refine wl_nil ?_
  refine qn_then ?_
  refine wc_seq ?_
  refine wc_region ?_
  refine wl_v rfl rfl (ov_move _ rfl) ?_
  refine wl_v rfl rfl (ov_nilCheck _ rfl) ?_
  refine wl_v rfl rfl (ov_fieldAddr _ ⟨c, 3, none⟩ _ rfl fo87_3 rfl) ?_
  refine wl_v rfl rfl (ov_loadb 0 _ h rfl rfl sh85 rfl) ?_
  refine wl_v rfl rfl (ov_bin _ rfl rfl (binR_eqnil Try.underlying85)) ?_
  refine wl_nil ?_
  refine qn_then ?_
  refine wc_cond (by rfl) (fun c7 => ?_) (fun c7 => ?_)
  ·
   obtain rfl := Sx.pa_none c7
   refine wc_region ?_
   refine wl_v rfl rfl (ov_move _ rfl) ?_
   refine wl_v rfl rfl (ov_move _ rfl) ?_
   refine wl_v rfl rfl (ov_nilCheck _ rfl) ?_
   refine wl_v rfl rfl (ov_fieldAddr _ ⟨c, 3, none⟩ _ rfl fo87_3 rfl) ?_
   refine wl_storeb 0 _ [.int .i64 (room), .map (some gm), .pointer (some ⟨g, 0, none⟩), .pointer (some ⟨g, 0, none⟩), .int .i64 (size), .int .i64 (hits), .int .i64 (misses)] h rfl rfl rfl rfl rfl rfl sh85 rfl rfl (fun _ h => ?_)
   refine wl_nil ?_
   replace h := st_front 1 h
   replace h := st_front 1 h
   refine qn_end [] trivial ?_
   exact ⟨rfl, h⟩
  ·
   obtain ⟨g8, rfl⟩ := Sx.pa_some c7
   refine wc_skip ?_
   replace h := st_front 1 h
   replace h := st_front 1 h
   refine qn_end [] trivial ?_
   exact ⟨rfl, h⟩
set_option maxHeartbeats 400000 in
set_option maxRecDepth 100000 in
theorem find_calls {w0 w : World} {F0 : Nat → Prop} {R : List Sx.HP} (c : Nat) (room size hits misses : Int) (ff ll : Option Nat) (I : CI Int) (k : KV) (A : Option Addr) (cc : Nat) (hB : ∀ cs w, Sx.St w0 F0 (cs ++ R) w → CaAt 90 85 (Value.int .i64) w c [.int .i64 (room), .map (some I.gm), .pointer (Sx.pa ff), .pointer (Sx.pa ll), .int .i64 (size), .int .i64 (hits), .int .i64 (misses)] I) (hI : Inv I) (hlen : I.L.length ≤ 4611686018427387904) (hs : SmallK k) (hr : ∀ cs w, Sx.St w0 F0 (cs ++ R) w → k50.C w A (k).f1.length (k).f1) (h : Sx.St w0 F0 R w) : Calls Try.prog 37 #[.pointer (some ⟨c, 0, none⟩), .agg #[.string ((k).f0), .slice (A) (((k).f1).length) (cc), .int .i64 ((k).f2), .int .i64 ((k).f3), .int .i64 (((k).f4).f0), .int .i64 (((k).f4).f1), .int .i64 (((k).f4).f2), .int .i64 (((k).f4).f3), .int .i64 (((k).f4).f4), .int .i64 (((k).f4).f5), .int .i64 (((k).f4).f6)], .int .u64 (hashK k)] w (fun e w1 => ∃ o : Option Nat, e = .returned (.pointer (Sx.pa o)) ∧ (o = none → ∀ p ∈ I.L, alikeB p.2.key k = false) ∧ (∀ g, o = some g → ∃ d, (g, d) ∈ I.L ∧ alikeB d.key k = true) ∧ Sx.St w0 F0 R w1) := by
 obtain ⟨bl, hbn, hbp, hbC, _⟩ := bucket_of hI.bk (hashK k)
 obtain ⟨A0, hA0⟩ : ∃ A_, ((Sx.lk I.BM (hashK k)).getD ⟨none, 0, 0⟩).A = A_ := ⟨_, rfl⟩
 obtain ⟨c0, hc0⟩ : ∃ A_, ((Sx.lk I.BM (hashK k)).getD ⟨none, 0, 0⟩).c = A_ := ⟨_, rfl⟩
 have hrow : ∀ cs w, Sx.St w0 F0 (cs ++ R) w → Sx.kPtr.C w A0 bl.length bl := fun cs w h => by rw [← hA0]; exact hbC w (hB cs w h).rows
 have hbl_ : bl.length ≤ 4611686018427387904 := by rw [hbp.length_eq]; exact Nat.le_trans (adr_len _ _) hlen
 refine Sx.calls_fn (vs := [.pointer (some ⟨c, 0, none⟩), .agg #[.string ((k).f0), .slice (A) (((k).f1).length) (cc), .int .i64 ((k).f2), .int .i64 ((k).f3), .int .i64 (((k).f4).f0), .int .i64 (((k).f4).f1), .int .i64 (((k).f4).f2), .int .i64 (((k).f4).f3), .int .i64 (((k).f4).f4), .int .i64 (((k).f4).f5), .int .i64 (((k).f4).f6)], .int .u64 (hashK k)]) Try.func37 rfl Try.ntmps37 rfl ?_
 refine wc_seq ?_
 refine wc_region ?_
 refine wl_box _ h rfl rfl rfl (fun b1 _ h => ?_)
 replace h : Sx.St _ _ (Sx.blk b1 [.string ((k).f0), .slice (A) (((k).f1).length) (cc), .int .i64 ((k).f2), .int .i64 ((k).f3), .int .i64 (((k).f4).f0), .int .i64 (((k).f4).f1), .int .i64 (((k).f4).f2), .int .i64 (((k).f4).f3), .int .i64 (((k).f4).f4), .int .i64 (((k).f4).f5), .int .i64 (((k).f4).f6)] 33 :: _) _ := h
 refine wl_v rfl rfl (ov_assign _ rfl) ?_
 refine wl_nil ?_
 refine qn_then ?_
 refine wc_seq ?_
 refine wc_seq ?_
 refine wc_region ?_
 refine wl_v rfl rfl (ov_move _ rfl) ?_
 refine wl_v rfl rfl (ov_nilCheck _ rfl) ?_
 refine wl_v rfl rfl (ov_fieldAddr _ ⟨c, 1, none⟩ _ rfl fo87_1 rfl) ?_
 refine wl_v rfl rfl (ov_load1 ⟨c, 1, none⟩ _ rfl sh84 ((((hB [_] _ h).cell) 1).trans rfl)) ?_
 refine wl_v rfl rfl (ov_move _ rfl) ?_
 refine wl_v rfl rfl ((ov_lookup1 (KU) (EH) (.slice (none) (0) (0)) I.gm (hashK k) (I.BM) rfl rfl Try.underlying84 Try.underlying42 zo92 ((hB [_] _ h).map)).toV ((Sx.lkH _ _).trans (by rw [hA0, hbn, hc0]))) ?_
 refine wl_v rfl rfl (ov_len _ _ _ _ _ rfl es92) ?_
 refine wl_v rfl rfl (ov_move _ rfl) ?_
 refine wl_nil ?_
 refine qn_then ?_
 refine wc_block ?_
 refine wc_loop (fun (x_ : Nat) => [(0, .pointer (some ⟨c, 0, none⟩)), (2, .int .u64 (hashK k)), (4, .pointer (some ⟨b1, 0, none⟩)), (14, .slice (A0) (bl.length) (c0)), (15, .int .i64 (((bl.length : Nat) : Int))), (16, .int .i64 (((x_ : Nat) : Int)))]) (fun (x_ : Nat) (w : World) => (x_ ≤ bl.length ∧ ∀ j, j < x_ → ∀ d, (bl.getD j 0, d) ∈ I.L → alikeB d.key k = false) ∧ Sx.St w0 F0 ([Sx.blk b1 [.string ((k).f0), .slice (A) (((k).f1).length) (cc), .int .i64 ((k).f2), .int .i64 ((k).f3), .int .i64 (((k).f4).f0), .int .i64 (((k).f4).f1), .int .i64 (((k).f4).f2), .int .i64 (((k).f4).f3), .int .i64 (((k).f4).f4), .int .i64 (((k).f4).f5), .int .i64 (((k).f4).f6)] 33] ++ R) w) (fun (x_ : Nat) => bl.length - x_) (0) ?_ ?_ ?_
 · exact ⟨rfl, rfl, rfl, rfl, rfl, (congrArg (fun z_ => some (Value.int .i64 z_)) (show (0 : Int) = ((0 : Nat) : Int) by omega)), trivial⟩
 · exact ⟨⟨Nat.zero_le _, fun j_ hj_ => absurd hj_ (Nat.not_lt_zero _)⟩, h⟩
 intro i w h
 obtain ⟨hJ, h⟩ := h
 replace hJ : i ≤ bl.length ∧ ∀ j, j < i → ∀ d, (bl.getD j 0, d) ∈ I.L → alikeB d.key k = false := hJ
 replace h : Sx.St w0 F0 ([Sx.blk b1 [.string ((k).f0), .slice (A) (((k).f1).length) (cc), .int .i64 ((k).f2), .int .i64 ((k).f3), .int .i64 (((k).f4).f0), .int .i64 (((k).f4).f1), .int .i64 (((k).f4).f2), .int .i64 (((k).f4).f3), .int .i64 (((k).f4).f4), .int .i64 (((k).f4).f5), .int .i64 (((k).f4).f6)] 33] ++ R) w := h
 show Sx.WC _ _ _ _ [(0, .pointer (some ⟨c, 0, none⟩)), (2, .int .u64 (hashK k)), (4, .pointer (some ⟨b1, 0, none⟩)), (14, .slice (A0) (bl.length) (c0)), (15, .int .i64 (((bl.length : Nat) : Int))), (16, .int .i64 (((i : Nat) : Int)))] _
 refine wc_seq ?_
 refine wc_region ?_
 refine wl_v rfl rfl (ov_bin _ rfl rfl (binR_lss)) ?_
 refine wl_nil ?_
 refine qn_then ?_
 refine wc_seq ?_
 refine wc_cond (by rfl) (fun c2 => ?_) (fun c2 => ?_)
 ·
  refine wc_skip ?_
  refine qn_then ?_
  refine wc_seq ?_
  refine wc_block ?_
  refine wc_seq ?_
  refine wc_region ?_
  obtain ⟨ad3, rfl⟩ := Sx.C_some ((hrow [_] _ h)) (k := (i : Nat)) (by first | assumption | omega | (simp only [List.length_set, List.length_append, List.length_cons, List.length_nil]; omega))
  refine wl_v rfl rfl (ov_indexAddrN _ _ _ _ _ (i : Nat) rfl rfl es92 rfl (by first | assumption | omega | (simp only [List.length_take, List.length_drop, List.length_set, List.length_append, List.length_cons, List.length_nil]; omega))) ?_
  obtain ⟨cl6, _, hk5, hc4⟩ := Sx.C_cells ((hrow [_] _ h)) (z := (0 : Nat)) (k := (i : Nat)) (by first | assumption | omega | (simp only [List.length_set, List.length_append, List.length_cons, List.length_nil]; omega))
  obtain rfl := Sx.kPtr_open hk5
  refine wl_v rfl rfl (ov_load1 _ _ rfl sh85 ((hc4 0 _ rfl))) ?_
  obtain ⟨d, hd, hdh⟩ := mem_adr.1 (hbp.subset (getD_in (show i < bl.length by omega)))
  refine wl_v rfl rfl (ov_assign _ rfl) ?_
  refine wl_nil ?_
  refine qn_then ?_
  refine wc_seq ?_
  refine wc_draw (fun w => Sx.St w0 F0 ([Sx.blk b1 [.string ((k).f0), .slice (A) (((k).f1).length) (cc), .int .i64 ((k).f2), .int .i64 ((k).f3), .int .i64 (((k).f4).f0), .int .i64 (((k).f4).f1), .int .i64 (((k).f4).f2), .int .i64 (((k).f4).f3), .int .i64 (((k).f4).f4), .int .i64 (((k).f4).f5), .int .i64 (((k).f4).f6)] 33] ++ R) w) (by kernel_rfl) ?_
  replace h := st_drew h
  refine wa_tk 0 rfl rfl rfl (st_selT [true] h) (fun w_ hS => ov_move _ rfl) ?_
  refine wa_tk 1 rfl rfl rfl (st_selT [true] h) (fun w_ hS => ov_nilCheck _ rfl) ?_
  refine wa_tk 2 rfl rfl rfl (st_selT [true] h) (fun w_ hS => ov_fieldAddr _ ⟨(bl).getD (i : Nat) (0 : Nat), 0, none⟩ _ rfl fo90_0 rfl) ?_
  refine wa_tk 3 rfl rfl rfl (st_selT [true] h) (fun w_ hS => ov_loadN ⟨(bl).getD (i : Nat) (0 : Nat), 0, none⟩ [.string (((d).key).f0), .slice ((d).h.A) ((((d).key).f1).length) ((d).h.c), .int .i64 (((d).key).f2), .int .i64 (((d).key).f3), .int .i64 ((((d).key).f4).f0), .int .i64 ((((d).key).f4).f1), .int .i64 ((((d).key).f4).f2), .int .i64 ((((d).key).f4).f3), .int .i64 ((((d).key).f4).f4), .int .i64 ((((d).key).f4).f5), .int .i64 ((((d).key).f4).f6)] rfl sh33 (Sx.rob_cells ((Sx.ent_cell ((hB [_] _ hS).ent _ _ (hI.dat _ hd)))) 0 rfl)) ?_
  refine wa_tk 4 rfl rfl rfl (st_selT [true] h) (fun w_ hS => ov_loadbN 0 [.string ((k).f0), .slice (A) (((k).f1).length) (cc), .int .i64 ((k).f2), .int .i64 ((k).f3), .int .i64 (((k).f4).f0), .int .i64 (((k).f4).f1), .int .i64 (((k).f4).f2), .int .i64 (((k).f4).f3), .int .i64 (((k).f4).f4), .int .i64 (((k).f4).f5), .int .i64 (((k).f4).f6)] hS rfl rfl sh33 rfl) ?_
  refine wa_one 5 rfl (by kernel_rfl) ?_
  refine wl_call _ rfl rfl rfl ent16 (CK.Alike_calls (R := [Sx.blk b1 [.string ((k).f0), .slice (A) (((k).f1).length) (cc), .int .i64 ((k).f2), .int .i64 ((k).f3), .int .i64 (((k).f4).f0), .int .i64 (((k).f4).f1), .int .i64 (((k).f4).f2), .int .i64 (((k).f4).f3), .int .i64 (((k).f4).f4), .int .i64 (((k).f4).f5), .int .i64 (((k).f4).f6)] 33] ++ R) ((d).key) (k) ((d).h.A) (A) ((d).h.c) (cc) (hI.sm _ hd) hs (Sx.en_shift (cs2 := [Sx.blk b1 [.string ((k).f0), .slice (A) (((k).f1).length) (cc), .int .i64 ((k).f2), .int .i64 ((k).f3), .int .i64 (((k).f4).f0), .int .i64 (((k).f4).f1), .int .i64 (((k).f4).f2), .int .i64 (((k).f4).f3), .int .i64 (((k).f4).f4), .int .i64 (((k).f4).f5), .int .i64 (((k).f4).f6)] 33]) (fun cs_ w_ h_ => ra_C (hB cs_ w_ h_).runs (hI.hdr _ hd))) (Sx.en_shift (cs2 := [Sx.blk b1 [.string ((k).f0), .slice (A) (((k).f1).length) (cc), .int .i64 ((k).f2), .int .i64 ((k).f3), .int .i64 (((k).f4).f0), .int .i64 (((k).f4).f1), .int .i64 (((k).f4).f2), .int .i64 (((k).f4).f3), .int .i64 (((k).f4).f4), .int .i64 (((k).f4).f5), .int .i64 (((k).f4).f6)] 33]) hr) h) ?_
  rintro e_ w_ ⟨rfl, h⟩
  refine ⟨_, rfl, ?_⟩
  refine wl_nil ?_
  refine qn_wa (st_selT [true] h) ?_
  refine wa_done (by kernel_rfl) ?_
  refine qn_then ?_
  refine wc_condb (by rfl) (fun c7 => ?_) (fun c7 => ?_)
  ·
   refine wc_seq ?_
   refine wc_region ?_
   refine wl_v rfl rfl (ov_move _ rfl) ?_
   refine wl_v rfl rfl (ov_assign _ rfl) ?_
   refine wl_nil ?_
   refine qn_then ?_
   refine wc_ret ?_
   refine qn_block_ret ?_
   refine qn_then_ret ?_
   refine qn_then_ret ?_
   refine qn_block_ret ?_
   refine qn_then_ret ?_
   replace h := st_selT [false] h
   refine qn_ret [_] ⟨rfl, trivial⟩ ?_
   exact ⟨some ((bl).getD (i : Nat) (0 : Nat)), rfl, (fun e_ => by cases e_), (fun g_ e_ => by injection e_ with e_; subst e_; exact ⟨d, hd, by assumption⟩), h⟩
  ·
   refine wc_skip ?_
   refine qn_block_normal ?_
   refine qn_then ?_
   refine wc_region ?_
   refine wl_v rfl rfl (ov_bin _ rfl rfl (binR_add (r := (((i : Nat) : Int)) + 1) (Sx.w64 (by omega)))) ?_
   refine wl_v rfl rfl (ov_move _ rfl) ?_
   refine wl_nil ?_
   refine qn_next ((i + 1)) (by show bl.length - (i + 1) < bl.length - i; omega) ⟨rfl, rfl, rfl, (congrArg (fun z_ => some (Value.slice (some ad3) z_ (c0))) (show (bl.length : Nat) = bl.length by first | rfl | simp)), rfl, (congrArg (fun z_ => some (Value.int .i64 z_)) (show ((((i : Nat) : Int)) + 1 : Int) = (((i + 1) : Nat) : Int) by omega)), trivial⟩ ?_
   show ((i + 1) ≤ bl.length ∧ ∀ j, j < (i + 1) → ∀ d, (bl.getD j 0, d) ∈ I.L → alikeB d.key k = false) ∧ _
   exact ⟨⟨by omega, find_step hI hJ.2 hd (by assumption)⟩, h⟩
 ·
  refine wc_exit ?_
  refine qn_then_exit ?_
  refine qn_then_exit ?_
  refine qn_block_exit ?_
  refine qn_then ?_
  refine wc_seq ?_
  refine wc_region ?_
  refine wl_v rfl rfl (ov_assign _ rfl) ?_
  refine wl_nil ?_
  refine qn_then ?_
  refine wc_ret ?_
  replace h := st_selT [false] h
  refine qn_ret [_] ⟨rfl, trivial⟩ ?_
  exact ⟨none, rfl, fun _ => find_done hI hbp (fun j_ hj_ => hJ.2 j_ (by omega)), (fun _ e_ => by cases e_), h⟩
end Go.Proofs.Ytmlkajmlhmfdgaa.RI
