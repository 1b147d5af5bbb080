/- Pruned by wip/prune.py. -/
import Derived.Test.YtieieindakbpoaaProg
import Derived.Test.YtieieindakbpoaaQSxGlue
import Derived.Test.YtieieindakbpoaaQSxRanged
import Derived.Test.YtieieindakbpoaaQSxRange1
import Derived.Test.YtieieindakbpoaaQSxFlow
import Derived.Test.YtieieindakbpoaaQSxBytes
import Derived.Test.YtieieindakbpoaaQSxKinds
import Derived.Test.YtieieindakbpoaaQPcText
import Derived.Test.YtieieindakbpoaaQPcWalk
import Derived.Test.YtieieindakbpoaaQSxTree
import Derived.Test.YtieieindakbpoaaQSxRunes
import Derived.Test.YtieieindakbpoaaQSxSplit
import Derived.Test.YtieieindakbpoaaQSxWalk
namespace Go.Proofs.Ytieieindakbpoaa.TC
open Go Go.RowKit Go.Proofs.YtieieindakbpoaaW.PrintWords Go.Proofs.Ytieieindakbpoaa.Kinds Go.Proofs.Ytieieindakbpoaa.Given Go.Proofs.Ytieieindakbpoaa.Rn Go.Proofs.Ytieieindakbpoaa.Sx 
set_option linter.unusedVariables false
set_option linter.unusedSimpArgs false
theorem sh23 : Sx.shapeOf Try.prog 23 = some (false, 1) := by kernel_rfl
theorem fo68_2 : Sx.fieldOff Try.prog 68 2 = some 2 := by kernel_rfl
theorem sh66 : Sx.shapeOf Try.prog 66 = some (false, 1) := by kernel_rfl
theorem ent41 : Sx.Ent Try.prog 41 := ⟨Try.f41, Try.func41, by kernel_rfl, by kernel_rfl⟩
set_option maxHeartbeats 4000000 in
set_option maxRecDepth 100000 in
theorem chunks_seq {w : World} {gs : Sx.Gs} {gc gt : Nat} {s0 : ByteArray} {A : Option Addr} {c : Nat} {L : List Int} {T : Pc.AT} (hz0 : s0.size ≤ 1000000) (hzL : L.length ≤ 1000000) (hcap : ∀ W, Sx.KC gs w W → ∀ j, W.cell? ⟨gc, j, none⟩ = ([.pointer (some ⟨gt, 0, none⟩)] : List Value)[j]?) (htx : ∀ W, Sx.KC gs w W → ∀ j, W.cell? ⟨gt, j, none⟩ = ([.string s0, .slice A L.length c, .pointer (Pc.AT.ptr T)] : List Value)[j]?) (hrow : ∀ W, Sx.KC gs w W → (Kd.int .u8).C W A L.length L) (hlc : L.length ≤ c) (hT : ∀ W, Sx.KC gs w W → Pc.At W T) (hw : Pc.Wf s0 L (Pc.AT.fl T)) :
    Sx.SeqX Try.prog 40 #[.pointer (some ⟨gc, 0, none⟩)] (fun x => #[.string x]) (Sx.KC gs) (fun xs => xs = Pc.chs s0 L (Pc.AT.fl T)) (fun pre => ∃ k, k ≤ (Pc.chs s0 L (Pc.AT.fl T)).length ∧ pre = (Pc.chs s0 L (Pc.AT.fl T)).take k) (fun pre x => ∃ suf, Pc.chs s0 L (Pc.AT.fl T) = pre ++ x :: suf) w := by
 intro l J Jx W hbw hJ hJx hY h0
 have hk : Sx.KC gs w W := Sx.kc_below hbw
 refine Sx.calls_fnI (vs := [.func (.yield l) #[] #[], .pointer (some ⟨gc, 0, none⟩)]) Try.func40 rfl Try.ntmps40 rfl ?_
 have h := st_start W
 refine Sx.ci_drawy Sx.lax_wide (fun _ _ h_ => (And.left h_).elim fun _ e_ => by cases e_) (by kernel_rfl) (by kernel_rfl) ?_
 replace h := st_drew h
 refine Sx.wy_start (l2 := #[false, false, false, false, false, false, false]) (by kernel_rfl) ?_
 refine Sx.wy_have 1 #[true, true, true, true, true, true, false] [(0, .func (.yield l) #[] #[]), (1, .pointer (some ⟨gc, 0, none⟩)), (3, .pointer (some ⟨gt, 0, none⟩)), (4, .pointer (some ⟨gt, 0, none⟩)), (5, .pointer (some ⟨gt, 0, none⟩)), (6, .pointer (some ⟨gt, 2, none⟩)), (7, .pointer (Pc.AT.ptr T)), (8, .func (.yield l) #[] #[])] ?_ (fun nd19_ => ?_)
 ·
  refine Sx.wy_one 6 rfl (by kernel_rfl) ?_
  ·
   refine wl_call _ rfl rfl rfl ent41 (TW.walk_calls hz0 hzL htx hrow hlc (fun s_ A_ B_ hs_ hb_ => hJ s_ A_ B_ none hs_ (Sx.below_grown hb_) (fun r_ e_ => by cases e_)) hY T [] _ hT hw (hJ _ _ _ none h0 (Sx.below_grown (st_below0 h)) (fun r_ e_ => by cases e_)) (Sx.kc_trans hk (Sx.kc_below (st_below0 h))) ⟨[], by simp⟩) ?_
   intro e_ W2_ hp_
   have hp2_ : ∃ b_ : Bool, e_ = .returned (.bool b_) := by rcases hp_ with ⟨rfl, _⟩ | ⟨rfl, _⟩ <;> exact ⟨_, rfl⟩
   obtain ⟨b_, rfl⟩ := hp2_
   refine ⟨_, rfl, ?_⟩
   refine wl_nil ?_
   refine qn_wy (f2 := [(0, .func (.yield l) #[] #[]), (1, .pointer (some ⟨gc, 0, none⟩)), (3, .pointer (some ⟨gt, 0, none⟩)), (4, .pointer (some ⟨gt, 0, none⟩)), (5, .pointer (some ⟨gt, 0, none⟩)), (6, .pointer (some ⟨gt, 2, none⟩)), (7, .pointer (Pc.AT.ptr T)), (8, .func (.yield l) #[] #[]), (9, .bool (b_))]) ⟨rfl, rfl, rfl, rfl, rfl, rfl, rfl, rfl, rfl, trivial⟩ (Sx.wy_done (by kernel_rfl) ?_)
   refine qn_end [] trivial ?_
   rcases hp_ with ⟨_, hj_, _⟩ | ⟨_, k_, hk_, hx_⟩
   · exact ⟨⟨_, rfl⟩, .inl ⟨_, rfl, by rw [List.nil_append] at hj_; exact hj_⟩⟩
   · exact ⟨⟨_, rfl⟩, .inr ⟨_, ⟨k_, hk_, rfl⟩, by rw [List.nil_append] at hx_; exact hx_⟩⟩
 refine Sx.wy_have 2 #[true, true, true, true, true, false, false] [(0, .func (.yield l) #[] #[]), (1, .pointer (some ⟨gc, 0, none⟩)), (3, .pointer (some ⟨gt, 0, none⟩)), (4, .pointer (some ⟨gt, 0, none⟩)), (5, .pointer (some ⟨gt, 0, none⟩)), (6, .pointer (some ⟨gt, 2, none⟩)), (7, .pointer (Pc.AT.ptr T))] ?_ (fun nd16_ => ?_)
 ·
  refine Sx.wy_one 5 rfl (by kernel_rfl) ?_
  ·
   refine wl_v rfl rfl (ov_move _ rfl) ?_
   refine wl_nil ?_
   refine qn_wyl (by kernel_rfl) ?_ nd19_
   exact ⟨rfl, rfl, rfl, rfl, rfl, rfl, rfl, rfl, trivial⟩
 refine Sx.wy_have 2 #[true, true, true, true, false, true, false] [(0, .func (.yield l) #[] #[]), (1, .pointer (some ⟨gc, 0, none⟩)), (3, .pointer (some ⟨gt, 0, none⟩)), (4, .pointer (some ⟨gt, 0, none⟩)), (5, .pointer (some ⟨gt, 0, none⟩)), (6, .pointer (some ⟨gt, 2, none⟩)), (8, .func (.yield l) #[] #[])] ?_ (fun nd17_ => ?_)
 ·
  refine Sx.wy_one 4 rfl (by kernel_rfl) ?_
  ·
   refine wl_v rfl rfl (ov_load1 ⟨gt, 2, none⟩ _ rfl sh66 (((htx _ (Sx.kc_trans hk (Sx.kc_below (st_below0 h)))) 2).trans rfl)) ?_
   refine wl_nil ?_
   refine qn_wyl (by kernel_rfl) ?_ nd19_
   exact ⟨rfl, rfl, rfl, rfl, rfl, rfl, rfl, rfl, trivial⟩
 refine Sx.wy_have 2 #[false, true, true, true, true, true, false] [(0, .func (.yield l) #[] #[]), (1, .pointer (some ⟨gc, 0, none⟩)), (4, .pointer (some ⟨gt, 0, none⟩)), (5, .pointer (some ⟨gt, 0, none⟩)), (6, .pointer (some ⟨gt, 2, none⟩)), (7, .pointer (Pc.AT.ptr T)), (8, .func (.yield l) #[] #[])] ?_ (fun nd18_ => ?_)
 ·
  refine Sx.wy_one 0 rfl (by kernel_rfl) ?_
  ·
   refine wl_v rfl rfl (ov_load1 ⟨gc, 0, none⟩ _ rfl sh23 (((hcap _ (Sx.kc_trans hk (Sx.kc_below (st_below0 h)))) 0).trans rfl)) ?_
   refine wl_nil ?_
   refine qn_wyl (by kernel_rfl) ?_ nd19_
   exact ⟨rfl, rfl, rfl, rfl, rfl, rfl, rfl, rfl, trivial⟩
 refine Sx.wy_have 3 #[true, true, true, true, false, false, false] [(0, .func (.yield l) #[] #[]), (1, .pointer (some ⟨gc, 0, none⟩)), (3, .pointer (some ⟨gt, 0, none⟩)), (4, .pointer (some ⟨gt, 0, none⟩)), (5, .pointer (some ⟨gt, 0, none⟩)), (6, .pointer (some ⟨gt, 2, none⟩))] ?_ (fun nd12_ => ?_)
 ·
  refine Sx.wy_two 4 5 rfl rfl (by kernel_rfl) ?_ ?_
  ·
   refine wl_v rfl rfl (ov_load1 ⟨gt, 2, none⟩ _ rfl sh66 (((htx _ (Sx.kc_trans hk (Sx.kc_below (st_below0 h)))) 2).trans rfl)) ?_
   refine wl_nil ?_
   refine qn_wyl (by kernel_rfl) ?_ nd16_
   exact ⟨rfl, rfl, rfl, rfl, rfl, rfl, rfl, trivial⟩
  ·
   refine wl_v rfl rfl (ov_move _ rfl) ?_
   refine wl_nil ?_
   refine qn_wyl (by kernel_rfl) ?_ nd17_
   exact ⟨rfl, rfl, rfl, rfl, rfl, rfl, rfl, trivial⟩
 refine Sx.wy_have 3 #[true, true, true, false, false, true, false] [(0, .func (.yield l) #[] #[]), (1, .pointer (some ⟨gc, 0, none⟩)), (3, .pointer (some ⟨gt, 0, none⟩)), (4, .pointer (some ⟨gt, 0, none⟩)), (5, .pointer (some ⟨gt, 0, none⟩)), (8, .func (.yield l) #[] #[])] ?_ (fun nd13_ => ?_)
 ·
  refine Sx.wy_one 3 rfl (by kernel_rfl) ?_
  ·
   refine wl_v rfl rfl (ov_fieldAddr _ ⟨gt, 2, none⟩ _ rfl fo68_2 rfl) ?_
   refine wl_nil ?_
   refine qn_wyl (by kernel_rfl) ?_ nd17_
   exact ⟨rfl, rfl, rfl, rfl, rfl, rfl, rfl, trivial⟩
 refine Sx.wy_have 3 #[false, true, true, true, true, false, false] [(0, .func (.yield l) #[] #[]), (1, .pointer (some ⟨gc, 0, none⟩)), (4, .pointer (some ⟨gt, 0, none⟩)), (5, .pointer (some ⟨gt, 0, none⟩)), (6, .pointer (some ⟨gt, 2, none⟩)), (7, .pointer (Pc.AT.ptr T))] ?_ (fun nd14_ => ?_)
 ·
  refine Sx.wy_two 0 5 rfl rfl (by kernel_rfl) ?_ ?_
  ·
   refine wl_v rfl rfl (ov_load1 ⟨gc, 0, none⟩ _ rfl sh23 (((hcap _ (Sx.kc_trans hk (Sx.kc_below (st_below0 h)))) 0).trans rfl)) ?_
   refine wl_nil ?_
   refine qn_wyl (by kernel_rfl) ?_ nd16_
   exact ⟨rfl, rfl, rfl, rfl, rfl, rfl, rfl, trivial⟩
  ·
   refine wl_v rfl rfl (ov_move _ rfl) ?_
   refine wl_nil ?_
   refine qn_wyl (by kernel_rfl) ?_ nd18_
   exact ⟨rfl, rfl, rfl, rfl, rfl, rfl, rfl, trivial⟩
 refine Sx.wy_have 3 #[false, true, true, true, false, true, false] [(0, .func (.yield l) #[] #[]), (1, .pointer (some ⟨gc, 0, none⟩)), (4, .pointer (some ⟨gt, 0, none⟩)), (5, .pointer (some ⟨gt, 0, none⟩)), (6, .pointer (some ⟨gt, 2, none⟩)), (8, .func (.yield l) #[] #[])] ?_ (fun nd15_ => ?_)
 ·
  refine Sx.wy_two 0 4 rfl rfl (by kernel_rfl) ?_ ?_
  ·
   refine wl_v rfl rfl (ov_load1 ⟨gc, 0, none⟩ _ rfl sh23 (((hcap _ (Sx.kc_trans hk (Sx.kc_below (st_below0 h)))) 0).trans rfl)) ?_
   refine wl_nil ?_
   refine qn_wyl (by kernel_rfl) ?_ nd17_
   exact ⟨rfl, rfl, rfl, rfl, rfl, rfl, rfl, trivial⟩
  ·
   refine wl_v rfl rfl (ov_load1 ⟨gt, 2, none⟩ _ rfl sh66 (((htx _ (Sx.kc_trans hk (Sx.kc_below (st_below0 h)))) 2).trans rfl)) ?_
   refine wl_nil ?_
   refine qn_wyl (by kernel_rfl) ?_ nd18_
   exact ⟨rfl, rfl, rfl, rfl, rfl, rfl, rfl, trivial⟩
 refine Sx.wy_have 4 #[true, true, true, false, false, false, false] [(0, .func (.yield l) #[] #[]), (1, .pointer (some ⟨gc, 0, none⟩)), (3, .pointer (some ⟨gt, 0, none⟩)), (4, .pointer (some ⟨gt, 0, none⟩)), (5, .pointer (some ⟨gt, 0, none⟩))] ?_ (fun nd8_ => ?_)
 ·
  refine Sx.wy_two 3 5 rfl rfl (by kernel_rfl) ?_ ?_
  ·
   refine wl_v rfl rfl (ov_fieldAddr _ ⟨gt, 2, none⟩ _ rfl fo68_2 rfl) ?_
   refine wl_nil ?_
   refine qn_wyl (by kernel_rfl) ?_ nd12_
   exact ⟨rfl, rfl, rfl, rfl, rfl, rfl, trivial⟩
  ·
   refine wl_v rfl rfl (ov_move _ rfl) ?_
   refine wl_nil ?_
   refine qn_wyl (by kernel_rfl) ?_ nd13_
   exact ⟨rfl, rfl, rfl, rfl, rfl, rfl, trivial⟩
 refine Sx.wy_have 4 #[true, true, false, false, false, true, false] [(0, .func (.yield l) #[] #[]), (1, .pointer (some ⟨gc, 0, none⟩)), (3, .pointer (some ⟨gt, 0, none⟩)), (4, .pointer (some ⟨gt, 0, none⟩)), (8, .func (.yield l) #[] #[])] ?_ (fun nd9_ => ?_)
 ·
  refine Sx.wy_one 2 rfl (by kernel_rfl) ?_
  ·
   refine wl_v rfl rfl (ov_nilCheck _ rfl) ?_
   refine wl_nil ?_
   refine qn_wyl (by kernel_rfl) ?_ nd13_
   exact ⟨rfl, rfl, rfl, rfl, rfl, rfl, trivial⟩
 refine Sx.wy_have 4 #[false, true, true, true, false, false, false] [(0, .func (.yield l) #[] #[]), (1, .pointer (some ⟨gc, 0, none⟩)), (4, .pointer (some ⟨gt, 0, none⟩)), (5, .pointer (some ⟨gt, 0, none⟩)), (6, .pointer (some ⟨gt, 2, none⟩))] ?_ (fun nd10_ => ?_)
 ·
  refine Sx.wy_three 0 4 5 rfl rfl rfl (by kernel_rfl) ?_ ?_ ?_
  ·
   refine wl_v rfl rfl (ov_load1 ⟨gc, 0, none⟩ _ rfl sh23 (((hcap _ (Sx.kc_trans hk (Sx.kc_below (st_below0 h)))) 0).trans rfl)) ?_
   refine wl_nil ?_
   refine qn_wyl (by kernel_rfl) ?_ nd12_
   exact ⟨rfl, rfl, rfl, rfl, rfl, rfl, trivial⟩
  ·
   refine wl_v rfl rfl (ov_load1 ⟨gt, 2, none⟩ _ rfl sh66 (((htx _ (Sx.kc_trans hk (Sx.kc_below (st_below0 h)))) 2).trans rfl)) ?_
   refine wl_nil ?_
   refine qn_wyl (by kernel_rfl) ?_ nd14_
   exact ⟨rfl, rfl, rfl, rfl, rfl, rfl, trivial⟩
  ·
   refine wl_v rfl rfl (ov_move _ rfl) ?_
   refine wl_nil ?_
   refine qn_wyl (by kernel_rfl) ?_ nd15_
   exact ⟨rfl, rfl, rfl, rfl, rfl, rfl, trivial⟩
 refine Sx.wy_have 4 #[false, true, true, false, false, true, false] [(0, .func (.yield l) #[] #[]), (1, .pointer (some ⟨gc, 0, none⟩)), (4, .pointer (some ⟨gt, 0, none⟩)), (5, .pointer (some ⟨gt, 0, none⟩)), (8, .func (.yield l) #[] #[])] ?_ (fun nd11_ => ?_)
 ·
  refine Sx.wy_two 0 3 rfl rfl (by kernel_rfl) ?_ ?_
  ·
   refine wl_v rfl rfl (ov_load1 ⟨gc, 0, none⟩ _ rfl sh23 (((hcap _ (Sx.kc_trans hk (Sx.kc_below (st_below0 h)))) 0).trans rfl)) ?_
   refine wl_nil ?_
   refine qn_wyl (by kernel_rfl) ?_ nd13_
   exact ⟨rfl, rfl, rfl, rfl, rfl, rfl, trivial⟩
  ·
   refine wl_v rfl rfl (ov_fieldAddr _ ⟨gt, 2, none⟩ _ rfl fo68_2 rfl) ?_
   refine wl_nil ?_
   refine qn_wyl (by kernel_rfl) ?_ nd15_
   exact ⟨rfl, rfl, rfl, rfl, rfl, rfl, trivial⟩
 refine Sx.wy_have 5 #[true, true, false, false, false, false, false] [(0, .func (.yield l) #[] #[]), (1, .pointer (some ⟨gc, 0, none⟩)), (3, .pointer (some ⟨gt, 0, none⟩)), (4, .pointer (some ⟨gt, 0, none⟩))] ?_ (fun nd4_ => ?_)
 ·
  refine Sx.wy_two 2 5 rfl rfl (by kernel_rfl) ?_ ?_
  ·
   refine wl_v rfl rfl (ov_nilCheck _ rfl) ?_
   refine wl_nil ?_
   refine qn_wyl (by kernel_rfl) ?_ nd8_
   exact ⟨rfl, rfl, rfl, rfl, rfl, trivial⟩
  ·
   refine wl_v rfl rfl (ov_move _ rfl) ?_
   refine wl_nil ?_
   refine qn_wyl (by kernel_rfl) ?_ nd9_
   exact ⟨rfl, rfl, rfl, rfl, rfl, trivial⟩
 refine Sx.wy_have 5 #[true, false, false, false, false, true, false] [(0, .func (.yield l) #[] #[]), (1, .pointer (some ⟨gc, 0, none⟩)), (3, .pointer (some ⟨gt, 0, none⟩)), (8, .func (.yield l) #[] #[])] ?_ (fun nd5_ => ?_)
 ·
  refine Sx.wy_one 1 rfl (by kernel_rfl) ?_
  ·
   refine wl_v rfl rfl (ov_load1 ⟨gc, 0, none⟩ _ rfl sh23 (((hcap _ (Sx.kc_trans hk (Sx.kc_below (st_below0 h)))) 0).trans rfl)) ?_
   refine wl_nil ?_
   refine qn_wyl (by kernel_rfl) ?_ nd9_
   exact ⟨rfl, rfl, rfl, rfl, rfl, trivial⟩
 refine Sx.wy_have 5 #[false, true, true, false, false, false, false] [(0, .func (.yield l) #[] #[]), (1, .pointer (some ⟨gc, 0, none⟩)), (4, .pointer (some ⟨gt, 0, none⟩)), (5, .pointer (some ⟨gt, 0, none⟩))] ?_ (fun nd6_ => ?_)
 ·
  refine Sx.wy_three 0 3 5 rfl rfl rfl (by kernel_rfl) ?_ ?_ ?_
  ·
   refine wl_v rfl rfl (ov_load1 ⟨gc, 0, none⟩ _ rfl sh23 (((hcap _ (Sx.kc_trans hk (Sx.kc_below (st_below0 h)))) 0).trans rfl)) ?_
   refine wl_nil ?_
   refine qn_wyl (by kernel_rfl) ?_ nd8_
   exact ⟨rfl, rfl, rfl, rfl, rfl, trivial⟩
  ·
   refine wl_v rfl rfl (ov_fieldAddr _ ⟨gt, 2, none⟩ _ rfl fo68_2 rfl) ?_
   refine wl_nil ?_
   refine qn_wyl (by kernel_rfl) ?_ nd10_
   exact ⟨rfl, rfl, rfl, rfl, rfl, trivial⟩
  ·
   refine wl_v rfl rfl (ov_move _ rfl) ?_
   refine wl_nil ?_
   refine qn_wyl (by kernel_rfl) ?_ nd11_
   exact ⟨rfl, rfl, rfl, rfl, rfl, trivial⟩
 refine Sx.wy_have 5 #[false, true, false, false, false, true, false] [(0, .func (.yield l) #[] #[]), (1, .pointer (some ⟨gc, 0, none⟩)), (4, .pointer (some ⟨gt, 0, none⟩)), (8, .func (.yield l) #[] #[])] ?_ (fun nd7_ => ?_)
 ·
  refine Sx.wy_two 0 2 rfl rfl (by kernel_rfl) ?_ ?_
  ·
   refine wl_v rfl rfl (ov_load1 ⟨gc, 0, none⟩ _ rfl sh23 (((hcap _ (Sx.kc_trans hk (Sx.kc_below (st_below0 h)))) 0).trans rfl)) ?_
   refine wl_nil ?_
   refine qn_wyl (by kernel_rfl) ?_ nd9_
   exact ⟨rfl, rfl, rfl, rfl, rfl, trivial⟩
  ·
   refine wl_v rfl rfl (ov_nilCheck _ rfl) ?_
   refine wl_nil ?_
   refine qn_wyl (by kernel_rfl) ?_ nd11_
   exact ⟨rfl, rfl, rfl, rfl, rfl, trivial⟩
 refine Sx.wy_have 6 #[true, false, false, false, false, false, false] [(0, .func (.yield l) #[] #[]), (1, .pointer (some ⟨gc, 0, none⟩)), (3, .pointer (some ⟨gt, 0, none⟩))] ?_ (fun nd1_ => ?_)
 ·
  refine Sx.wy_two 1 5 rfl rfl (by kernel_rfl) ?_ ?_
  ·
   refine wl_v rfl rfl (ov_load1 ⟨gc, 0, none⟩ _ rfl sh23 (((hcap _ (Sx.kc_trans hk (Sx.kc_below (st_below0 h)))) 0).trans rfl)) ?_
   refine wl_nil ?_
   refine qn_wyl (by kernel_rfl) ?_ nd4_
   exact ⟨rfl, rfl, rfl, rfl, trivial⟩
  ·
   refine wl_v rfl rfl (ov_move _ rfl) ?_
   refine wl_nil ?_
   refine qn_wyl (by kernel_rfl) ?_ nd5_
   exact ⟨rfl, rfl, rfl, rfl, trivial⟩
 refine Sx.wy_have 6 #[false, true, false, false, false, false, false] [(0, .func (.yield l) #[] #[]), (1, .pointer (some ⟨gc, 0, none⟩)), (4, .pointer (some ⟨gt, 0, none⟩))] ?_ (fun nd2_ => ?_)
 ·
  refine Sx.wy_three 0 2 5 rfl rfl rfl (by kernel_rfl) ?_ ?_ ?_
  ·
   refine wl_v rfl rfl (ov_load1 ⟨gc, 0, none⟩ _ rfl sh23 (((hcap _ (Sx.kc_trans hk (Sx.kc_below (st_below0 h)))) 0).trans rfl)) ?_
   refine wl_nil ?_
   refine qn_wyl (by kernel_rfl) ?_ nd4_
   exact ⟨rfl, rfl, rfl, rfl, trivial⟩
  ·
   refine wl_v rfl rfl (ov_nilCheck _ rfl) ?_
   refine wl_nil ?_
   refine qn_wyl (by kernel_rfl) ?_ nd6_
   exact ⟨rfl, rfl, rfl, rfl, trivial⟩
  ·
   refine wl_v rfl rfl (ov_move _ rfl) ?_
   refine wl_nil ?_
   refine qn_wyl (by kernel_rfl) ?_ nd7_
   exact ⟨rfl, rfl, rfl, rfl, trivial⟩
 refine Sx.wy_have 6 #[false, false, false, false, false, true, false] [(0, .func (.yield l) #[] #[]), (1, .pointer (some ⟨gc, 0, none⟩)), (8, .func (.yield l) #[] #[])] ?_ (fun nd3_ => ?_)
 ·
  refine Sx.wy_two 0 1 rfl rfl (by kernel_rfl) ?_ ?_
  ·
   refine wl_v rfl rfl (ov_load1 ⟨gc, 0, none⟩ _ rfl sh23 (((hcap _ (Sx.kc_trans hk (Sx.kc_below (st_below0 h)))) 0).trans rfl)) ?_
   refine wl_nil ?_
   refine qn_wyl (by kernel_rfl) ?_ nd5_
   exact ⟨rfl, rfl, rfl, rfl, trivial⟩
  ·
   refine wl_v rfl rfl (ov_load1 ⟨gc, 0, none⟩ _ rfl sh23 (((hcap _ (Sx.kc_trans hk (Sx.kc_below (st_below0 h)))) 0).trans rfl)) ?_
   refine wl_nil ?_
   refine qn_wyl (by kernel_rfl) ?_ nd7_
   exact ⟨rfl, rfl, rfl, rfl, trivial⟩
 refine Sx.wy_three 0 1 5 rfl rfl rfl (by kernel_rfl) ?_ ?_ ?_
 ·
  refine wl_v rfl rfl (ov_load1 ⟨gc, 0, none⟩ _ rfl sh23 (((hcap _ (Sx.kc_trans hk (Sx.kc_below (st_below0 h)))) 0).trans rfl)) ?_
  refine wl_nil ?_
  refine qn_wyl (by kernel_rfl) ?_ nd1_
  exact ⟨rfl, rfl, rfl, trivial⟩
 ·
  refine wl_v rfl rfl (ov_load1 ⟨gc, 0, none⟩ _ rfl sh23 (((hcap _ (Sx.kc_trans hk (Sx.kc_below (st_below0 h)))) 0).trans rfl)) ?_
  refine wl_nil ?_
  refine qn_wyl (by kernel_rfl) ?_ nd2_
  exact ⟨rfl, rfl, rfl, trivial⟩
 ·
  refine wl_v rfl rfl (ov_move _ rfl) ?_
  refine wl_nil ?_
  refine qn_wyl (by kernel_rfl) ?_ nd3_
  exact ⟨rfl, rfl, rfl, trivial⟩
end Go.Proofs.Ytieieindakbpoaa.TC
