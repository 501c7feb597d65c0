import Derived.Test.YtfbbagnpdfafjaaHaI
import Derived.Test.YtfbbagnpdfafjaaHaB
set_option maxRecDepth 100000
namespace Go.Proofs.Ytfbbagnpdfafjaa
open Go.RowKit Go.Proofs
theorem cloneH_any (ao : Option Addr) (m cp B : Nat) (g : Int → Int) (H : List (Option Blk)) (w0 w : World) (hO : Own B w0 w H) (hs : SrcI H ao m g) (hm : m ≤ 4000000000000) :
  Calls Try.prog 72 #[.slice ao m cp] w fun e w' => ∃ v c, e = .returned v ∧ IRow v 2 m (fun i => iv (g i)) c ∧ Own B w0 w' (c :: H) := by
 refine calls_of_run (F := [(0, _)]) Try.func72 rfl Try.ntmps72 rfl rfl <| run_seq <| run_region <| rl_v rfl rfl rfl (ov_assign rfl rfl) <| rl_nil <| run_seq <| run_seq <| run_region <| rl_v rfl rfl rfl (ov_move rfl rfl) <| rl_v rfl rfl rfl (ov_isnil rfl Try.underlying22 rfl) <| rl_nil ?_
 first | refine run_cond_dec rfl (fun g1 => ?_) (fun g1n => ?_) | refine run_cond rfl (fun g1 => ?_) (fun g1n => ?_)
 ·have hm0 : m = 0 := by
   rcases Nat.eq_zero_or_pos m with h | h
   ·exact h
   ·obtain ⟨b, off, h2, _⟩ := hs B w0 w hO
    rw [h2 (by omega)] at g1
    exact absurd g1 Bool.noConfusion
  subst hm0
  refine run_seq <| run_region <| rl_v rfl rfl rfl (ov_assign rfl rfl) <| rl_nil <| run_ret Try.func72 (res1 Try.results72 rfl) ?_
  exact ⟨_, none, rfl, IRow.nil _ _, hO.nil_cons⟩
 ·refine run_skip <| run_seq <| run_region <| rl_ow rfl (ow_empty rfl rfl rfl Try.underlying22 info_2 hO) ?_
  rintro _ w1 ⟨v5, c5, rfl, hO2, hR5, hs3⟩
  have hr5 : IRow v5 2 0 (fun _ => .int .i64 0) c5 := hR5 _
  refine rl_v rfl rfl rfl (ov_move rfl rfl) <| rl_ow rfl (ow_appS rfl rfl rfl Try.underlying22 info_2 rfl hO2 0 hr5 rfl rfl rfl ((hs B w0 _ hO2.tail)) (fun _ => rfl) ⟨by omega, by omega⟩) ?_
  rintro _ w4 ⟨v7, c7, rfl, hO5, hr7, hs6⟩
  refine rl_v rfl rfl rfl (ov_assign rfl rfl) <| rl_nil <| run_ret Try.func72 (res1 Try.results72 rfl) ?_
  exact ⟨v7, c7, rfl, by rw [Nat.zero_add] at hr7; exact hr7.congr fun i h0 h1 => by unfold joinF; rw [if_neg (by omega)]; exact congrArg (fun j => iv (g j)) (by omega), hO5⟩
theorem posSrc {H : List (Option Blk)} {k b : Nat} {t : TypeId} {a : HA} {n : Nat} (hk : H[k]? = some (some (lch b t (accL a)))) (hn : n ≤ 12) : SrcI H (some ⟨b, 0 + 2, none⟩) n a.pos := fun B w0 w hO =>
 ⟨b, 2, fun _ => rfl, fun _ => hO.lt k hk, fun i hi => hO.cellL k hk (accL_pos a (m := (i : Int)) (by omega) (by omega))⟩
theorem account_any (hb B : Nat) (X : HM) (i : Int) (Pl R : List (Option Blk)) (w0 w : World) (h : HAt B w0 w hb X Pl R) (hG : HG X) :
  Calls Try.prog 31 #[ptr hb, iv i] w fun e w' => ∃ v c, e = .returned (.tuple #[.agg #[iv (X.kno i).cash, iv (X.kno i).fund, v, .bool (X.kno i).out], iv (if X.is i then 0 else 4)]) ∧
   IRow v 2 (if X.is i then X.mo.toNat else 0) (fun m => iv ((X.kno i).pos m)) c ∧ HAt B w0 w' hb X Pl (c :: R) := by
 obtain ⟨K, N, hO, hK, hPl⟩ := h
 have hmo := hG.mo
 refine calls_of_run (F := [(0, _), (1, _)]) Try.func31 rfl Try.ntmps31 rfl rfl <| run_seq <| run_region <| rl_ow rfl (ow_alloc _ rfl rfl rfl zero_64 rfl hO) ?_
 rintro _ w1 ⟨b4, rfl, hO2, hs3⟩
 refine rl_v rfl rfl rfl (ov_assign rfl rfl) <| rl_nil <| run_seq <| run_region <| rl_v rfl rfl rfl (ov_move rfl rfl) <| rl_v rfl rfl rfl (ov_move rfl rfl) ?_
 refine rl_call callable_62 rfl rfl rfl rfl rfl rfl (known_any hb B X K i N _ w0 w1 hO2 1 2 rfl rfl hK hG) (fun e4 w5 hp6 => ?_)
 obtain ⟨rfl, hO1⟩ := hp6
 refine ⟨_, rfl, ?_⟩
 refine rl_v rfl rfl rfl (ov_move rfl rfl) <| rl_v rfl rfl rfl (ov_extract rfl rfl (by rfl)) ?_
 refine rl_v rfl rfl rfl (ov_extract rfl rfl (by rfl)) ?_
 refine rl_ow rfl (ow_alloc _ rfl rfl rfl zero_127 rfl hO1) ?_
 rintro _ w7 ⟨b6, rfl, hO8, hs9⟩
 refine rl_ow rfl (ow_storeW rfl rfl (by kernel_rfl) hO8 0 rfl rfl (by rfl) rfl (by rfl)) ?_
 rintro _ w10 ⟨rfl, hO11, hs12⟩
 refine rl_v rfl rfl rfl (ov_assign rfl rfl) <| rl_nil <| run_seq <| run_seq <| run_region <| rl_v rfl rfl rfl (ov_move rfl rfl) <| rl_v rfl rfl rfl (ov_neq rfl rfl rfl) <| rl_nil ?_
 first | refine run_cond_dec rfl (fun c => ?_) (fun c => ?_) | refine run_cond rfl (fun c => ?_) (fun c => ?_)
 ·have hi : ¬ X.is i := fun h => c (if_pos h)
  have ek : X.kno i = HA.z := if_neg hi
  have hO2 := hO11.tail
  refine run_seq <| run_region <| rl_v rfl rfl rfl (ov_buildL rfl lay_64 rfl (us := [_, _, _, _]) rfl) <| rl_v rfl rfl rfl (ov_move rfl rfl) <| rl_ow rfl (ow_storeW rfl rfl (by kernel_rfl) hO2 0 rfl rfl (by rfl) rfl (by rfl)) ?_
  rintro _ w13 ⟨rfl, hO14, hs15⟩
  refine rl_v rfl rfl rfl (ov_assign rfl rfl) <| rl_nil <| run_ret Try.func31 (resW2 Try.results31 rfl rfl Try.underlying64 rfl (by kernel_rfl) hO14 0 rfl) ?_
  exact ⟨_, none, by rw [ek]; rfl, by rw [if_neg hi]; exact IRow.nil _ _, HAt.push (hO14.tail.nil_cons) hK hPl⟩
 ·have hi : X.is i := Classical.byContradiction fun h => c (by rw [if_neg h]; decide)
  refine run_skip <| run_seq <| run_held (fun w' => Own B w0 w' ([some (lch b6 127 (accL (X.kno i))), houB hb (X.r K)])) mixed ?_
  have hO17 := hO11.drew
  generalize World.drew w10 = w16 at hO17 ⊢
  have hS18 : Own B w0 w16 ([some (lch b6 127 (accL (X.kno i))), houB hb (X.r K)]) := by first | exact hO17.sub (.cons_cons _ (.cons _ (.cons_cons _ (List.nil_sublist _)))) | exact hO17.sub (.cons _ (.cons_cons _ (.cons _ (.cons_cons _ (List.nil_sublist _)))))
  refine rh_v 0 rfl (by kernel_rfl) rfl rfl rfl hS18 (fun _ hS => ov_fieldS rfl Try.underlying127 rfl (fo := 0) rfl (by kernel_rfl) rfl) ?_
  refine rh_v 1 rfl (by kernel_rfl) rfl rfl rfl hS18 (fun _ hS => ov_load rfl Try.underlying2 rfl rfl (by exact hS.cellL 0 rfl (off := 0) rfl)) ?_
  refine rh_v 2 rfl (by kernel_rfl) rfl rfl rfl hS18 (fun _ hS => ov_fieldS rfl Try.underlying127 rfl (fo := 1) rfl (by kernel_rfl) rfl) ?_
  refine rh_v 3 rfl (by kernel_rfl) rfl rfl rfl hS18 (fun _ hS => ov_load rfl Try.underlying2 rfl rfl (by exact hS.cellL 0 rfl (off := 1) rfl)) ?_
  refine rh_v 4 rfl (by kernel_rfl) rfl rfl rfl hS18 (fun _ hS => ov_fieldS rfl Try.underlying127 rfl (fo := 2) rfl (by kernel_rfl) rfl) ?_
  refine rh_v 5 rfl (by kernel_rfl) rfl rfl rfl hS18 (fun _ hS => ov_move rfl rfl) ?_
  refine rh_v 6 rfl (by kernel_rfl) rfl rfl rfl hS18 (fun _ hS => ov_nil rfl rfl) ?_
  refine rh_v 7 rfl (by kernel_rfl) rfl rfl rfl hS18 (fun _ hS => ov_fieldS rfl Try.underlying124 rfl (fo := 0) rfl (by kernel_rfl) rfl) ?_
  refine rh_v 8 rfl (by kernel_rfl) rfl rfl rfl hS18 (fun _ hS => ov_load rfl Try.underlying3 rfl rfl (by exact (show _ = some (iv X.mo) from hS.cellL 1 rfl (off := 0) rfl))) ?_
  refine rh_v 9 rfl (by kernel_rfl) rfl rfl rfl hS18 (fun _ hS => ov_sliceA (X.mo.toNat) (s := 1) rfl Try.underlying118 (by kernel_rfl) rfl rfl (by omega) (by omega)) ?_
  refine rh_v 11 rfl (by kernel_rfl) rfl rfl rfl hS18 (fun _ hS => ov_fieldS rfl Try.underlying127 rfl (fo := 14) rfl (by kernel_rfl) rfl) ?_
  refine rh_v 12 rfl (by kernel_rfl) rfl rfl rfl hS18 (fun _ hS => ov_load rfl Try.underlying4 rfl rfl (by exact hS.cellL 0 rfl (off := 14) rfl)) ?_
  refine rh_any1 10 (by kernel_rfl) ?_
  refine rc_op rfl rfl (ow_call2 callable_72 rfl rfl rfl rfl rfl (cloneH_any (some ⟨b6, 0 + 2, none⟩) X.mo.toNat 12 B (X.kno i).pos _ w0 w16 hO17 (posSrc (k := 0) rfl (by omega)) (by omega)) (by intro e w' hp; obtain ⟨vp, cp, rfl, hrp, hOc⟩ := hp; exact ⟨_, rfl⟩)) ?_
  rintro _ w21 ⟨_, v19, he22, rfl, hp20⟩
  obtain ⟨vp, cp, rfl, hrp, hOc⟩ := hp20
  injection he22 with he22; subst he22
  have hS23 : Own B w0 w21 ([some (lch b6 127 (accL (X.kno i))), houB hb (X.r K)]) := by first | exact hOc.sub (.cons_cons _ (.cons _ (.cons_cons _ (List.nil_sublist _)))) | exact hOc.sub (.cons _ (.cons_cons _ (.cons _ (.cons_cons _ (List.nil_sublist _)))))
  refine ⟨hS23, ?_⟩
  obtain ⟨ap, xp, rfl⟩ := hrp.val
  refine rh_v 13 rfl (by kernel_rfl) rfl rfl rfl hS23 (fun _ hS => ov_buildL rfl lay_64 rfl (us := [_, _, _, _]) rfl) ?_
  refine rh_any1 14 (by kernel_rfl) ?_
  refine rc_op rfl rfl (ow_storeW rfl rfl (by kernel_rfl) hOc 2 rfl rfl (by rfl) rfl (by rfl)) ?_
  rintro _ w24 ⟨rfl, hO25, hs26⟩
  have hS27 : Own B w0 w24 ([some (lch b6 127 (accL (X.kno i))), houB hb (X.r K)]) := by first | exact hO25.sub (.cons_cons _ (.cons _ (.cons_cons _ (List.nil_sublist _)))) | exact hO25.sub (.cons _ (.cons_cons _ (.cons _ (.cons_cons _ (List.nil_sublist _)))))
  refine ⟨hS27, ?_⟩
  refine rh_v 15 rfl (by kernel_rfl) rfl rfl rfl hS27 (fun _ hS => ov_assign rfl rfl) ?_
  refine rh_done (by kernel_rfl) ?_
  refine run_ret Try.func31 (resW2 Try.results31 rfl rfl Try.underlying64 rfl (by kernel_rfl) hO25 2 rfl) ?_
  exact ⟨_, cp, by rw [if_pos hi], by rw [if_pos hi]; exact hrp, HAt.push (hO25.sub (.cons_cons _ (.cons _ (.cons _ (List.Sublist.refl _))))) hK hPl⟩
end Go.Proofs.Ytfbbagnpdfafjaa
set_option maxRecDepth 100000
namespace Go.Proofs.Ytfbbagnpdfafjaa
open Go.RowKit Go.Proofs
structure HZ (X : HM) : Prop where
 zero : ∀ m : Int, 0 ≤ m → m < 12 → sm (fun j => (X.ac j).pos m) X.mem = 0
 out : ∀ j : Int, 0 ≤ j → j < X.mem → (X.ac j).out = true → ∀ m : Int, 0 ≤ m → m < 12 → (X.ac j).pos m = 0
 oc : ∀ j : Int, 0 ≤ j → j < X.mem → (X.ac j).out = true → 0 ≤ (X.ac j).cash
end Go.Proofs.Ytfbbagnpdfafjaa
set_option maxRecDepth 100000
namespace Go.Proofs.Ytfbbagnpdfafjaa
open Go.RowKit Go.Proofs
def HM.hasM (X : HM) (m : Int) : Prop := 0 ≤ m ∧ m < X.mo
instance (X : HM) (m : Int) : Decidable (X.hasM m) := by unfold HM.hasM; exact inferInstance
def HM.hasC (X : HM) (n : Int) : Prop := 1 ≤ n ∧ n ≤ X.n
instance (X : HM) (n : Int) : Decidable (X.hasC n) := by unfold HM.hasC; exact inferInstance
def HM.total (X : HM) : Int := X.cap - X.hole + sm (fun j => (X.ac j).cash + (X.ac j).fund) X.mem
theorem total_any (hb B : Nat) (X : HM) (Pl R : List (Option Blk)) (w0 w : World) (h : HAt B w0 w hb X Pl R) (hG : HG X) :
  Calls Try.prog 30 #[ptr hb] w fun e w' => e = .returned (iv X.total) ∧ HAt B w0 w' hb X Pl R := by
 obtain ⟨K, N, hO, hK, hPl⟩ := h
 have hmem := hG.mem
 have hcap := hG.cap
 have hhole := hG.hole
 have hbd : ∀ k : Int, 0 ≤ k → k ≤ X.mem → -(k * ((20000000000000000 : Nat) : Int)) ≤ sm (fun j => (X.ac j).cash + (X.ac j).fund) k ∧ sm (fun j => (X.ac j).cash + (X.ac j).fund) k ≤ k * ((20000000000000000 : Nat) : Int) := fun k k0 k1 => sm_abs _ k0 fun i i0 i1 => by
  have h1 := hG.cash i i0 (by omega)
  have h2 := hG.fund i i0 (by omega)
  omega
 refine calls_of_run (F := [(0, _)]) Try.func30 rfl Try.ntmps30 rfl rfl <| run_seq <| run_region <| rl_v rfl rfl rfl (ov_assign rfl rfl) <| rl_nil <| run_seq <| run_seq <| run_region <| rl_v rfl rfl rfl (ov_move rfl rfl) <| rl_v rfl rfl rfl (ov_ptrnil rfl Try.underlying30 rfl) <| rl_nil <| run_cond_f rfl ?_
 have hs0 : sm (fun j => (X.ac j).cash + (X.ac j).fund) 0 = 0 := rfl
 refine run_skip <| run_seq <| run_quiet mixed (by kernel_rfl) ?_
 refine rq_v rfl rfl rfl (fun _ => ov_move rfl rfl) ?_
 refine rq_v rfl rfl rfl (fun _ => ov_nil rfl rfl) ?_
 refine rq_v rfl rfl rfl (fun _ => ov_fieldS rfl Try.underlying124 rfl (fo := 15) rfl (by kernel_rfl) rfl) ?_
 refine rq_v rfl rfl rfl (fun _ => ov_load rfl Try.underlying2 rfl rfl (by show World.cell? w _ = _; first | exact (show _ = some (iv X.cap) from hO.cellL 0 rfl (off := 15) rfl))) ?_
 refine rq_v rfl rfl rfl (fun _ => ov_move rfl rfl) ?_
 refine rq_v rfl rfl rfl (fun _ => ov_nil rfl rfl) ?_
 refine rq_v rfl rfl rfl (fun _ => ov_fieldS rfl Try.underlying124 rfl (fo := 16) rfl (by kernel_rfl) rfl) ?_
 refine rq_v rfl rfl rfl (fun _ => ov_load rfl Try.underlying2 rfl rfl (by show World.cell? w _ = _; first | exact (show _ = some (iv X.hole) from hO.cellL 0 rfl (off := 16) rfl))) ?_
 refine rq_v rfl rfl rfl (fun _ => ov_sub rfl rfl rfl (by omega)) ?_
 refine rq_v rfl rfl rfl (fun _ => ov_assign rfl rfl) ?_
 refine rq_nil (fun n1 => ?_)
 have hO3 := hO.drewN n1
 generalize World.drewN w n1 = w2 at hO3 ⊢
 refine run_seq <| run_seq <| run_region <| rl_v rfl rfl rfl (ov_move rfl rfl) <| rl_v rfl rfl rfl (ov_nil rfl rfl) <| rl_v rfl rfl rfl (ov_fieldS rfl Try.underlying124 rfl (fo := 17) rfl (by kernel_rfl) rfl) ?_
 refine rl_v rfl rfl rfl (ov_load rfl Try.underlying120 rfl rfl (by exact hO3.cellL 0 rfl (off := 17) rfl)) ?_
 refine rl_v rfl rfl rfl (ov_len rfl Try.underlying120 rfl) <| rl_v rfl rfl rfl (ov_move rfl rfl) <| rl_nil <| run_block <| Run.keep [3, 20, 21, 22] (F' := [(3, _), (20, _), (21, _), (22, _)]) rfl <| run_loop1 (fun (j : Int) => [(3, .int .i64 (X.cap - X.hole + sm (fun j => (X.ac j).cash + (X.ac j).fund) j)), (22, .int .i64 j)]) [20, 21] (fun (j : Int) (w4 : World) => (0 ≤ j ∧ j ≤ X.mem) ∧ Own B w0 w4 (houB hb (X.r K) :: K.blk :: (N ++ R))) (fun (j : Int) => ((X.mem : Int) - j).toNat) (0) ?_ (And.intro (by exact slot_int rfl (by first | omega)) (And.intro (by exact slot_int rfl (by first | omega)) (And.intro rfl (And.intro rfl trivial)))) ?_
 ·exact ⟨by omega, hO3⟩
 intro j w4 hIw4 ih5
 obtain ⟨hj, hO3⟩ := hIw4
 show Run _ _ _ _ [(3, _), (22, _), (20, _), (21, _)] _ _
 refine run_seq <| run_region <| rl_v rfl rfl rfl (ov_lss rfl rfl rfl) <| rl_nil <| run_seq ?_
 first | refine run_cond_dec rfl (fun h1 => ?_) (fun h1 => ?_) | refine run_cond rfl (fun h1 => ?_) (fun h1 => ?_)
 ·have h1' : j < (X.mem : Int) := h1
  refine run_skip <| run_seq <| run_block <| run_seq <| run_region <| rl_v rfl rfl rfl (ov_index rfl Try.underlying120 (by kernel_rfl) (s := 15) rfl rfl ⟨hj.1, h1'⟩ rfl) ?_
  refine rl_v rfl rfl rfl (ov_loadE rfl Try.underlying127 rfl (by kernel_rfl) rfl ⟨by omega, by omega⟩ rfl (hK.reads hO3 1 rfl)) ?_
  refine rl_ow rfl (ow_alloc _ rfl rfl rfl zero_127 rfl hO3) ?_
  rintro _ w6 ⟨b5, rfl, hO7, hs8⟩
  refine rl_ow rfl (ow_storeW rfl rfl (by kernel_rfl) hO7 0 rfl rfl (by rfl) rfl (by rfl)) ?_
  rintro _ w9 ⟨rfl, hO10, hs11⟩
  have hb1 := hbd j hj.1 hj.2
  have hca := hG.cash j hj.1 h1'
  have hfu := hG.fund j hj.1 h1'
  have hsu := sm_succ (fun j => (X.ac j).cash + (X.ac j).fund) (k := j) hj.1
  refine rl_nil <| run_region <| rl_v rfl rfl rfl (ov_move rfl rfl) <| rl_v rfl rfl rfl (ov_fieldS rfl Try.underlying127 rfl (fo := 0) rfl (by kernel_rfl) rfl) ?_
  refine rl_v rfl rfl rfl (ov_load rfl Try.underlying2 rfl rfl (by exact (show _ = some (iv (X.ac j).cash) from hO10.cellL 0 rfl (off := 0) rfl))) ?_
  refine rl_v rfl rfl rfl (ov_fieldS rfl Try.underlying127 rfl (fo := 1) rfl (by kernel_rfl) rfl) ?_
  refine rl_v rfl rfl rfl (ov_load rfl Try.underlying2 rfl rfl (by exact (show _ = some (iv (X.ac j).fund) from hO10.cellL 0 rfl (off := 1) rfl))) ?_
  refine rl_v rfl rfl rfl (ov_add rfl rfl rfl (by omega)) ?_
  refine rl_v rfl rfl rfl (ov_add rfl rfl rfl (by omega)) ?_
  refine rl_v rfl rfl rfl (ov_assign rfl rfl) <| rl_nil <| run_inBlock <| run_region <| rl_v rfl rfl rfl (ov_add rfl rfl rfl (by omega)) ?_
  refine rl_v rfl rfl rfl (ov_move rfl rfl) <| rl_nil ?_
  refine Run.use (ih5 (j + 1) _ ?_ ?_) (And.intro (by exact slot_int rfl (by first | omega)) (And.intro (by exact slot_int rfl (by first | omega)) (And.intro rfl (And.intro rfl trivial))))
  ·first | omega | (dsimp only; omega)
  ·exact ⟨by omega, hO10.tail⟩
 ·have h1' : ¬ j < (X.mem : Int) := h1
  obtain rfl : j = X.mem := by omega
  refine run_exit rfl <| run_seq <| run_region <| rl_v rfl rfl rfl (ov_move rfl rfl) <| rl_v rfl rfl rfl (ov_assign rfl rfl) <| rl_nil <| run_ret Try.func30 (res1 Try.results30 rfl) ?_
  exact ⟨rfl, K, N, hO3, hK, hPl⟩
end Go.Proofs.Ytfbbagnpdfafjaa
