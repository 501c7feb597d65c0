import Derived.Test.YteagflekbbchhaaReE
set_option maxRecDepth 100000
namespace Go.Proofs.Yteagflekbbchhaa
open Go.RowKit Go.Proofs
def rwz : List Value := [iv 0, iv 0, .slice none 0 0, .slice none 0 0, .slice none 0 0, .slice none 0 0, .slice none 0 0, .slice none 0 0, iv 0, .bool false, .bool false, iv 0, .slice none 0 0, iv 0, .bool false, .bool false, iv 0, .slice none 0 0, iv 0, .bool false, .bool false, iv 0]
theorem ck_x {X : MW} {d : Int} (h1 : ¬ (X.kn d).st = 1) (h2 : ¬ (X.kn d).st = 2) (h3 : ¬ (X.kn d).st = 3) : X.cTick1 d = X := by unfold MW.cTick1; dsimp only; rw [if_neg h1, if_neg h2, if_neg h3]
theorem ck_to {X : MW} {d : Int} (h1 : (X.kn d).st = 1) (hw : (X.kn d).wt + 1 = X.pat) : X.cTick1 d = (X.know d { X.kn d with wt := (X.kn d).wt + 1 }).turn d 3 5 := by unfold MW.cTick1; dsimp only; rw [if_pos h1, if_pos hw]
theorem ck_ask {X : MW} {d : Int} (h1 : (X.kn d).st = 1) (hw : ¬ (X.kn d).wt + 1 = X.pat) : X.cTick1 d = (X.know d { X.kn d with wt := (X.kn d).wt + 1 }).both 1 d (X.kn d).h1 (X.kn d).h2 := by unfold MW.cTick1; dsimp only; rw [if_pos h1, if_neg hw]
theorem ck_do {X : MW} {d : Int} (h : (X.kn d).st = 2) : X.cTick1 d = X.both 4 d (X.kn d).h1 (X.kn d).h2 := by unfold MW.cTick1; dsimp only; rw [if_neg (by omega), if_pos h]
theorem ck_dr {X : MW} {d : Int} (h : (X.kn d).st = 3) : X.cTick1 d = X.both 5 d (X.kn d).h1 (X.kn d).h2 := by unfold MW.cTick1; dsimp only; rw [if_neg (by omega), if_neg (by omega), if_pos h]
theorem rsTick_any (X : MW) (n : Int) (v : Value) (B : Nat) (N H : List (Option Blk)) (w0 w : World) (hn : n = 1 ∨ n = 2) (hG : Good X) (hL : LInv X) (hb : X.bag.length + 1000 < 4000000000000) (hN : ∀ x ∈ N, x ∈ H) (h : RWt B w0 w v X N H) :
  Calls Try.prog 86 #[v, iv n] w fun e w' => ∃ v', e = .returned v' ∧ RWt B w0 w' v' (X.sTick n X.deals.length) N H := by
 obtain ⟨K0, rfl, hO, hK0⟩ := h
 have hdn := hG.dn
 refine calls_of_run (F := [(0, _), (1, _)]) Try.func86 rfl Try.ntmps86 rfl rfl <| run_seq <| run_region <| rl_ow rfl (ow_box _ rfl rfl rfl rfl rfl hO) ?_
 rintro _ w1 ⟨b2, rfl, hO2, hs3⟩
 refine rl_ow rfl (ow_alloc _ rfl rfl rfl zero_69 rfl hO2) ?_
 rintro _ w4 ⟨b4, rfl, hO5, hs6⟩
 refine rl_nil <| run_seq <| run_seq <| run_region <| rl_v rfl rfl rfl (ov_assign rfl rfl) <| rl_nil <| run_block <| Run.keep [1, 2, 4, 5] (F' := [(1, _), (2, _), (4, _), (5, _)]) rfl <| run_loop2 (fun (i : Int) (k : Nat) => [(5, .int .i64 i)]) [1, 2, 4] (fun (i : Int) (k : Nat) (w7 : World) => i = k + 1 ∧ k ≤ X.deals.length ∧ ∃ K, Own B w0 w7 (some (lch b4 69 (rwz)) :: some (lch b2 69 (rwl (X.sTick n k) K)) :: (H ++ K.M)) ∧ ROk N (X.sTick n k) K) (fun (i : Int) (k : Nat) => X.deals.length - k) (1) (0) ?_ (And.intro (by exact slot_int rfl (by first | omega)) (And.intro rfl (And.intro rfl (And.intro rfl trivial)))) ?_
 ·exact ⟨by omega, by omega, K0, hO5, hK0⟩
 intro i k w7 hIw7 ih8
 obtain ⟨hi, hk, K, hOk, hK⟩ := hIw7
 show Run _ _ _ _ [(5, _), (1, _), (2, _), (4, _)] _ _
 obtain ⟨e1, e2, e3⟩ := X.sTick_same n k
 have hGk := hG.sTick hn k hk
 have hLk : LInv (X.sTick n k) := hL.same' (cfg_sTick X n k).symm e1
 subst hi
 refine run_seq <| run_seq <| run_region <| rl_v rfl rfl rfl (ov_move rfl rfl) <| rl_v rfl rfl rfl (ov_fieldS rfl Try.underlying69 rfl (fo := 4) rfl (by kernel_rfl) rfl) ?_
 refine rl_v rfl rfl rfl (ov_load rfl Try.underlying25 rfl rfl (by exact hOk.cellL 1 rfl rfl)) ?_
 refine rl_v rfl rfl rfl (ov_len rfl Try.underlying25 rfl) <| rl_v rfl rfl rfl (ov_leq rfl rfl rfl) <| rl_nil ?_
 first | refine run_cond_dec rfl (fun hi => ?_) (fun hi => ?_) | refine run_cond rfl (fun hi => ?_) (fun hi => ?_)
 ·rw [e2] at hi
  refine run_skip <| run_seq <| run_block <| run_seq <| run_seq <| run_region <| rl_v rfl rfl rfl (ov_move rfl rfl) <| rl_v rfl rfl rfl (ov_gtr rfl rfl rfl) <| rl_nil ?_
  first | refine run_cond_dec rfl (fun q1 => ?_) (fun q2 => ?_) | refine run_cond rfl (fun q1 => ?_) (fun q2 => ?_)
  ·refine run_seq <| run_seq <| run_region <| rl_v rfl rfl rfl (ov_loadW rfl Try.underlying69 rfl (by kernel_rfl) rfl hOk 1 rfl) ?_
   refine rl_v rfl rfl rfl (ov_move rfl rfl) <| rl_v rfl rfl rfl (ov_move rfl rfl) ?_
   refine rl_call callable_33 rfl rfl rfl rfl rfl rfl (rat2_any (X.sTick n k) K n ((k : Int) + 1) B _ _ w0 w7 hn hGk hLk hOk (mem_c1 (mem_c1 (memNM hN))) hK.xin) (fun e9 w10 hp11 => ?_)
   obtain ⟨rfl, hO2⟩ := hp11
   refine ⟨_, rfl, ?_⟩
   refine rl_v rfl rfl rfl (ov_eql rfl rfl rfl) <| rl_nil ?_
   first | refine run_cond_dec rfl (fun hs => ?_) (fun hsn => ?_) | refine run_cond rfl (fun hs => ?_) (fun hsn => ?_)
   ·refine run_region <| rl_v rfl rfl rfl (ov_loadW rfl Try.underlying69 rfl (by kernel_rfl) rfl hO2 1 rfl) ?_
    refine rl_v rfl rfl rfl (ov_move rfl rfl) <| rl_v rfl rfl rfl (ov_move rfl rfl) ?_
    refine rl_call callable_84 rfl rfl rfl rfl rfl rfl (rsend_any (X.sTick n k) ⟨n, 0, 2, (k : Int) + 1⟩ _ B N _ w0 w10 (by omega) (RWt.of2 hO2 hK)) (fun e12 w13 hp14 => ?_)
    obtain ⟨v26, rfl, K2, rfl, hO3, hK2⟩ := hp14
    refine ⟨_, rfl, ?_⟩
    refine rl_ow rfl (ow_storeW rfl rfl (by kernel_rfl) hO3 1 rfl rfl (by rfl) rfl (by rfl)) ?_
    rintro _ w15 ⟨rfl, hO16, hs17⟩
    refine rl_nil <| run_exit rfl <| run_region <| rl_v rfl rfl rfl (ov_move rfl rfl) <| rl_v rfl rfl rfl (ov_add rfl rfl rfl (by omega)) ?_
    refine rl_v rfl rfl rfl (ov_assign rfl rfl) <| rl_nil ?_
    refine Run.use (ih8 ((k : Int) + 1 + 1) (k + 1) _ ?_ ?_) (And.intro (by exact slot_int rfl (by first | omega)) (And.intro rfl (And.intro rfl (And.intro rfl trivial))))
    ·first | omega | (dsimp only; omega)
    ·exact ⟨by omega, by omega, by unfold MW.sTick MW.sTick1; rw [if_pos hs]; exact ⟨K2, hO16, hK2⟩⟩
   ·refine run_skip <| run_exit rfl <| run_region <| rl_v rfl rfl rfl (ov_move rfl rfl) <| rl_v rfl rfl rfl (ov_add rfl rfl rfl (by omega)) ?_
    refine rl_v rfl rfl rfl (ov_assign rfl rfl) <| rl_nil ?_
    refine Run.use (ih8 ((k : Int) + 1 + 1) (k + 1) _ ?_ ?_) (And.intro (by exact slot_int rfl (by first | omega)) (And.intro rfl (And.intro rfl (And.intro rfl trivial))))
    ·first | omega | (dsimp only; omega)
    ·exact ⟨by omega, by omega, by unfold MW.sTick MW.sTick1; rw [if_neg hsn]; exact ⟨K, hO2, hK⟩⟩
  ·exfalso; omega
 ·rw [e2] at hi
  obtain rfl : k = X.deals.length := by omega
  refine run_exit rfl <| run_seq <| run_region <| rl_v rfl rfl rfl (ov_loadW rfl Try.underlying69 rfl (by kernel_rfl) rfl hOk 1 rfl) ?_
  refine rl_ow rfl (ow_storeW rfl rfl (by kernel_rfl) hOk 0 rfl rfl (by rfl) rfl (by rfl)) ?_
  rintro _ w18 ⟨rfl, hO19, hs20⟩
  refine rl_nil <| run_ret Try.func86 (resW Try.results86 rfl Try.underlying69 rfl (by kernel_rfl) hO19 0 rfl) ?_
  exact ⟨_, rfl, K, rfl, hO19.tail.tail, hK⟩
theorem rcTick_any (X : MW) (v : Value) (B : Nat) (N H : List (Option Blk)) (w0 w : World) (hG : Good X) (hdw : X.c.down = false) (hb : X.bag.length + 5000 < 4000000000000) (h : RWt B w0 w v X N H) :
  Calls Try.prog 86 #[v, iv 0] w fun e w' => ∃ v', e = .returned v' ∧ RWt B w0 w' v' (X.cTick X.deals.length) N H := by
 obtain ⟨K0, rfl, hO, hK0⟩ := h
 have hdn := hG.dn
 have hpt := hG.pat
 refine calls_of_run (F := [(0, _), (1, _)]) Try.func86 rfl Try.ntmps86 rfl rfl <| run_seq <| run_region <| rl_ow rfl (ow_box _ rfl rfl rfl rfl rfl hO) ?_
 rintro _ w1 ⟨b2, rfl, hO2, hs3⟩
 refine rl_ow rfl (ow_alloc _ rfl rfl rfl zero_69 rfl hO2) ?_
 rintro _ w4 ⟨b4, rfl, hO5, hs6⟩
 refine rl_nil <| run_seq <| run_seq <| run_region <| rl_v rfl rfl rfl (ov_assign rfl rfl) <| rl_nil <| run_block <| Run.keep [1, 2, 4, 5] (F' := [(1, _), (2, _), (4, _), (5, _)]) rfl <| run_loop2 (fun (i : Int) (k : Nat) => [(5, .int .i64 i)]) [1, 2, 4] (fun (i : Int) (k : Nat) (w7 : World) => i = k + 1 ∧ k ≤ X.deals.length ∧ ∃ K, Own B w0 w7 (some (lch b4 69 (rwz)) :: some (lch b2 69 (rwl (X.cTick k) K)) :: (H ++ K.M)) ∧ ROk N (X.cTick k) K) (fun (i : Int) (k : Nat) => X.deals.length - k) (1) (0) ?_ (And.intro (by exact slot_int rfl (by first | omega)) (And.intro rfl (And.intro rfl (And.intro rfl trivial)))) ?_
 ·exact ⟨by omega, by omega, K0, hO5, hK0⟩
 intro i k w7 hIw7 ih8
 obtain ⟨hi, hk, K, hOk, hK⟩ := hIw7
 show Run _ _ _ _ [(5, _), (1, _), (2, _), (4, _)] _ _
 obtain ⟨e1, e2, e3, e4, e5⟩ := X.cTick_same k
 have hwt := hG.wt ((k : Int) + 1)
 rw [← e4 _ (by omega)] at hwt
 have hdk : (X.cTick k).c.down = false := by
  have := congrFun e1 0
  exact (congrArg Lg.down this).trans hdw
 have hO2 := hOk.perm (perm_out [_, _] K.M H)
 subst hi
 refine run_seq <| run_seq <| run_region <| rl_v rfl rfl rfl (ov_move rfl rfl) <| rl_v rfl rfl rfl (ov_fieldS rfl Try.underlying69 rfl (fo := 4) rfl (by kernel_rfl) rfl) ?_
 refine rl_v rfl rfl rfl (ov_load rfl Try.underlying25 rfl rfl (by exact hO2.cellL 1 rfl rfl)) ?_
 refine rl_v rfl rfl rfl (ov_len rfl Try.underlying25 rfl) <| rl_v rfl rfl rfl (ov_leq rfl rfl rfl) <| rl_nil ?_
 first | refine run_cond_dec rfl (fun hi => ?_) (fun hi => ?_) | refine run_cond rfl (fun hi => ?_) (fun hi => ?_)
 ·rw [e2] at hi
  have hone : (X.cTick (k + 1)) = (X.cTick k).cTick1 ((k : Int) + 1) := rfl
  have htk : tk (X.cTick k) ((k : Int) + 1 - 1) = tkl ((X.cTick k).kn ((k : Int) + 1)) := by rw [tk_up hdk]; dsimp only; rw [Int.sub_add_cancel]
  have htv := hK.tv
  have hdl : ((X.cTick k).deals.length : Int) = X.deals.length := by rw [e2]
  refine run_skip <| run_seq <| run_block <| run_seq <| run_seq <| run_region <| rl_v rfl rfl rfl (ov_move rfl rfl) <| rl_v rfl rfl rfl (ov_gtr rfl rfl rfl) <| rl_nil ?_
  first | refine run_cond_dec rfl (fun q1 => ?_) (fun q2 => ?_) | refine run_cond rfl (fun q1 => ?_) (fun q2 => ?_)
  ·exfalso; omega
  ·obtain ⟨gb, hga, hrow⟩ := htv.openS hO2 3 rfl
   refine run_skip <| run_seq <| run_region <| rl_v rfl rfl rfl (ov_fieldS rfl Try.underlying69 rfl (fo := 5) rfl (by kernel_rfl) rfl) ?_
   refine rl_v rfl rfl rfl (ov_load rfl Try.underlying62 rfl rfl (by exact hO2.cellL 1 rfl rfl)) ?_
   refine rl_v rfl rfl rfl (ov_move rfl rfl) <| rl_v rfl rfl rfl (ov_sub rfl rfl rfl (by omega)) ?_
   refine rl_v rfl rfl rfl (ov_index rfl Try.underlying62 (by kernel_rfl) (s := 5) rfl rfl ⟨by omega, by omega⟩ (by exact (hga (by omega)))) ?_
   refine rl_v rfl rfl rfl (ov_loadE rfl Try.underlying127 rfl (by kernel_rfl) rfl ⟨by omega, by omega⟩ rfl (hrow)) ?_
   refine rl_ow rfl (ow_alloc _ rfl rfl rfl zero_127 rfl hO2) ?_
   rintro _ w9 ⟨b6, rfl, hO10, hs11⟩
   refine rl_ow rfl (ow_storeW rfl rfl (by kernel_rfl) hO10 0 rfl rfl (by rfl) rfl (by rfl)) ?_
   rintro _ w12 ⟨rfl, hO13, hs14⟩
   rw [htk] at hO13
   generalize hs0 : (X.cTick k).kn ((k : Int) + 1) = s at *
   refine rl_nil <| run_seq <| run_seq <| run_region <| rl_v rfl rfl rfl (ov_fieldS rfl Try.underlying127 rfl (fo := 0) rfl (by kernel_rfl) rfl) ?_
   refine rl_v rfl rfl rfl (ov_load rfl Try.underlying3 rfl rfl (by exact hO13.cellL 0 rfl rfl)) ?_
   refine rl_v rfl rfl rfl (ov_neq rfl rfl rfl) <| rl_v rfl rfl rfl (ov_move rfl rfl) ?_
   first | refine rl_split_dec 36 rfl (fun a1 => ?_) (fun a1 => ?_) | refine rl_split 36 rfl (fun a1 => ?_) (fun a1 => ?_)
   ·refine rl_gv rfl rfl rfl rfl rfl (ov_fieldS rfl Try.underlying127 rfl (fo := 0) rfl (by kernel_rfl) rfl) ?_
    refine rl_gv rfl rfl rfl rfl rfl (ov_load rfl Try.underlying3 rfl rfl (by exact hO13.cellL 0 rfl rfl)) ?_
    refine rl_gv rfl rfl rfl rfl rfl (ov_neq rfl rfl rfl) <| rl_v rfl rfl rfl (ov_pick_t rfl rfl rfl) <| rl_v rfl rfl rfl (ov_move rfl rfl) ?_
    first | refine rl_split_dec 41 rfl (fun a2 => ?_) (fun a2 => ?_) | refine rl_split 41 rfl (fun a2 => ?_) (fun a2 => ?_)
    ·refine rl_gv rfl rfl rfl rfl rfl (ov_fieldS rfl Try.underlying127 rfl (fo := 0) rfl (by kernel_rfl) rfl) ?_
     refine rl_gv rfl rfl rfl rfl rfl (ov_load rfl Try.underlying3 rfl rfl (by exact hO13.cellL 0 rfl rfl)) ?_
     refine rl_gv rfl rfl rfl rfl rfl (ov_neq rfl rfl rfl) <| rl_v rfl rfl rfl (ov_pick_t rfl rfl rfl) <| rl_nil ?_
     first | refine run_cond_dec rfl (fun a3 => ?_) (fun a3n => ?_) | refine run_cond rfl (fun a3 => ?_) (fun a3n => ?_)
     ·refine run_exit rfl <| run_region <| rl_v rfl rfl rfl (ov_move rfl rfl) <| rl_v rfl rfl rfl (ov_add rfl rfl rfl (by omega)) ?_
      refine rl_v rfl rfl rfl (ov_assign rfl rfl) <| rl_nil ?_
      refine Run.use (ih8 ((k : Int) + 1 + 1) (k + 1) _ ?_ ?_) (And.intro (by exact slot_int rfl (by first | omega)) (And.intro rfl (And.intro rfl (And.intro rfl trivial))))
      ·first | omega | (dsimp only; omega)
      ·exact ⟨by omega, by omega, by rw [hone, ck_x (by rw [hs0]; exact a1) (by rw [hs0]; exact a2) (by rw [hs0]; exact a3)]; exact ⟨K, hO13.tail.perm (perm_in [_, _] K.M H), hK⟩⟩
     ·refine run_skip <| run_seq <| run_region <| rl_v rfl rfl rfl (ov_assign rfl rfl) <| rl_nil <| run_seq <| run_seq <| run_region <| rl_v rfl rfl rfl (ov_fieldS rfl Try.underlying127 rfl (fo := 0) rfl (by kernel_rfl) rfl) ?_
      refine rl_v rfl rfl rfl (ov_load rfl Try.underlying3 rfl rfl (by exact hO13.cellL 0 rfl rfl)) ?_
      refine rl_nil <| run_block <| run_seq <| run_region <| rl_v rfl rfl rfl (ov_eql rfl rfl rfl) <| rl_v rfl rfl rfl (ov_assign rfl rfl) <| rl_nil ?_
      first | refine run_cond_dec rfl (fun s1 => ?_) (fun s1n => ?_) | refine run_cond rfl (fun s1 => ?_) (fun s1n => ?_)
      ·exfalso; omega
      ·refine run_seq <| run_region <| rl_v rfl rfl rfl (ov_eql rfl rfl rfl) <| rl_v rfl rfl rfl (ov_assign rfl rfl) <| rl_nil ?_
       first | refine run_cond_dec rfl (fun s3 => ?_) (fun s3n => ?_) | refine run_cond rfl (fun s3 => ?_) (fun s3n => ?_)
       ·refine run_region <| rl_v rfl rfl rfl (ov_assign rfl rfl) <| rl_nil <| run_inBlock <| run_seq <| run_region <| rl_v rfl rfl rfl (ov_assign rfl rfl) <| rl_nil <| run_block <| run_once <| run_seq <| run_seq <| run_region <| rl_v rfl rfl rfl (ov_move rfl rfl) <| rl_v rfl rfl rfl (ov_leq rfl rfl rfl) <| rl_nil <| run_cond_t rfl <| run_skip <| run_seq <| run_block <| run_seq <| run_region <| rl_v rfl rfl rfl (ov_move rfl rfl) <| rl_v rfl rfl rfl (ov_fieldS rfl Try.underlying127 rfl (fo := 1) rfl (by kernel_rfl) rfl) ?_
        refine rl_v rfl rfl rfl (ov_indexA1 rfl Try.underlying123 (by kernel_rfl) rfl rfl ⟨by omega, by omega⟩) ?_
        refine rl_v rfl rfl rfl (ov_load rfl Try.underlying4 rfl rfl (by exact hO13.cellL 0 rfl rfl)) ?_
        refine rl_v rfl rfl rfl (ov_not rfl rfl) <| rl_nil ?_
        first | refine run_cond_dec rfl (fun u1 => ?_) (fun u1 => ?_) | refine run_cond rfl (fun u1 => ?_) (fun u1 => ?_)
        ·have g1 : s.h1 = false := by simpa using u1
         refine run_region <| rl_v rfl rfl rfl (ov_loadW rfl Try.underlying69 rfl (by kernel_rfl) rfl hO13 2 rfl) ?_
         refine rl_v rfl rfl rfl (ov_move rfl rfl) <| rl_v rfl rfl rfl (ov_move rfl rfl) <| rl_v rfl rfl rfl (ov_move rfl rfl) ?_
         refine rl_call callable_84 rfl rfl rfl rfl rfl rfl (rsend_any (X.cTick k) ⟨0, 1, 5, (k : Int) + 1⟩ _ B N _ w0 w12 (by omega) (RWt.on3 (K := K) hO13 hK)) (fun e17 w18 hp19 => ?_)
         obtain ⟨v91, rfl, K7, rfl, hO91, hK7⟩ := hp19
         refine ⟨_, rfl, ?_⟩
         refine rl_ow rfl (ow_storeW rfl rfl (by kernel_rfl) hO91 2 rfl rfl (by rfl) rfl (by rfl)) ?_
         rintro _ w20 ⟨rfl, hO21, hs22⟩
         refine rl_nil <| run_inBlock <| run_region <| rl_v rfl rfl rfl (ov_move rfl rfl) <| rl_v rfl rfl rfl (ov_add rfl rfl rfl (by omega)) ?_
         refine rl_v rfl rfl rfl (ov_assign rfl rfl) <| rl_nil <| run_again <| run_seq <| run_seq <| run_region <| rl_v rfl rfl rfl (ov_move rfl rfl) <| rl_v rfl rfl rfl (ov_leq rfl rfl rfl) <| rl_nil <| run_cond_t rfl <| run_skip <| run_seq <| run_block <| run_seq <| run_region <| rl_v rfl rfl rfl (ov_move rfl rfl) <| rl_v rfl rfl rfl (ov_fieldS rfl Try.underlying127 rfl (fo := 1) rfl (by kernel_rfl) rfl) ?_
         refine rl_v rfl rfl rfl (ov_indexA1 rfl Try.underlying123 (by kernel_rfl) rfl rfl ⟨by omega, by omega⟩) ?_
         refine rl_v rfl rfl rfl (ov_load rfl Try.underlying4 rfl rfl (by exact hO21.cellL 0 rfl rfl)) ?_
         refine rl_v rfl rfl rfl (ov_not rfl rfl) <| rl_nil ?_
         first | refine run_cond_dec rfl (fun u2 => ?_) (fun u2 => ?_) | refine run_cond rfl (fun u2 => ?_) (fun u2 => ?_)
         ·have g2 : s.h2 = false := by simpa using u2
          refine run_region <| rl_v rfl rfl rfl (ov_loadW rfl Try.underlying69 rfl (by kernel_rfl) rfl hO21 2 rfl) ?_
          refine rl_v rfl rfl rfl (ov_move rfl rfl) <| rl_v rfl rfl rfl (ov_move rfl rfl) <| rl_v rfl rfl rfl (ov_move rfl rfl) ?_
          refine rl_call callable_84 rfl rfl rfl rfl rfl rfl (rsend_any ((X.cTick k).send ⟨0, 1, 5, (k : Int) + 1⟩) ⟨0, 2, 5, (k : Int) + 1⟩ _ B N _ w0 w20 (by rw [MW.send_len]; omega) (RWt.of3 (K := K7) hO21 hK7)) (fun e23 w24 hp25 => ?_)
          obtain ⟨v92, rfl, K8, rfl, hO92, hK8⟩ := hp25
          refine ⟨_, rfl, ?_⟩
          refine rl_ow rfl (ow_storeW rfl rfl (by kernel_rfl) hO92 2 rfl rfl (by rfl) rfl (by rfl)) ?_
          rintro _ w26 ⟨rfl, hO27, hs28⟩
          refine rl_nil <| run_inBlock <| run_region <| rl_v rfl rfl rfl (ov_move rfl rfl) <| rl_v rfl rfl rfl (ov_add rfl rfl rfl (by omega)) ?_
          refine rl_v rfl rfl rfl (ov_assign rfl rfl) <| rl_nil <| run_again <| run_seq <| run_seq <| run_region <| rl_v rfl rfl rfl (ov_move rfl rfl) <| rl_v rfl rfl rfl (ov_leq rfl rfl rfl) <| rl_nil <| run_cond_f rfl <| run_exit rfl <| run_inBlock <| run_region <| rl_v rfl rfl rfl (ov_move rfl rfl) <| rl_v rfl rfl rfl (ov_add rfl rfl rfl (by omega)) ?_
          refine rl_v rfl rfl rfl (ov_assign rfl rfl) <| rl_nil ?_
          refine Run.use (ih8 ((k : Int) + 1 + 1) (k + 1) _ ?_ ?_) (And.intro (by exact slot_int rfl (by first | omega)) (And.intro rfl (And.intro rfl (And.intro rfl trivial))))
          ·first | omega | (dsimp only; omega)
          ·exact ⟨by omega, by omega, by rw [hone, ck_dr (by rw [hs0]; omega), hs0]; unfold MW.both; rw [if_neg (by rw [g2]; decide), if_neg (by rw [g1]; decide)]; exact ⟨K8, hO27.tail, hK8⟩⟩
         ·have g2 : s.h2 = true := by simpa using u2
          refine run_skip <| run_inBlock <| run_region <| rl_v rfl rfl rfl (ov_move rfl rfl) <| rl_v rfl rfl rfl (ov_add rfl rfl rfl (by omega)) ?_
          refine rl_v rfl rfl rfl (ov_assign rfl rfl) <| rl_nil <| run_again <| run_seq <| run_seq <| run_region <| rl_v rfl rfl rfl (ov_move rfl rfl) <| rl_v rfl rfl rfl (ov_leq rfl rfl rfl) <| rl_nil <| run_cond_f rfl <| run_exit rfl <| run_inBlock <| run_region <| rl_v rfl rfl rfl (ov_move rfl rfl) <| rl_v rfl rfl rfl (ov_add rfl rfl rfl (by omega)) ?_
          refine rl_v rfl rfl rfl (ov_assign rfl rfl) <| rl_nil ?_
          refine Run.use (ih8 ((k : Int) + 1 + 1) (k + 1) _ ?_ ?_) (And.intro (by exact slot_int rfl (by first | omega)) (And.intro rfl (And.intro rfl (And.intro rfl trivial))))
          ·first | omega | (dsimp only; omega)
          ·exact ⟨by omega, by omega, by rw [hone, ck_dr (by rw [hs0]; omega), hs0]; unfold MW.both; rw [if_pos g2, if_neg (by rw [g1]; decide)]; exact ⟨K7, hO21.tail, hK7⟩⟩
        ·have g1 : s.h1 = true := by simpa using u1
         refine run_skip <| run_inBlock <| run_region <| rl_v rfl rfl rfl (ov_move rfl rfl) <| rl_v rfl rfl rfl (ov_add rfl rfl rfl (by omega)) ?_
         refine rl_v rfl rfl rfl (ov_assign rfl rfl) <| rl_nil <| run_again <| run_seq <| run_seq <| run_region <| rl_v rfl rfl rfl (ov_move rfl rfl) <| rl_v rfl rfl rfl (ov_leq rfl rfl rfl) <| rl_nil <| run_cond_t rfl <| run_skip <| run_seq <| run_block <| run_seq <| run_region <| rl_v rfl rfl rfl (ov_move rfl rfl) <| rl_v rfl rfl rfl (ov_fieldS rfl Try.underlying127 rfl (fo := 1) rfl (by kernel_rfl) rfl) ?_
         refine rl_v rfl rfl rfl (ov_indexA1 rfl Try.underlying123 (by kernel_rfl) rfl rfl ⟨by omega, by omega⟩) ?_
         refine rl_v rfl rfl rfl (ov_load rfl Try.underlying4 rfl rfl (by exact hO13.cellL 0 rfl rfl)) ?_
         refine rl_v rfl rfl rfl (ov_not rfl rfl) <| rl_nil ?_
         first | refine run_cond_dec rfl (fun u2 => ?_) (fun u2 => ?_) | refine run_cond rfl (fun u2 => ?_) (fun u2 => ?_)
         ·have g2 : s.h2 = false := by simpa using u2
          refine run_region <| rl_v rfl rfl rfl (ov_loadW rfl Try.underlying69 rfl (by kernel_rfl) rfl hO13 2 rfl) ?_
          refine rl_v rfl rfl rfl (ov_move rfl rfl) <| rl_v rfl rfl rfl (ov_move rfl rfl) <| rl_v rfl rfl rfl (ov_move rfl rfl) ?_
          refine rl_call callable_84 rfl rfl rfl rfl rfl rfl (rsend_any (X.cTick k) ⟨0, 2, 5, (k : Int) + 1⟩ _ B N _ w0 w12 (by omega) (RWt.on3 (K := K) hO13 hK)) (fun e29 w30 hp31 => ?_)
          obtain ⟨v92, rfl, K8, rfl, hO92, hK8⟩ := hp31
          refine ⟨_, rfl, ?_⟩
          refine rl_ow rfl (ow_storeW rfl rfl (by kernel_rfl) hO92 2 rfl rfl (by rfl) rfl (by rfl)) ?_
          rintro _ w32 ⟨rfl, hO33, hs34⟩
          refine rl_nil <| run_inBlock <| run_region <| rl_v rfl rfl rfl (ov_move rfl rfl) <| rl_v rfl rfl rfl (ov_add rfl rfl rfl (by omega)) ?_
          refine rl_v rfl rfl rfl (ov_assign rfl rfl) <| rl_nil <| run_again <| run_seq <| run_seq <| run_region <| rl_v rfl rfl rfl (ov_move rfl rfl) <| rl_v rfl rfl rfl (ov_leq rfl rfl rfl) <| rl_nil <| run_cond_f rfl <| run_exit rfl <| run_inBlock <| run_region <| rl_v rfl rfl rfl (ov_move rfl rfl) <| rl_v rfl rfl rfl (ov_add rfl rfl rfl (by omega)) ?_
          refine rl_v rfl rfl rfl (ov_assign rfl rfl) <| rl_nil ?_
          refine Run.use (ih8 ((k : Int) + 1 + 1) (k + 1) _ ?_ ?_) (And.intro (by exact slot_int rfl (by first | omega)) (And.intro rfl (And.intro rfl (And.intro rfl trivial))))
          ·first | omega | (dsimp only; omega)
          ·exact ⟨by omega, by omega, by rw [hone, ck_dr (by rw [hs0]; omega), hs0]; unfold MW.both; rw [if_neg (by rw [g2]; decide), if_pos g1]; exact ⟨K8, hO33.tail, hK8⟩⟩
         ·have g2 : s.h2 = true := by simpa using u2
          refine run_skip <| run_inBlock <| run_region <| rl_v rfl rfl rfl (ov_move rfl rfl) <| rl_v rfl rfl rfl (ov_add rfl rfl rfl (by omega)) ?_
          refine rl_v rfl rfl rfl (ov_assign rfl rfl) <| rl_nil <| run_again <| run_seq <| run_seq <| run_region <| rl_v rfl rfl rfl (ov_move rfl rfl) <| rl_v rfl rfl rfl (ov_leq rfl rfl rfl) <| rl_nil <| run_cond_f rfl <| run_exit rfl <| run_inBlock <| run_region <| rl_v rfl rfl rfl (ov_move rfl rfl) <| rl_v rfl rfl rfl (ov_add rfl rfl rfl (by omega)) ?_
          refine rl_v rfl rfl rfl (ov_assign rfl rfl) <| rl_nil ?_
          refine Run.use (ih8 ((k : Int) + 1 + 1) (k + 1) _ ?_ ?_) (And.intro (by exact slot_int rfl (by first | omega)) (And.intro rfl (And.intro rfl (And.intro rfl trivial))))
          ·first | omega | (dsimp only; omega)
          ·exact ⟨by omega, by omega, by rw [hone, ck_dr (by rw [hs0]; omega), hs0]; unfold MW.both; rw [if_pos g2, if_pos g1]; exact ⟨K, hO13.tail.perm (perm_in [_, _] (K).M H), hK⟩⟩
       ·exfalso; omega
    ·refine rl_gskip rfl rfl rfl rfl rfl rfl <| rl_gskip rfl rfl rfl rfl rfl rfl <| rl_gskip rfl rfl rfl rfl rfl rfl <| rl_v rfl rfl rfl (ov_pick_f rfl rfl rfl) <| rl_nil <| run_cond_f rfl <| run_skip <| run_seq <| run_region <| rl_v rfl rfl rfl (ov_assign rfl rfl) <| rl_nil <| run_seq <| run_seq <| run_region <| rl_v rfl rfl rfl (ov_fieldS rfl Try.underlying127 rfl (fo := 0) rfl (by kernel_rfl) rfl) ?_
     refine rl_v rfl rfl rfl (ov_load rfl Try.underlying3 rfl rfl (by exact hO13.cellL 0 rfl rfl)) ?_
     refine rl_nil <| run_block <| run_seq <| run_region <| rl_v rfl rfl rfl (ov_eql rfl rfl rfl) <| rl_v rfl rfl rfl (ov_assign rfl rfl) <| rl_nil ?_
     first | refine run_cond_dec rfl (fun s1 => ?_) (fun s1n => ?_) | refine run_cond rfl (fun s1 => ?_) (fun s1n => ?_)
     ·exfalso; omega
     ·refine run_seq <| run_region <| rl_v rfl rfl rfl (ov_eql rfl rfl rfl) <| rl_v rfl rfl rfl (ov_assign rfl rfl) <| rl_nil ?_
      first | refine run_cond_dec rfl (fun s3 => ?_) (fun s3n => ?_) | refine run_cond rfl (fun s3 => ?_) (fun s3n => ?_)
      ·exfalso; omega
      ·refine run_skip <| run_inBlock <| run_seq <| run_region <| rl_v rfl rfl rfl (ov_assign rfl rfl) <| rl_nil <| run_block <| run_once <| run_seq <| run_seq <| run_region <| rl_v rfl rfl rfl (ov_move rfl rfl) <| rl_v rfl rfl rfl (ov_leq rfl rfl rfl) <| rl_nil <| run_cond_t rfl <| run_skip <| run_seq <| run_block <| run_seq <| run_region <| rl_v rfl rfl rfl (ov_move rfl rfl) <| rl_v rfl rfl rfl (ov_fieldS rfl Try.underlying127 rfl (fo := 1) rfl (by kernel_rfl) rfl) ?_
       refine rl_v rfl rfl rfl (ov_indexA1 rfl Try.underlying123 (by kernel_rfl) rfl rfl ⟨by omega, by omega⟩) ?_
       refine rl_v rfl rfl rfl (ov_load rfl Try.underlying4 rfl rfl (by exact hO13.cellL 0 rfl rfl)) ?_
       refine rl_v rfl rfl rfl (ov_not rfl rfl) <| rl_nil ?_
       first | refine run_cond_dec rfl (fun u1 => ?_) (fun u1 => ?_) | refine run_cond rfl (fun u1 => ?_) (fun u1 => ?_)
       ·have g1 : s.h1 = false := by simpa using u1
        refine run_region <| rl_v rfl rfl rfl (ov_loadW rfl Try.underlying69 rfl (by kernel_rfl) rfl hO13 2 rfl) ?_
        refine rl_v rfl rfl rfl (ov_move rfl rfl) <| rl_v rfl rfl rfl (ov_move rfl rfl) <| rl_v rfl rfl rfl (ov_move rfl rfl) ?_
        refine rl_call callable_84 rfl rfl rfl rfl rfl rfl (rsend_any (X.cTick k) ⟨0, 1, 4, (k : Int) + 1⟩ _ B N _ w0 w12 (by omega) (RWt.on3 (K := K) hO13 hK)) (fun e35 w36 hp37 => ?_)
        obtain ⟨v91, rfl, K7, rfl, hO91, hK7⟩ := hp37
        refine ⟨_, rfl, ?_⟩
        refine rl_ow rfl (ow_storeW rfl rfl (by kernel_rfl) hO91 2 rfl rfl (by rfl) rfl (by rfl)) ?_
        rintro _ w38 ⟨rfl, hO39, hs40⟩
        refine rl_nil <| run_inBlock <| run_region <| rl_v rfl rfl rfl (ov_move rfl rfl) <| rl_v rfl rfl rfl (ov_add rfl rfl rfl (by omega)) ?_
        refine rl_v rfl rfl rfl (ov_assign rfl rfl) <| rl_nil <| run_again <| run_seq <| run_seq <| run_region <| rl_v rfl rfl rfl (ov_move rfl rfl) <| rl_v rfl rfl rfl (ov_leq rfl rfl rfl) <| rl_nil <| run_cond_t rfl <| run_skip <| run_seq <| run_block <| run_seq <| run_region <| rl_v rfl rfl rfl (ov_move rfl rfl) <| rl_v rfl rfl rfl (ov_fieldS rfl Try.underlying127 rfl (fo := 1) rfl (by kernel_rfl) rfl) ?_
        refine rl_v rfl rfl rfl (ov_indexA1 rfl Try.underlying123 (by kernel_rfl) rfl rfl ⟨by omega, by omega⟩) ?_
        refine rl_v rfl rfl rfl (ov_load rfl Try.underlying4 rfl rfl (by exact hO39.cellL 0 rfl rfl)) ?_
        refine rl_v rfl rfl rfl (ov_not rfl rfl) <| rl_nil ?_
        first | refine run_cond_dec rfl (fun u2 => ?_) (fun u2 => ?_) | refine run_cond rfl (fun u2 => ?_) (fun u2 => ?_)
        ·have g2 : s.h2 = false := by simpa using u2
         refine run_region <| rl_v rfl rfl rfl (ov_loadW rfl Try.underlying69 rfl (by kernel_rfl) rfl hO39 2 rfl) ?_
         refine rl_v rfl rfl rfl (ov_move rfl rfl) <| rl_v rfl rfl rfl (ov_move rfl rfl) <| rl_v rfl rfl rfl (ov_move rfl rfl) ?_
         refine rl_call callable_84 rfl rfl rfl rfl rfl rfl (rsend_any ((X.cTick k).send ⟨0, 1, 4, (k : Int) + 1⟩) ⟨0, 2, 4, (k : Int) + 1⟩ _ B N _ w0 w38 (by rw [MW.send_len]; omega) (RWt.of3 (K := K7) hO39 hK7)) (fun e41 w42 hp43 => ?_)
         obtain ⟨v92, rfl, K8, rfl, hO92, hK8⟩ := hp43
         refine ⟨_, rfl, ?_⟩
         refine rl_ow rfl (ow_storeW rfl rfl (by kernel_rfl) hO92 2 rfl rfl (by rfl) rfl (by rfl)) ?_
         rintro _ w44 ⟨rfl, hO45, hs46⟩
         refine rl_nil <| run_inBlock <| run_region <| rl_v rfl rfl rfl (ov_move rfl rfl) <| rl_v rfl rfl rfl (ov_add rfl rfl rfl (by omega)) ?_
         refine rl_v rfl rfl rfl (ov_assign rfl rfl) <| rl_nil <| run_again <| run_seq <| run_seq <| run_region <| rl_v rfl rfl rfl (ov_move rfl rfl) <| rl_v rfl rfl rfl (ov_leq rfl rfl rfl) <| rl_nil <| run_cond_f rfl <| run_exit rfl <| run_inBlock <| run_region <| rl_v rfl rfl rfl (ov_move rfl rfl) <| rl_v rfl rfl rfl (ov_add rfl rfl rfl (by omega)) ?_
         refine rl_v rfl rfl rfl (ov_assign rfl rfl) <| rl_nil ?_
         refine Run.use (ih8 ((k : Int) + 1 + 1) (k + 1) _ ?_ ?_) (And.intro (by exact slot_int rfl (by first | omega)) (And.intro rfl (And.intro rfl (And.intro rfl trivial))))
         ·first | omega | (dsimp only; omega)
         ·exact ⟨by omega, by omega, by rw [hone, ck_do (by rw [hs0]; omega), hs0]; unfold MW.both; rw [if_neg (by rw [g2]; decide), if_neg (by rw [g1]; decide)]; exact ⟨K8, hO45.tail, hK8⟩⟩
        ·have g2 : s.h2 = true := by simpa using u2
         refine run_skip <| run_inBlock <| run_region <| rl_v rfl rfl rfl (ov_move rfl rfl) <| rl_v rfl rfl rfl (ov_add rfl rfl rfl (by omega)) ?_
         refine rl_v rfl rfl rfl (ov_assign rfl rfl) <| rl_nil <| run_again <| run_seq <| run_seq <| run_region <| rl_v rfl rfl rfl (ov_move rfl rfl) <| rl_v rfl rfl rfl (ov_leq rfl rfl rfl) <| rl_nil <| run_cond_f rfl <| run_exit rfl <| run_inBlock <| run_region <| rl_v rfl rfl rfl (ov_move rfl rfl) <| rl_v rfl rfl rfl (ov_add rfl rfl rfl (by omega)) ?_
         refine rl_v rfl rfl rfl (ov_assign rfl rfl) <| rl_nil ?_
         refine Run.use (ih8 ((k : Int) + 1 + 1) (k + 1) _ ?_ ?_) (And.intro (by exact slot_int rfl (by first | omega)) (And.intro rfl (And.intro rfl (And.intro rfl trivial))))
         ·first | omega | (dsimp only; omega)
         ·exact ⟨by omega, by omega, by rw [hone, ck_do (by rw [hs0]; omega), hs0]; unfold MW.both; rw [if_pos g2, if_neg (by rw [g1]; decide)]; exact ⟨K7, hO39.tail, hK7⟩⟩
       ·have g1 : s.h1 = true := by simpa using u1
        refine run_skip <| run_inBlock <| run_region <| rl_v rfl rfl rfl (ov_move rfl rfl) <| rl_v rfl rfl rfl (ov_add rfl rfl rfl (by omega)) ?_
        refine rl_v rfl rfl rfl (ov_assign rfl rfl) <| rl_nil <| run_again <| run_seq <| run_seq <| run_region <| rl_v rfl rfl rfl (ov_move rfl rfl) <| rl_v rfl rfl rfl (ov_leq rfl rfl rfl) <| rl_nil <| run_cond_t rfl <| run_skip <| run_seq <| run_block <| run_seq <| run_region <| rl_v rfl rfl rfl (ov_move rfl rfl) <| rl_v rfl rfl rfl (ov_fieldS rfl Try.underlying127 rfl (fo := 1) rfl (by kernel_rfl) rfl) ?_
        refine rl_v rfl rfl rfl (ov_indexA1 rfl Try.underlying123 (by kernel_rfl) rfl rfl ⟨by omega, by omega⟩) ?_
        refine rl_v rfl rfl rfl (ov_load rfl Try.underlying4 rfl rfl (by exact hO13.cellL 0 rfl rfl)) ?_
        refine rl_v rfl rfl rfl (ov_not rfl rfl) <| rl_nil ?_
        first | refine run_cond_dec rfl (fun u2 => ?_) (fun u2 => ?_) | refine run_cond rfl (fun u2 => ?_) (fun u2 => ?_)
        ·have g2 : s.h2 = false := by simpa using u2
         refine run_region <| rl_v rfl rfl rfl (ov_loadW rfl Try.underlying69 rfl (by kernel_rfl) rfl hO13 2 rfl) ?_
         refine rl_v rfl rfl rfl (ov_move rfl rfl) <| rl_v rfl rfl rfl (ov_move rfl rfl) <| rl_v rfl rfl rfl (ov_move rfl rfl) ?_
         refine rl_call callable_84 rfl rfl rfl rfl rfl rfl (rsend_any (X.cTick k) ⟨0, 2, 4, (k : Int) + 1⟩ _ B N _ w0 w12 (by omega) (RWt.on3 (K := K) hO13 hK)) (fun e47 w48 hp49 => ?_)
         obtain ⟨v92, rfl, K8, rfl, hO92, hK8⟩ := hp49
         refine ⟨_, rfl, ?_⟩
         refine rl_ow rfl (ow_storeW rfl rfl (by kernel_rfl) hO92 2 rfl rfl (by rfl) rfl (by rfl)) ?_
         rintro _ w50 ⟨rfl, hO51, hs52⟩
         refine rl_nil <| run_inBlock <| run_region <| rl_v rfl rfl rfl (ov_move rfl rfl) <| rl_v rfl rfl rfl (ov_add rfl rfl rfl (by omega)) ?_
         refine rl_v rfl rfl rfl (ov_assign rfl rfl) <| rl_nil <| run_again <| run_seq <| run_seq <| run_region <| rl_v rfl rfl rfl (ov_move rfl rfl) <| rl_v rfl rfl rfl (ov_leq rfl rfl rfl) <| rl_nil <| run_cond_f rfl <| run_exit rfl <| run_inBlock <| run_region <| rl_v rfl rfl rfl (ov_move rfl rfl) <| rl_v rfl rfl rfl (ov_add rfl rfl rfl (by omega)) ?_
         refine rl_v rfl rfl rfl (ov_assign rfl rfl) <| rl_nil ?_
         refine Run.use (ih8 ((k : Int) + 1 + 1) (k + 1) _ ?_ ?_) (And.intro (by exact slot_int rfl (by first | omega)) (And.intro rfl (And.intro rfl (And.intro rfl trivial))))
         ·first | omega | (dsimp only; omega)
         ·exact ⟨by omega, by omega, by rw [hone, ck_do (by rw [hs0]; omega), hs0]; unfold MW.both; rw [if_neg (by rw [g2]; decide), if_pos g1]; exact ⟨K8, hO51.tail, hK8⟩⟩
        ·have g2 : s.h2 = true := by simpa using u2
         refine run_skip <| run_inBlock <| run_region <| rl_v rfl rfl rfl (ov_move rfl rfl) <| rl_v rfl rfl rfl (ov_add rfl rfl rfl (by omega)) ?_
         refine rl_v rfl rfl rfl (ov_assign rfl rfl) <| rl_nil <| run_again <| run_seq <| run_seq <| run_region <| rl_v rfl rfl rfl (ov_move rfl rfl) <| rl_v rfl rfl rfl (ov_leq rfl rfl rfl) <| rl_nil <| run_cond_f rfl <| run_exit rfl <| run_inBlock <| run_region <| rl_v rfl rfl rfl (ov_move rfl rfl) <| rl_v rfl rfl rfl (ov_add rfl rfl rfl (by omega)) ?_
         refine rl_v rfl rfl rfl (ov_assign rfl rfl) <| rl_nil ?_
         refine Run.use (ih8 ((k : Int) + 1 + 1) (k + 1) _ ?_ ?_) (And.intro (by exact slot_int rfl (by first | omega)) (And.intro rfl (And.intro rfl (And.intro rfl trivial))))
         ·first | omega | (dsimp only; omega)
         ·exact ⟨by omega, by omega, by rw [hone, ck_do (by rw [hs0]; omega), hs0]; unfold MW.both; rw [if_pos g2, if_pos g1]; exact ⟨K, hO13.tail.perm (perm_in [_, _] (K).M H), hK⟩⟩
   ·refine rl_gskip rfl rfl rfl rfl rfl rfl <| rl_gskip rfl rfl rfl rfl rfl rfl <| rl_gskip rfl rfl rfl rfl rfl rfl <| rl_v rfl rfl rfl (ov_pick_f rfl rfl rfl) <| rl_v rfl rfl rfl (ov_move rfl rfl) <| rl_gskip rfl rfl rfl rfl rfl rfl <| rl_gskip rfl rfl rfl rfl rfl rfl <| rl_gskip rfl rfl rfl rfl rfl rfl <| rl_v rfl rfl rfl (ov_pick_f rfl rfl rfl) <| rl_nil <| run_cond_f rfl <| run_skip <| run_seq <| run_region <| rl_v rfl rfl rfl (ov_assign rfl rfl) <| rl_nil <| run_seq <| run_seq <| run_region <| rl_v rfl rfl rfl (ov_fieldS rfl Try.underlying127 rfl (fo := 0) rfl (by kernel_rfl) rfl) ?_
    refine rl_v rfl rfl rfl (ov_load rfl Try.underlying3 rfl rfl (by exact hO13.cellL 0 rfl rfl)) ?_
    refine rl_nil <| run_block <| run_seq <| run_region <| rl_v rfl rfl rfl (ov_eql rfl rfl rfl) <| rl_v rfl rfl rfl (ov_assign rfl rfl) <| rl_nil ?_
    first | refine run_cond_dec rfl (fun s1 => ?_) (fun s1n => ?_) | refine run_cond rfl (fun s1 => ?_) (fun s1n => ?_)
    ·refine run_seq <| run_region <| rl_v rfl rfl rfl (ov_fieldS rfl Try.underlying127 rfl (fo := 4) rfl (by kernel_rfl) rfl) ?_
     refine rl_v rfl rfl rfl (ov_load rfl Try.underlying3 rfl rfl (by exact hO13.cellL 0 rfl rfl)) ?_
     refine rl_v rfl rfl rfl (ov_add rfl rfl rfl (by omega)) ?_
     refine rl_v rfl rfl rfl (ov_fieldS rfl Try.underlying127 rfl (fo := 4) rfl (by kernel_rfl) rfl) ?_
     refine rl_ow rfl (ow_storeL rfl rfl (by kernel_rfl) hO13 0 rfl rfl rfl rfl rfl) ?_
     rintro _ w53 ⟨rfl, hO54, hs55⟩
     refine rl_nil <| run_seq <| run_region <| rl_v rfl rfl rfl (ov_fieldS rfl Try.underlying69 rfl (fo := 5) rfl (by kernel_rfl) rfl) ?_
     refine rl_v rfl rfl rfl (ov_load rfl Try.underlying62 rfl rfl (by exact hO54.cellL 2 rfl rfl)) ?_
     refine rl_v rfl rfl rfl (ov_move rfl rfl) <| rl_v rfl rfl rfl (ov_sub rfl rfl rfl (by omega)) ?_
     refine rl_v rfl rfl rfl (ov_loadW rfl Try.underlying127 rfl (by kernel_rfl) rfl hO54 0 rfl) ?_
     refine rl_v rfl rfl rfl (ov_index rfl Try.underlying62 (by kernel_rfl) (s := 5) rfl rfl ⟨by omega, by omega⟩ (by exact (hga (by omega)))) ?_
     refine rl_ow rfl (ow_storeS (us := tkl { s with wt := s.wt + 1 }) rfl rfl (by kernel_rfl) hO54 htv (kk := 4) rfl hga rfl ⟨by omega, by omega⟩ rfl rfl rfl) ?_
     rintro _ w56 ⟨c59, rfl, hO57, hr59, hs58⟩
     have hK2 := hK.known hdk hr59
     refine rl_nil <| run_seq <| run_seq <| run_region <| rl_v rfl rfl rfl (ov_fieldS rfl Try.underlying127 rfl (fo := 4) rfl (by kernel_rfl) rfl) ?_
     refine rl_v rfl rfl rfl (ov_load rfl Try.underlying3 rfl rfl (by exact hO57.cellL 0 rfl rfl)) ?_
     refine rl_v rfl rfl rfl (ov_fieldS rfl Try.underlying69 rfl (fo := 0) rfl (by kernel_rfl) rfl) ?_
     refine rl_v rfl rfl rfl (ov_fieldS rfl Try.underlying24 rfl (fo := 1) rfl (by kernel_rfl) rfl) ?_
     refine rl_v rfl rfl rfl (ov_load rfl Try.underlying3 rfl rfl (by exact hO57.cellL 2 rfl rfl)) ?_
     refine rl_v rfl rfl rfl (ov_eql rfl rfl rfl) <| rl_nil ?_
     first | refine run_cond_dec rfl (fun hw => ?_) (fun hw2 => ?_) | refine run_cond rfl (fun hw => ?_) (fun hw2 => ?_)
     ·refine run_seq <| run_region <| rl_v rfl rfl rfl (ov_fieldS rfl Try.underlying69 rfl (fo := 5) rfl (by kernel_rfl) rfl) ?_
      refine rl_v rfl rfl rfl (ov_load rfl Try.underlying62 rfl rfl (by exact hO57.cellL 2 rfl rfl)) ?_
      refine rl_v rfl rfl rfl (ov_move rfl rfl) <| rl_v rfl rfl rfl (ov_sub rfl rfl rfl (by omega)) ?_
      refine rl_v rfl rfl rfl (ov_buildL rfl lay_127 rfl (us := [_, _, _, _, _]) rfl) <| rl_v rfl rfl rfl (ov_index rfl Try.underlying62 (by kernel_rfl) (s := 5) rfl rfl ⟨by omega, by omega⟩ (by exact (hga (by omega)))) ?_
      refine rl_ow rfl (ow_storeS rfl rfl (by kernel_rfl) hO57 hK2.tv (kk := 4) rfl hga rfl ⟨by omega, by show (k : Int) + 1 - 1 < ((X.cTick k).deals.length : Int); omega⟩ rfl rfl rfl) ?_
      rintro _ w59 ⟨c71, rfl, hO60, hr71, hs61⟩
      have hK3 := hK2.known (s := Ds.s 3) hdk hr71
      refine rl_nil <| run_seq <| run_region <| rl_v rfl rfl rfl (ov_loadW rfl Try.underlying69 rfl (by kernel_rfl) rfl hO60 2 rfl) ?_
      refine rl_v rfl rfl rfl (ov_move rfl rfl) ?_
      refine rl_call callable_81 rfl rfl rfl rfl rfl rfl (rboth_any (((X.cTick k).know ((k : Int) + 1) { s with wt := s.wt + 1 }).know ((k : Int) + 1) (Ds.s 3)) 5 ((k : Int) + 1) _ B N _ w0 w59 (by show (X.cTick k).bag.length + 1 < _; omega) (RWt.on3 (K := (K.setT K.ta K.tc c59).setT K.ta K.tc c71) hO60 hK3)) (fun e62 w63 hp64 => ?_)
      obtain ⟨v74, rfl, K5, rfl, hO6, hK5⟩ := hp64
      refine ⟨_, rfl, ?_⟩
      refine rl_ow rfl (ow_storeW rfl rfl (by kernel_rfl) hO6 2 rfl rfl (by rfl) rfl (by rfl)) ?_
      rintro _ w65 ⟨rfl, hO66, hs67⟩
      refine rl_nil <| run_exit rfl <| run_region <| rl_v rfl rfl rfl (ov_move rfl rfl) <| rl_v rfl rfl rfl (ov_add rfl rfl rfl (by omega)) ?_
      refine rl_v rfl rfl rfl (ov_assign rfl rfl) <| rl_nil ?_
      refine Run.use (ih8 ((k : Int) + 1 + 1) (k + 1) _ ?_ ?_) (And.intro (by exact slot_int rfl (by first | omega)) (And.intro rfl (And.intro rfl (And.intro rfl trivial))))
      ·first | omega | (dsimp only; omega)
      ·exact ⟨by omega, by omega, by rw [hone, ck_to (by rw [hs0]; exact s1) (by rw [hs0]; exact hw), hs0]; exact ⟨K5, hO66.tail, hK5⟩⟩
     ·have hbk : ((X.cTick k).know ((k : Int) + 1) { s with wt := s.wt + 1 }).bag.length = (X.cTick k).bag.length := rfl
      refine run_skip <| run_region <| rl_v rfl rfl rfl (ov_assign rfl rfl) <| rl_nil <| run_inBlock <| run_seq <| run_region <| rl_v rfl rfl rfl (ov_assign rfl rfl) <| rl_nil <| run_block <| run_once <| run_seq <| run_seq <| run_region <| rl_v rfl rfl rfl (ov_move rfl rfl) <| rl_v rfl rfl rfl (ov_leq rfl rfl rfl) <| rl_nil <| run_cond_t rfl <| run_skip <| run_seq <| run_block <| run_seq <| run_region <| rl_v rfl rfl rfl (ov_move rfl rfl) <| rl_v rfl rfl rfl (ov_fieldS rfl Try.underlying127 rfl (fo := 1) rfl (by kernel_rfl) rfl) ?_
      refine rl_v rfl rfl rfl (ov_indexA1 rfl Try.underlying123 (by kernel_rfl) rfl rfl ⟨by omega, by omega⟩) ?_
      refine rl_v rfl rfl rfl (ov_load rfl Try.underlying4 rfl rfl (by exact hO57.cellL 0 rfl rfl)) ?_
      refine rl_v rfl rfl rfl (ov_not rfl rfl) <| rl_nil ?_
      first | refine run_cond_dec rfl (fun u1 => ?_) (fun u1 => ?_) | refine run_cond rfl (fun u1 => ?_) (fun u1 => ?_)
      ·have g1 : s.h1 = false := by simpa using u1
       refine run_region <| rl_v rfl rfl rfl (ov_loadW rfl Try.underlying69 rfl (by kernel_rfl) rfl hO57 2 rfl) ?_
       refine rl_v rfl rfl rfl (ov_move rfl rfl) <| rl_v rfl rfl rfl (ov_move rfl rfl) <| rl_v rfl rfl rfl (ov_move rfl rfl) ?_
       refine rl_call callable_84 rfl rfl rfl rfl rfl rfl (rsend_any ((X.cTick k).know ((k : Int) + 1) { s with wt := s.wt + 1 }) ⟨0, 1, 1, (k : Int) + 1⟩ _ B N _ w0 w56 (by omega) (RWt.on3 (K := K.setT K.ta K.tc c59) hO57 hK2)) (fun e68 w69 hp70 => ?_)
       obtain ⟨v91, rfl, K7, rfl, hO91, hK7⟩ := hp70
       refine ⟨_, rfl, ?_⟩
       refine rl_ow rfl (ow_storeW rfl rfl (by kernel_rfl) hO91 2 rfl rfl (by rfl) rfl (by rfl)) ?_
       rintro _ w71 ⟨rfl, hO72, hs73⟩
       refine rl_nil <| run_inBlock <| run_region <| rl_v rfl rfl rfl (ov_move rfl rfl) <| rl_v rfl rfl rfl (ov_add rfl rfl rfl (by omega)) ?_
       refine rl_v rfl rfl rfl (ov_assign rfl rfl) <| rl_nil <| run_again <| run_seq <| run_seq <| run_region <| rl_v rfl rfl rfl (ov_move rfl rfl) <| rl_v rfl rfl rfl (ov_leq rfl rfl rfl) <| rl_nil <| run_cond_t rfl <| run_skip <| run_seq <| run_block <| run_seq <| run_region <| rl_v rfl rfl rfl (ov_move rfl rfl) <| rl_v rfl rfl rfl (ov_fieldS rfl Try.underlying127 rfl (fo := 1) rfl (by kernel_rfl) rfl) ?_
       refine rl_v rfl rfl rfl (ov_indexA1 rfl Try.underlying123 (by kernel_rfl) rfl rfl ⟨by omega, by omega⟩) ?_
       refine rl_v rfl rfl rfl (ov_load rfl Try.underlying4 rfl rfl (by exact hO72.cellL 0 rfl rfl)) ?_
       refine rl_v rfl rfl rfl (ov_not rfl rfl) <| rl_nil ?_
       first | refine run_cond_dec rfl (fun u2 => ?_) (fun u2 => ?_) | refine run_cond rfl (fun u2 => ?_) (fun u2 => ?_)
       ·have g2 : s.h2 = false := by simpa using u2
        refine run_region <| rl_v rfl rfl rfl (ov_loadW rfl Try.underlying69 rfl (by kernel_rfl) rfl hO72 2 rfl) ?_
        refine rl_v rfl rfl rfl (ov_move rfl rfl) <| rl_v rfl rfl rfl (ov_move rfl rfl) <| rl_v rfl rfl rfl (ov_move rfl rfl) ?_
        refine rl_call callable_84 rfl rfl rfl rfl rfl rfl (rsend_any (((X.cTick k).know ((k : Int) + 1) { s with wt := s.wt + 1 }).send ⟨0, 1, 1, (k : Int) + 1⟩) ⟨0, 2, 1, (k : Int) + 1⟩ _ B N _ w0 w71 (by rw [MW.send_len]; omega) (RWt.of3 (K := K7) hO72 hK7)) (fun e74 w75 hp76 => ?_)
        obtain ⟨v92, rfl, K8, rfl, hO92, hK8⟩ := hp76
        refine ⟨_, rfl, ?_⟩
        refine rl_ow rfl (ow_storeW rfl rfl (by kernel_rfl) hO92 2 rfl rfl (by rfl) rfl (by rfl)) ?_
        rintro _ w77 ⟨rfl, hO78, hs79⟩
        refine rl_nil <| run_inBlock <| run_region <| rl_v rfl rfl rfl (ov_move rfl rfl) <| rl_v rfl rfl rfl (ov_add rfl rfl rfl (by omega)) ?_
        refine rl_v rfl rfl rfl (ov_assign rfl rfl) <| rl_nil <| run_again <| run_seq <| run_seq <| run_region <| rl_v rfl rfl rfl (ov_move rfl rfl) <| rl_v rfl rfl rfl (ov_leq rfl rfl rfl) <| rl_nil <| run_cond_f rfl <| run_exit rfl <| run_inBlock <| run_region <| rl_v rfl rfl rfl (ov_move rfl rfl) <| rl_v rfl rfl rfl (ov_add rfl rfl rfl (by omega)) ?_
        refine rl_v rfl rfl rfl (ov_assign rfl rfl) <| rl_nil ?_
        refine Run.use (ih8 ((k : Int) + 1 + 1) (k + 1) _ ?_ ?_) (And.intro (by exact slot_int rfl (by first | omega)) (And.intro rfl (And.intro rfl (And.intro rfl trivial))))
        ·first | omega | (dsimp only; omega)
        ·exact ⟨by omega, by omega, by rw [hone, ck_ask (by rw [hs0]; exact s1) (by rw [hs0]; exact hw2), hs0]; unfold MW.both; rw [if_neg (by rw [g2]; decide), if_neg (by rw [g1]; decide)]; exact ⟨K8, hO78.tail, hK8⟩⟩
       ·have g2 : s.h2 = true := by simpa using u2
        refine run_skip <| run_inBlock <| run_region <| rl_v rfl rfl rfl (ov_move rfl rfl) <| rl_v rfl rfl rfl (ov_add rfl rfl rfl (by omega)) ?_
        refine rl_v rfl rfl rfl (ov_assign rfl rfl) <| rl_nil <| run_again <| run_seq <| run_seq <| run_region <| rl_v rfl rfl rfl (ov_move rfl rfl) <| rl_v rfl rfl rfl (ov_leq rfl rfl rfl) <| rl_nil <| run_cond_f rfl <| run_exit rfl <| run_inBlock <| run_region <| rl_v rfl rfl rfl (ov_move rfl rfl) <| rl_v rfl rfl rfl (ov_add rfl rfl rfl (by omega)) ?_
        refine rl_v rfl rfl rfl (ov_assign rfl rfl) <| rl_nil ?_
        refine Run.use (ih8 ((k : Int) + 1 + 1) (k + 1) _ ?_ ?_) (And.intro (by exact slot_int rfl (by first | omega)) (And.intro rfl (And.intro rfl (And.intro rfl trivial))))
        ·first | omega | (dsimp only; omega)
        ·exact ⟨by omega, by omega, by rw [hone, ck_ask (by rw [hs0]; exact s1) (by rw [hs0]; exact hw2), hs0]; unfold MW.both; rw [if_pos g2, if_neg (by rw [g1]; decide)]; exact ⟨K7, hO72.tail, hK7⟩⟩
      ·have g1 : s.h1 = true := by simpa using u1
       refine run_skip <| run_inBlock <| run_region <| rl_v rfl rfl rfl (ov_move rfl rfl) <| rl_v rfl rfl rfl (ov_add rfl rfl rfl (by omega)) ?_
       refine rl_v rfl rfl rfl (ov_assign rfl rfl) <| rl_nil <| run_again <| run_seq <| run_seq <| run_region <| rl_v rfl rfl rfl (ov_move rfl rfl) <| rl_v rfl rfl rfl (ov_leq rfl rfl rfl) <| rl_nil <| run_cond_t rfl <| run_skip <| run_seq <| run_block <| run_seq <| run_region <| rl_v rfl rfl rfl (ov_move rfl rfl) <| rl_v rfl rfl rfl (ov_fieldS rfl Try.underlying127 rfl (fo := 1) rfl (by kernel_rfl) rfl) ?_
       refine rl_v rfl rfl rfl (ov_indexA1 rfl Try.underlying123 (by kernel_rfl) rfl rfl ⟨by omega, by omega⟩) ?_
       refine rl_v rfl rfl rfl (ov_load rfl Try.underlying4 rfl rfl (by exact hO57.cellL 0 rfl rfl)) ?_
       refine rl_v rfl rfl rfl (ov_not rfl rfl) <| rl_nil ?_
       first | refine run_cond_dec rfl (fun u2 => ?_) (fun u2 => ?_) | refine run_cond rfl (fun u2 => ?_) (fun u2 => ?_)
       ·have g2 : s.h2 = false := by simpa using u2
        refine run_region <| rl_v rfl rfl rfl (ov_loadW rfl Try.underlying69 rfl (by kernel_rfl) rfl hO57 2 rfl) ?_
        refine rl_v rfl rfl rfl (ov_move rfl rfl) <| rl_v rfl rfl rfl (ov_move rfl rfl) <| rl_v rfl rfl rfl (ov_move rfl rfl) ?_
        refine rl_call callable_84 rfl rfl rfl rfl rfl rfl (rsend_any ((X.cTick k).know ((k : Int) + 1) { s with wt := s.wt + 1 }) ⟨0, 2, 1, (k : Int) + 1⟩ _ B N _ w0 w56 (by omega) (RWt.on3 (K := K.setT K.ta K.tc c59) hO57 hK2)) (fun e80 w81 hp82 => ?_)
        obtain ⟨v92, rfl, K8, rfl, hO92, hK8⟩ := hp82
        refine ⟨_, rfl, ?_⟩
        refine rl_ow rfl (ow_storeW rfl rfl (by kernel_rfl) hO92 2 rfl rfl (by rfl) rfl (by rfl)) ?_
        rintro _ w83 ⟨rfl, hO84, hs85⟩
        refine rl_nil <| run_inBlock <| run_region <| rl_v rfl rfl rfl (ov_move rfl rfl) <| rl_v rfl rfl rfl (ov_add rfl rfl rfl (by omega)) ?_
        refine rl_v rfl rfl rfl (ov_assign rfl rfl) <| rl_nil <| run_again <| run_seq <| run_seq <| run_region <| rl_v rfl rfl rfl (ov_move rfl rfl) <| rl_v rfl rfl rfl (ov_leq rfl rfl rfl) <| rl_nil <| run_cond_f rfl <| run_exit rfl <| run_inBlock <| run_region <| rl_v rfl rfl rfl (ov_move rfl rfl) <| rl_v rfl rfl rfl (ov_add rfl rfl rfl (by omega)) ?_
        refine rl_v rfl rfl rfl (ov_assign rfl rfl) <| rl_nil ?_
        refine Run.use (ih8 ((k : Int) + 1 + 1) (k + 1) _ ?_ ?_) (And.intro (by exact slot_int rfl (by first | omega)) (And.intro rfl (And.intro rfl (And.intro rfl trivial))))
        ·first | omega | (dsimp only; omega)
        ·exact ⟨by omega, by omega, by rw [hone, ck_ask (by rw [hs0]; exact s1) (by rw [hs0]; exact hw2), hs0]; unfold MW.both; rw [if_neg (by rw [g2]; decide), if_pos g1]; exact ⟨K8, hO84.tail, hK8⟩⟩
       ·have g2 : s.h2 = true := by simpa using u2
        refine run_skip <| run_inBlock <| run_region <| rl_v rfl rfl rfl (ov_move rfl rfl) <| rl_v rfl rfl rfl (ov_add rfl rfl rfl (by omega)) ?_
        refine rl_v rfl rfl rfl (ov_assign rfl rfl) <| rl_nil <| run_again <| run_seq <| run_seq <| run_region <| rl_v rfl rfl rfl (ov_move rfl rfl) <| rl_v rfl rfl rfl (ov_leq rfl rfl rfl) <| rl_nil <| run_cond_f rfl <| run_exit rfl <| run_inBlock <| run_region <| rl_v rfl rfl rfl (ov_move rfl rfl) <| rl_v rfl rfl rfl (ov_add rfl rfl rfl (by omega)) ?_
        refine rl_v rfl rfl rfl (ov_assign rfl rfl) <| rl_nil ?_
        refine Run.use (ih8 ((k : Int) + 1 + 1) (k + 1) _ ?_ ?_) (And.intro (by exact slot_int rfl (by first | omega)) (And.intro rfl (And.intro rfl (And.intro rfl trivial))))
        ·first | omega | (dsimp only; omega)
        ·exact ⟨by omega, by omega, by rw [hone, ck_ask (by rw [hs0]; exact s1) (by rw [hs0]; exact hw2), hs0]; unfold MW.both; rw [if_pos g2, if_pos g1]; exact ⟨K.setT K.ta K.tc c59, hO57.tail.perm (perm_in [_, _] (K.setT K.ta K.tc c59).M H), hK2⟩⟩
    ·exfalso; omega
 ·rw [e2] at hi
  obtain rfl : k = X.deals.length := by omega
  refine run_exit rfl <| run_seq <| run_region <| rl_v rfl rfl rfl (ov_loadW rfl Try.underlying69 rfl (by kernel_rfl) rfl hO2 1 rfl) ?_
  refine rl_ow rfl (ow_storeW rfl rfl (by kernel_rfl) hO2 0 rfl rfl (by rfl) rfl (by rfl)) ?_
  rintro _ w86 ⟨rfl, hO87, hs88⟩
  refine rl_nil <| run_ret Try.func86 (resW Try.results86 rfl Try.underlying69 rfl (by kernel_rfl) hO87 0 rfl) ?_
  exact ⟨_, rfl, K, rfl, hO87.tail.tail.perm (List.perm_append_comm (l₁ := K.M)), hK⟩
theorem rtick_any (X : MW) (n : Int) (v : Value) (B : Nat) (N H : List (Option Blk)) (w0 w : World) (hn : N3 n) (hG : Good X) (hL : LInv X) (hdw : (X.lg n).down = false) (hb : X.bag.length + 5000 < 4000000000000) (hN : ∀ x ∈ N, x ∈ H) (h : RWt B w0 w v X N H) :
  Calls Try.prog 86 #[v, iv n] w fun e w' => ∃ v', e = .returned v' ∧ RWt B w0 w' v' (X.tick n) N H := by
 unfold MW.tick
 split
 ·next e => subst e; exact rcTick_any X v B N H w0 w hG hdw hb h
 ·next e => exact rsTick_any X n v B N H w0 w (by unfold N3 at hn; omega) hG hL (by omega) hN h
end Go.Proofs.Yteagflekbbchhaa
