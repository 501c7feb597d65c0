import Derived.Test.YteagflekbbchhaaRfC
import Derived.Test.YteagflekbbchhaaReL
set_option maxRecDepth 100000
namespace Go.Proofs.Yteagflekbbchhaa
open Go.RowKit Go.Proofs
set_option maxHeartbeats 1600000 in
theorem showsP_any (A : WA) (X : MW) (K : RK) (B : Nat) (N Pl R : List (Option Blk)) (w0 w : World) (hG : Good X) (hL : LInv X) (hb : X.bag.length ≤ 4000000000000) (hN : ∀ x ∈ N, x ∈ R) (hK : XIn N X K) (h : WAt B w0 w A X Pl R) :
  Calls Try.prog 41 #[ptr A.W, rwv X K] w fun e w' => e = .returned (.bool true) ∧ WAt B w0 w' A X Pl R := by
 have hdn := hG.dn
 have hmem := hG.mem
 obtain ⟨gb, hga, hrb⟩ := hK.bv.open
 obtain ⟨gd, hgd, hrd⟩ := hK.dv.open
 obtain ⟨Kw, Nw, hO, hKw, hPl⟩ := h.fr
 refine calls_of_run (F := [(0, _), (1, _)]) Try.func41 rfl Try.ntmps41 rfl rfl <| run_seq <| run_region <| rl_ow rfl (ow_box _ rfl rfl rfl rfl rfl hO) ?_
 rintro _ w1 ⟨b3, rfl, hO2, hs3⟩
 refine rl_v rfl rfl rfl (ov_assign rfl rfl) <| rl_nil <| run_seq <| run_region <| rl_v rfl rfl rfl (ov_move rfl rfl) ?_
 refine rl_call callable_38 rfl rfl rfl rfl rfl rfl (bag_any A X B Pl _ w0 w1 hb (WAt.unfr (R := some (lch b3 69 (rwl X K)) :: R) hO2 hKw hPl)) (fun e4 w5 hp6 => ?_)
 obtain ⟨vb, cb, rfl, hrB, hW1⟩ := hp6
 refine ⟨_, rfl, ?_⟩
 refine rl_v rfl rfl rfl (ov_move rfl rfl) ?_
 refine rl_call callable_22 rfl rfl rfl rfl rfl rfl (deals_any A X B Pl _ w0 w5 hG hW1) (fun e7 w8 hp9 => ?_)
 obtain ⟨vd, cd, rfl, hrD, hW2⟩ := hp9
 refine ⟨_, rfl, ?_⟩
 obtain ⟨ab, pb, rfl⟩ := hrB.val
 obtain ⟨ad, pd, rfl⟩ := hrD.val
 obtain ⟨gb2, hga2, hrb2⟩ := (PRow.of_row hrB (List.mem_singleton.2 rfl)).open
 obtain ⟨gd2, hgd2, hrd2⟩ := (PRow.of_row hrD (List.mem_singleton.2 rfl)).open
 obtain ⟨RR, hRR⟩ : ∃ RR, RR = some (lch b3 69 (rwl X K)) :: cd :: cb :: R := ⟨_, rfl⟩
 have hN2 : ∀ x ∈ N, x ∈ RR := by rw [hRR]; exact mem_c1 (mem_c1 (mem_c1 hN))
 have hb2 : ∀ x ∈ [cb], x ∈ RR := by rw [hRR]; exact fun x hx => by rw [List.mem_singleton.1 hx]; simp
 have hd2 : ∀ x ∈ [cd], x ∈ RR := by rw [hRR]; exact fun x hx => by rw [List.mem_singleton.1 hx]; simp
 have h03 : RR[0]? = some (some (lch b3 69 (rwl X K))) := by rw [hRR]; rfl
 have hWR : WAt B w0 w8 A X Pl RR := by
  obtain ⟨K1, N1, hO1, hK1, hP1⟩ := hW2.fr
  exact WAt.unfr (by rw [hRR]; exact hO1.perm ((List.perm_middle (l₁ := [cd, cb]) (l₂ := R ++ (K1.M A X ++ N1))))) hK1 hP1
 have hend : ∀ wz : World, WAt B w0 wz A X Pl RR → WAt B w0 wz A X Pl R := fun wz h => by rw [hRR] at h; exact h.drop.drop.drop
 clear hRR
 refine rl_v rfl rfl rfl (ov_assign rfl rfl) <| rl_v rfl rfl rfl (ov_assign rfl rfl) <| rl_nil <| run_seq <| run_seq <| run_region_join 34 (.bool (decide (False))) [0, 3, 5, 6] (fun hk10 => ?_) ?_
 ·refine rl_v rfl rfl rfl (ov_move rfl rfl) <| rl_v rfl rfl rfl (ov_len rfl Try.underlying79 rfl) <| rl_v rfl rfl rfl (ov_fieldS rfl Try.underlying69 rfl (fo := 6) rfl (by kernel_rfl) rfl) ?_
  refine rl_v rfl rfl rfl (ov_load rfl Try.underlying63 rfl rfl (by exact (hWR.own).cellL 0 h03 rfl)) ?_
  refine rl_v rfl rfl rfl (ov_len rfl Try.underlying63 rfl) <| rl_v rfl rfl rfl (ov_neq rfl rfl rfl) <| rl_v rfl rfl rfl (ov_move rfl rfl) ?_
  first | refine rl_split_dec 27 rfl (fun hg11 => ?_) (fun hg11 => ?_) | refine rl_split 27 rfl (fun hg11 => ?_) (fun hg11 => ?_)
  ·refine rl_gskip rfl rfl rfl rfl rfl rfl <| rl_gskip rfl rfl rfl rfl rfl rfl <| rl_gskip rfl rfl rfl rfl rfl rfl <| rl_gskip rfl rfl rfl rfl rfl rfl <| rl_gskip rfl rfl rfl rfl rfl rfl <| rl_gskip rfl rfl rfl rfl rfl rfl <| rl_v rfl rfl rfl (ov_pick_t rfl rfl rfl) ?_
   refine rl_nil (hk10 _ (jbt rfl (by omega)) (And.intro rfl (And.intro rfl (And.intro rfl (And.intro rfl trivial)))))
  ·refine rl_gv rfl rfl rfl rfl rfl (ov_move rfl rfl) <| rl_gv rfl rfl rfl rfl rfl (ov_len rfl Try.underlying52 rfl) <| rl_gv rfl rfl rfl rfl rfl (ov_fieldS rfl Try.underlying69 rfl (fo := 4) rfl (by kernel_rfl) rfl) ?_
   refine rl_gv rfl rfl rfl rfl rfl (ov_load rfl Try.underlying25 rfl rfl (by exact (hWR.own).cellL 0 h03 rfl)) ?_
   refine rl_gv rfl rfl rfl rfl rfl (ov_len rfl Try.underlying25 rfl) <| rl_gv rfl rfl rfl rfl rfl (ov_neq rfl rfl rfl) <| rl_v rfl rfl rfl (ov_pick_f rfl rfl rfl) ?_
   refine rl_nil (hk10 _ (jbd rfl (by grind)) (And.intro rfl (And.intro rfl (And.intro rfl (And.intro rfl trivial)))))
 ·show Run _ _ _ _ [(34, _), (0, _), (3, _), (5, _), (6, _)] _ _
  first | refine run_cond_dec rfl (fun c1 => ?_) (fun c1 => ?_) | refine run_cond rfl (fun c1 => ?_) (fun c1 => ?_)
  ·exfalso; exact c1
  ·refine run_skip <| run_seq <| run_seq <| run_region <| rl_v rfl rfl rfl (ov_assign rfl rfl) <| rl_nil <| run_block <| Run.keep [0, 3, 5, 6, 7] (F' := [(0, _), (3, _), (5, _), (6, _), (7, _)]) rfl <| run_loop1 (fun (i : Int) => [(7, .int .i64 i)]) [0, 3, 5, 6] (fun (i : Int) (w12 : World) => 0 ≤ i ∧ i ≤ X.bag.length ∧ WAt B w0 w12 A X Pl RR) (fun (i : Int) => ((X.bag.length : Int) - i).toNat) (0) ?_ (And.intro (by exact slot_int rfl (by first | omega)) (And.intro rfl (And.intro rfl (And.intro rfl (And.intro rfl trivial))))) ?_
   ·exact ⟨by omega, by omega, hWR⟩
   intro i w12 hIw12 ih13
   obtain ⟨hi0, hi1, hWi⟩ := hIw12
   show Run _ _ _ _ [(7, _), (0, _), (3, _), (5, _), (6, _)] _ _
   refine run_seq <| run_seq <| run_region <| rl_v rfl rfl rfl (ov_move rfl rfl) <| rl_v rfl rfl rfl (ov_move rfl rfl) <| rl_v rfl rfl rfl (ov_len rfl Try.underlying79 rfl) <| rl_v rfl rfl rfl (ov_lss rfl rfl rfl) <| rl_nil ?_
   first | refine run_cond_dec rfl (fun hq => ?_) (fun hq => ?_) | refine run_cond rfl (fun hq => ?_) (fun hq => ?_)
   ·refine run_skip <| run_seq <| run_block <| run_seq <| run_class (fun w' => WAt B w0 w' A X Pl RR) (hWi.drewW) mixed (by kernel_rfl) ?_
    refine rk_v rfl rfl rfl (fun wq hQ => ov_move rfl rfl) ?_
    refine rk_v rfl rfl rfl (fun wq hQ => ov_move rfl rfl) ?_
    refine rk_v rfl rfl rfl (fun wq hQ => ov_index rfl Try.underlying79 (by kernel_rfl) (s := 4) rfl rfl ⟨by omega, by omega⟩ (by exact (hga2 (by omega)))) ?_
    refine rk_v rfl rfl rfl (fun wq hQ => ov_loadE rfl Try.underlying87 rfl (by kernel_rfl) rfl ⟨by omega, by omega⟩ rfl (hrb2 (hQ.own) hb2)) ?_
    refine rk_v rfl rfl rfl (fun wq hQ => ov_fieldS rfl Try.underlying69 rfl (fo := 6) rfl (by kernel_rfl) rfl) ?_
    refine rk_v rfl rfl rfl (fun wq hQ => ov_load rfl Try.underlying63 rfl rfl (by exact (hQ.own).cellL 0 h03 rfl)) ?_
    refine rk_v rfl rfl rfl (fun wq hQ => ov_move rfl rfl) ?_
    refine rk_v rfl rfl rfl (fun wq hQ => ov_index rfl Try.underlying63 (by kernel_rfl) (s := 4) rfl rfl ⟨by omega, by omega⟩ (by exact (hga (by omega)))) ?_
    refine rk_v rfl rfl rfl (fun wq hQ => ov_loadE rfl Try.underlying136 rfl (by kernel_rfl) rfl ⟨by omega, by omega⟩ rfl (hrb (hQ.own) hN2)) ?_
    refine rk_v rfl rfl rfl (fun wq hQ => ov_neqM (m := X.bag.getD i.toNat Ms.z) rfl rfl rfl) ?_
    refine rk_nil (fun w14 hWj => ?_)
    refine run_cond_f rfl <| run_skip <| run_inBlock <| run_region <| rl_v rfl rfl rfl (ov_move rfl rfl) <| rl_v rfl rfl rfl (ov_add rfl rfl rfl (by omega)) ?_
    refine rl_v rfl rfl rfl (ov_assign rfl rfl) <| rl_nil ?_
    refine Run.use (ih13 _ _ ?_ ?_) (And.intro (by rfl) (And.intro rfl (And.intro rfl (And.intro rfl (And.intro rfl trivial)))))
    ·first | omega | (dsimp only; omega)
    ·exact ⟨by omega, by omega, hWj⟩
   ·refine run_exit rfl <| run_seq <| run_seq <| run_region <| rl_v rfl rfl rfl (ov_assign rfl rfl) <| rl_nil <| run_block <| Run.keep [0, 3, 6, 8] (F' := [(0, _), (3, _), (6, _), (8, _)]) rfl <| run_loop1 (fun (d : Int) => [(8, .int .i64 d)]) [0, 3, 6] (fun (d : Int) (w15 : World) => 0 ≤ d ∧ d ≤ X.deals.length ∧ WAt B w0 w15 A X Pl RR) (fun (d : Int) => ((X.deals.length : Int) - d).toNat) (0) ?_ (And.intro (by exact slot_int rfl (by first | omega)) (And.intro rfl (And.intro rfl (And.intro rfl trivial)))) ?_
    ·exact ⟨by omega, by omega, hWi⟩
    intro d w15 hIw15 ih16
    obtain ⟨hd0, hd1, hWi⟩ := hIw15
    show Run _ _ _ _ [(8, _), (0, _), (3, _), (6, _)] _ _
    refine run_seq <| run_seq <| run_region <| rl_v rfl rfl rfl (ov_move rfl rfl) <| rl_v rfl rfl rfl (ov_move rfl rfl) <| rl_v rfl rfl rfl (ov_len rfl Try.underlying52 rfl) <| rl_v rfl rfl rfl (ov_lss rfl rfl rfl) <| rl_nil ?_
    first | refine run_cond_dec rfl (fun hq => ?_) (fun hq => ?_) | refine run_cond rfl (fun hq => ?_) (fun hq => ?_)
    ·refine run_skip <| run_seq <| run_block <| run_seq <| run_class (fun w' => WAt B w0 w' A X Pl RR) (hWi.drewW) mixed (by kernel_rfl) ?_
     refine rk_v rfl rfl rfl (fun wq hQ => ov_move rfl rfl) ?_
     refine rk_v rfl rfl rfl (fun wq hQ => ov_move rfl rfl) ?_
     refine rk_v rfl rfl rfl (fun wq hQ => ov_index rfl Try.underlying52 (by kernel_rfl) (s := 4) rfl rfl ⟨by omega, by omega⟩ (by exact (hgd2 (by omega)))) ?_
     refine rk_v rfl rfl rfl (fun wq hQ => ov_loadE rfl Try.underlying41 rfl (by kernel_rfl) rfl ⟨by omega, by omega⟩ rfl (hrd2 (hQ.own) hd2)) ?_
     refine rk_v rfl rfl rfl (fun wq hQ => ov_fieldS rfl Try.underlying69 rfl (fo := 4) rfl (by kernel_rfl) rfl) ?_
     refine rk_v rfl rfl rfl (fun wq hQ => ov_load rfl Try.underlying25 rfl rfl (by exact (hQ.own).cellL 0 h03 rfl)) ?_
     refine rk_v rfl rfl rfl (fun wq hQ => ov_move rfl rfl) ?_
     refine rk_v rfl rfl rfl (fun wq hQ => ov_index rfl Try.underlying25 (by kernel_rfl) (s := 4) rfl rfl ⟨by omega, by omega⟩ (by exact (hgd (by omega)))) ?_
     refine rk_v rfl rfl rfl (fun wq hQ => ov_loadE rfl Try.underlying34 rfl (by kernel_rfl) rfl ⟨by omega, by omega⟩ rfl (hrd (hQ.own) hN2)) ?_
     refine rk_v rfl rfl rfl (fun wq hQ => ov_neqD (d := X.deals.getD d.toNat Dl.z) rfl rfl rfl) ?_
     refine rk_v rfl rfl rfl (fun wq hQ => ov_move rfl rfl) ?_
     first | refine rk_noD 67 rfl (rfl) ?_ | refine rk_no 67 rfl (rfl) ?_
     refine rk_gv rfl rfl rfl rfl rfl (fun wq hQ => ov_move rfl rfl) ?_
     refine rk_gv rfl rfl rfl rfl rfl (fun wq hQ => ov_move rfl rfl) ?_
     refine rk_gv rfl rfl rfl rfl rfl (fun wq hQ => ov_add rfl rfl rfl (by omega)) ?_
     refine rk_gcall callable_34 rfl rfl rfl rfl rfl rfl rfl rfl (fun wq hQ => wstate_any A X (d + 1) B Pl RR w0 wq hQ) ?_
     refine rk_gv rfl rfl rfl rfl rfl (fun wq hQ => ov_loadW rfl Try.underlying69 rfl (by kernel_rfl) rfl (hQ.own) 0 (h03)) ?_
     refine rk_gv rfl rfl rfl rfl rfl (fun wq hQ => ov_move rfl rfl) ?_
     refine rk_gv rfl rfl rfl rfl rfl (fun wq hQ => ov_add rfl rfl rfl (by omega)) ?_
     refine rk_gcall callable_35 rfl rfl rfl rfl rfl rfl rfl rfl (fun wq hQ => hQ.call fun H hO hR => rstate_any X K (d + 1) B N H w0 wq ⟨by omega, by omega⟩ hdn hO (fun x hx => hR x (hN2 x hx)) hK) ?_
     refine rk_gv rfl rfl rfl rfl rfl (fun wq hQ => ov_neq rfl rfl rfl) ?_
     refine rk_v rfl rfl rfl (fun wq hQ => ov_pick_f rfl rfl rfl) ?_
     refine rk_v rfl rfl rfl (fun wq hQ => ov_move rfl rfl) ?_
     first | refine rk_noD 78 rfl (fun h => h rfl) ?_ | refine rk_no 78 rfl (fun h => h rfl) ?_
     refine rk_gv rfl rfl rfl rfl rfl (fun wq hQ => ov_move rfl rfl) ?_
     refine rk_gv rfl rfl rfl rfl rfl (fun wq hQ => ov_move rfl rfl) ?_
     refine rk_gv rfl rfl rfl rfl rfl (fun wq hQ => ov_add rfl rfl rfl (by omega)) ?_
     refine rk_gcall callable_19 rfl rfl rfl rfl rfl rfl rfl rfl (fun wq hQ => at_none A X 0 (d + 1) B Pl RR w0 wq (by omega) hQ) ?_
     refine rk_gv rfl rfl rfl rfl rfl (fun wq hQ => ov_neq rfl rfl rfl) ?_
     refine rk_v rfl rfl rfl (fun wq hQ => ov_pick_f rfl rfl rfl) ?_
     refine rk_v rfl rfl rfl (fun wq hQ => ov_move rfl rfl) ?_
     first | refine rk_noD 85 rfl (fun h => h rfl) ?_ | refine rk_no 85 rfl (fun h => h rfl) ?_
     refine rk_gv rfl rfl rfl rfl rfl (fun wq hQ => ov_move rfl rfl) ?_
     refine rk_gv rfl rfl rfl rfl rfl (fun wq hQ => ov_move rfl rfl) ?_
     refine rk_gv rfl rfl rfl rfl rfl (fun wq hQ => ov_add rfl rfl rfl (by omega)) ?_
     refine rk_gcall callable_19 rfl rfl rfl rfl rfl rfl rfl rfl (fun wq hQ => at_any A X 1 (d + 1) B Pl RR w0 wq (.inl rfl) hG hQ) ?_
     refine rk_gv rfl rfl rfl rfl rfl (fun wq hQ => ov_loadW rfl Try.underlying69 rfl (by kernel_rfl) rfl (hQ.own) 0 (h03)) ?_
     refine rk_gv rfl rfl rfl rfl rfl (fun wq hQ => ov_move rfl rfl) ?_
     refine rk_gv rfl rfl rfl rfl rfl (fun wq hQ => ov_add rfl rfl rfl (by omega)) ?_
     refine rk_gcall callable_33 rfl rfl rfl rfl rfl rfl rfl rfl (fun wq hQ => hQ.call fun H hO hR => rat3 (.inl rfl) hG hL hO (fun x hx => hR x (hN2 x hx)) hK) ?_
     refine rk_gv rfl rfl rfl rfl rfl (fun wq hQ => ov_neq rfl rfl rfl) ?_
     refine rk_v rfl rfl rfl (fun wq hQ => ov_pick_f rfl rfl rfl) ?_
     refine rk_v rfl rfl rfl (fun wq hQ => ov_move rfl rfl) ?_
     first | refine rk_noD 96 rfl (fun h => h rfl) ?_ | refine rk_no 96 rfl (fun h => h rfl) ?_
     refine rk_gv rfl rfl rfl rfl rfl (fun wq hQ => ov_move rfl rfl) ?_
     refine rk_gv rfl rfl rfl rfl rfl (fun wq hQ => ov_move rfl rfl) ?_
     refine rk_gv rfl rfl rfl rfl rfl (fun wq hQ => ov_add rfl rfl rfl (by omega)) ?_
     refine rk_gcall callable_19 rfl rfl rfl rfl rfl rfl rfl rfl (fun wq hQ => at_any A X 2 (d + 1) B Pl RR w0 wq (.inr rfl) hG hQ) ?_
     refine rk_gv rfl rfl rfl rfl rfl (fun wq hQ => ov_loadW rfl Try.underlying69 rfl (by kernel_rfl) rfl (hQ.own) 0 (h03)) ?_
     refine rk_gv rfl rfl rfl rfl rfl (fun wq hQ => ov_move rfl rfl) ?_
     refine rk_gv rfl rfl rfl rfl rfl (fun wq hQ => ov_add rfl rfl rfl (by omega)) ?_
     refine rk_gcall callable_33 rfl rfl rfl rfl rfl rfl rfl rfl (fun wq hQ => hQ.call fun H hO hR => rat3 (.inr rfl) hG hL hO (fun x hx => hR x (hN2 x hx)) hK) ?_
     refine rk_gv rfl rfl rfl rfl rfl (fun wq hQ => ov_neq rfl rfl rfl) ?_
     refine rk_v rfl rfl rfl (fun wq hQ => ov_pick_f rfl rfl rfl) ?_
     refine rk_nil (fun w38 hWj => ?_)
     first | refine run_cond_dec rfl (fun bad => ?_) (fun ok => ?_) | refine run_cond rfl (fun bad => ?_) (fun ok => ?_)
     ·exfalso; exact bad rfl
     ·refine run_skip <| run_inBlock <| run_region <| rl_v rfl rfl rfl (ov_move rfl rfl) <| rl_v rfl rfl rfl (ov_add rfl rfl rfl (by omega)) ?_
      refine rl_v rfl rfl rfl (ov_assign rfl rfl) <| rl_nil ?_
      refine Run.use (ih16 _ _ ?_ ?_) (And.intro (by rfl) (And.intro rfl (And.intro rfl (And.intro rfl trivial))))
      ·first | omega | (dsimp only; omega)
      ·exact ⟨by omega, by omega, hWj⟩
    ·refine run_exit rfl <| run_seq <| run_seq <| run_region <| rl_v rfl rfl rfl (ov_assign rfl rfl) <| rl_nil <| run_block <| Run.keep [0, 3, 9] (F' := [(0, _), (3, _), (9, _)]) rfl <| run_loop1 (fun (n : Int) => [(9, .int .i64 n)]) [0, 3] (fun (n : Int) (w39 : World) => 0 ≤ n ∧ n ≤ 3 ∧ WAt B w0 w39 A X Pl RR) (fun (n : Int) => (3 - n).toNat) (0) ?_ (And.intro (by exact slot_int rfl (by first | omega)) (And.intro rfl (And.intro rfl trivial))) ?_
     ·exact ⟨by omega, by omega, hWi⟩
     intro n w39 hIw39 ih40
     obtain ⟨hn0, hn1, hWi⟩ := hIw39
     show Run _ _ _ _ [(9, _), (0, _), (3, _)] _ _
     refine run_seq <| run_seq <| run_region <| rl_v rfl rfl rfl (ov_move rfl rfl) <| rl_v rfl rfl rfl (ov_lss rfl rfl rfl) <| rl_nil ?_
     first | refine run_cond_dec rfl (fun hq => ?_) (fun hq => ?_) | refine run_cond rfl (fun hq => ?_) (fun hq => ?_)
     ·have hn3 : N3 n := by unfold N3; omega
      refine run_skip <| run_seq <| run_block <| run_seq <| run_region <| rl_v rfl rfl rfl (ov_move rfl rfl) <| rl_v rfl rfl rfl (ov_move rfl rfl) ?_
      refine rl_call callable_23 rfl rfl rfl rfl rfl rfl (log_any A X n B Pl RR w0 w39 hn3 hWi) (fun e41 w42 hp43 => ?_)
      obtain ⟨rfl, hWl⟩ := hp43
      refine ⟨_, rfl, ?_⟩
      refine rl_v rfl rfl rfl (ov_move rfl rfl) <| rl_v rfl rfl rfl (ov_extract rfl rfl (by rfl)) ?_
      refine rl_v rfl rfl rfl (ov_extract rfl rfl (by rfl)) ?_
      refine rl_v rfl rfl rfl (ov_assign rfl rfl) <| rl_v rfl rfl rfl (ov_assign rfl rfl) <| rl_nil <| run_seq <| run_class (fun w' => WAt B w0 w' A X Pl RR) (hWl.drewW) mixed (by kernel_rfl) ?_
      refine rk_v rfl rfl rfl (fun wq hQ => ov_move rfl rfl) ?_
      refine rk_v rfl rfl rfl (fun wq hQ => ov_move rfl rfl) ?_
      refine rk_call callable_30 rfl rfl rfl rfl rfl rfl (fun wq hQ => up_any A X n B Pl RR w0 wq hn3 hQ) ?_
      refine rk_v rfl rfl rfl (fun wq hQ => ov_move rfl rfl) ?_
      refine rk_v rfl rfl rfl (fun wq hQ => ov_fieldS rfl Try.underlying69 rfl (fo := 7) rfl (by kernel_rfl) rfl) ?_
      refine rk_v rfl rfl rfl (fun wq hQ => ov_indexA rfl Try.underlying67 (by kernel_rfl) (s := 5) rfl rfl ⟨by omega, by omega⟩) ?_
      refine rk_v rfl rfl rfl (fun wq hQ => ov_fieldS rfl Try.underlying66 rfl (fo := 2) rfl (by kernel_rfl) rfl) ?_
      refine rk_v rfl rfl rfl (fun wq hQ => ov_load rfl Try.underlying4 rfl rfl (by exact (hQ.own).cellL 0 h03 ((rw_node X K hn3 2 (by omega)).trans rfl))) ?_
      refine rk_v rfl rfl rfl (fun wq hQ => ov_eqlB rfl Try.underlying4 rfl rfl) ?_
      refine rk_v rfl rfl rfl (fun wq hQ => ov_move rfl rfl) ?_
      first | refine rk_noD 126 rfl (upNe _) ?_ | refine rk_no 126 rfl (upNe _) ?_
      refine rk_gv rfl rfl rfl rfl rfl (fun wq hQ => ov_move rfl rfl) ?_
      refine rk_gv rfl rfl rfl rfl rfl (fun wq hQ => ov_move rfl rfl) ?_
      refine rk_gv rfl rfl rfl rfl rfl (fun wq hQ => ov_fieldS rfl Try.underlying69 rfl (fo := 7) rfl (by kernel_rfl) rfl) ?_
      refine rk_gv rfl rfl rfl rfl rfl (fun wq hQ => ov_indexA rfl Try.underlying67 (by kernel_rfl) (s := 5) rfl rfl ⟨by omega, by omega⟩) ?_
      refine rk_gv rfl rfl rfl rfl rfl (fun wq hQ => ov_fieldS rfl Try.underlying66 rfl (fo := 0) rfl (by kernel_rfl) rfl) ?_
      refine rk_gv rfl rfl rfl rfl rfl (fun wq hQ => ov_load rfl Try.underlying64 rfl rfl (by exact (hQ.own).cellL 0 h03 ((rw_node X K hn3 0 (by omega)).trans rfl))) ?_
      refine rk_gv rfl rfl rfl rfl rfl (fun wq hQ => ov_len rfl Try.underlying64 rfl) ?_
      refine rk_gv rfl rfl rfl rfl rfl (fun wq hQ => ov_neq rfl rfl rfl) ?_
      refine rk_v rfl rfl rfl (fun wq hQ => ov_pick_f rfl rfl rfl) ?_
      refine rk_v rfl rfl rfl (fun wq hQ => ov_move rfl rfl) ?_
      first | refine rk_noD 136 rfl (fun h => h rfl) ?_ | refine rk_no 136 rfl (fun h => h rfl) ?_
      refine rk_gv rfl rfl rfl rfl rfl (fun wq hQ => ov_move rfl rfl) ?_
      refine rk_gv rfl rfl rfl rfl rfl (fun wq hQ => ov_move rfl rfl) ?_
      refine rk_gv rfl rfl rfl rfl rfl (fun wq hQ => ov_fieldS rfl Try.underlying69 rfl (fo := 7) rfl (by kernel_rfl) rfl) ?_
      refine rk_gv rfl rfl rfl rfl rfl (fun wq hQ => ov_indexA rfl Try.underlying67 (by kernel_rfl) (s := 5) rfl rfl ⟨by omega, by omega⟩) ?_
      refine rk_gv rfl rfl rfl rfl rfl (fun wq hQ => ov_fieldS rfl Try.underlying66 rfl (fo := 1) rfl (by kernel_rfl) rfl) ?_
      refine rk_gv rfl rfl rfl rfl rfl (fun wq hQ => ov_load rfl Try.underlying3 rfl rfl (by exact (hQ.own).cellL 0 h03 ((rw_node X K hn3 1 (by omega)).trans rfl))) ?_
      refine rk_gv rfl rfl rfl rfl rfl (fun wq hQ => ov_neq rfl rfl rfl) ?_
      refine rk_v rfl rfl rfl (fun wq hQ => ov_pick_f rfl rfl rfl) ?_
      refine rk_nil (fun w47 hWj => ?_)
      first | refine run_cond_dec rfl (fun bad => ?_) (fun ok => ?_) | refine run_cond rfl (fun bad => ?_) (fun ok => ?_)
      ·exfalso; exact bad rfl
      ·refine run_skip <| run_inBlock <| run_region <| rl_v rfl rfl rfl (ov_move rfl rfl) <| rl_v rfl rfl rfl (ov_add rfl rfl rfl (by omega)) ?_
       refine rl_v rfl rfl rfl (ov_assign rfl rfl) <| rl_nil ?_
       refine Run.use (ih40 _ _ ?_ ?_) (And.intro (by rfl) (And.intro rfl (And.intro rfl trivial)))
       ·first | omega | (dsimp only; omega)
       ·exact ⟨by omega, by omega, hWj⟩
     ·refine run_exit rfl <| run_seq <| run_seq <| run_region <| rl_v rfl rfl rfl (ov_assign rfl rfl) <| rl_nil <| run_block <| Run.keep [0, 3, 12] (F' := [(0, _), (3, _), (12, _)]) rfl <| run_loop1 (fun (n : Int) => [(12, .int .i64 n)]) [0, 3] (fun (n : Int) (w48 : World) => 1 ≤ n ∧ n ≤ 3 ∧ WAt B w0 w48 A X Pl RR) (fun (n : Int) => (3 - n).toNat) (1) ?_ (And.intro (by exact slot_int rfl (by first | omega)) (And.intro rfl (And.intro rfl trivial))) ?_
      ·exact ⟨by omega, by omega, hWi⟩
      intro n w48 hIw48 ih49
      obtain ⟨hn0, hn1, hWi⟩ := hIw48
      show Run _ _ _ _ [(12, _), (0, _), (3, _)] _ _
      refine run_seq <| run_seq <| run_region <| rl_v rfl rfl rfl (ov_move rfl rfl) <| rl_v rfl rfl rfl (ov_lss rfl rfl rfl) <| rl_nil ?_
      first | refine run_cond_dec rfl (fun hq => ?_) (fun hq => ?_) | refine run_cond rfl (fun hq => ?_) (fun hq => ?_)
      ·have hn : n = 1 ∨ n = 2 := by omega
       have hfl := hG.fl n hn
       refine run_skip <| run_seq <| run_block <| run_seq <| run_region <| rl_v rfl rfl rfl (ov_move rfl rfl) <| rl_v rfl rfl rfl (ov_move rfl rfl) ?_
       refine rl_call callable_24 rfl rfl rfl rfl rfl rfl (balances_any A X n B Pl _ w0 w48 hn hG hWi) (fun e50 w51 hp52 => ?_)
       obtain ⟨v1, k1, rfl, hr1, hWa⟩ := hp52
       refine ⟨_, rfl, ?_⟩
       refine rl_v rfl rfl rfl (ov_move rfl rfl) <| rl_v rfl rfl rfl (ov_extract rfl rfl (by rfl)) ?_
       refine rl_v rfl rfl rfl (ov_extract rfl rfl (by rfl)) ?_
       refine rl_v rfl rfl rfl (ov_assign rfl rfl) <| rl_v rfl rfl rfl (ov_assign rfl rfl) <| rl_nil <| run_seq <| run_region <| rl_v rfl rfl rfl (ov_move rfl rfl) <| rl_v rfl rfl rfl (ov_move rfl rfl) ?_
       refine rl_call callable_16 rfl rfl rfl rfl rfl rfl (free_any A X n B Pl _ w0 w51 hn hG hWa) (fun e53 w54 hp55 => ?_)
       obtain ⟨v2, k2, rfl, hr2, hWb⟩ := hp55
       refine ⟨_, rfl, ?_⟩
       obtain ⟨s1, z1, rfl⟩ := hr1.val
       obtain ⟨s2, z2, rfl⟩ := hr2.val
       obtain ⟨Kw, Nw, hO, hKw, hPl⟩ := hWb.fr
       refine rl_v rfl rfl rfl (ov_move rfl rfl) <| rl_v rfl rfl rfl (ov_extract rfl rfl (by rfl)) ?_
       refine rl_v rfl rfl rfl (ov_extract rfl rfl (by rfl)) ?_
       refine rl_v rfl rfl rfl (ov_assign rfl rfl) <| rl_v rfl rfl rfl (ov_assign rfl rfl) <| rl_nil <| run_seq <| run_region <| rl_v rfl rfl rfl (ov_move rfl rfl) <| rl_v rfl rfl rfl (ov_neq rfl rfl rfl) <| rl_v rfl rfl rfl (ov_move rfl rfl) ?_
       first | refine rl_noD 163 rfl (fun h => h rfl) ?_ | refine rl_no 163 rfl (fun h => h rfl) ?_
       refine rl_gv rfl rfl rfl rfl rfl (ov_move rfl rfl) <| rl_gv rfl rfl rfl rfl rfl (ov_neq rfl rfl rfl) <| rl_v rfl rfl rfl (ov_pick_f rfl rfl rfl) <| rl_v rfl rfl rfl (ov_move rfl rfl) ?_
       first | refine rl_noD 167 rfl (fun h => h rfl) ?_ | refine rl_no 167 rfl (fun h => h rfl) ?_
       refine rl_gv rfl rfl rfl rfl rfl (ov_move rfl rfl) <| rl_gv rfl rfl rfl rfl rfl (ov_loadW rfl Try.underlying69 rfl (by kernel_rfl) rfl hO 2 ((at_app h03))) ?_
       refine rl_gv rfl rfl rfl rfl rfl (ov_move rfl rfl) ?_
       refine rl_gcall callable_36 rfl rfl rfl rfl rfl rfl rfl rfl (rbal_any X K n B N _ w0 w54 hn hG hL hO (memL (mem_c1 (mem_c1 hN2))) hK) (fun e56 w57 hp58 => ?_)
       obtain ⟨v3, k3, rfl, hr3, hO3⟩ := hp58
       refine ⟨_, rfl, ?_⟩
       obtain ⟨s3, z3, rfl⟩ := hr3.val
       refine rl_gcall callable_25 rfl rfl rfl rfl rfl rfl rfl rfl (longs_same s1 s3 (X.fst n).length z1 z3 B (X.bal n) _ w0 w57 hO3 (SrcI.of_row hr1 (k := 2) rfl) (SrcI.of_row hr3 (k := 0) rfl) (by omega)) (fun e59 w60 hp61 => ?_)
       obtain ⟨rfl, hO4⟩ := hp61
       refine ⟨_, rfl, ?_⟩
       refine rl_gv rfl rfl rfl rfl rfl (ov_not rfl rfl) <| rl_v rfl rfl rfl (ov_pick_f rfl rfl rfl) <| rl_v rfl rfl rfl (ov_move rfl rfl) ?_
       first | refine rl_noD 175 rfl (rfl) ?_ | refine rl_no 175 rfl (rfl) ?_
       refine rl_gv rfl rfl rfl rfl rfl (ov_move rfl rfl) <| rl_gv rfl rfl rfl rfl rfl (ov_loadW rfl Try.underlying69 rfl (by kernel_rfl) rfl hO4 3 ((at_app h03))) ?_
       refine rl_gv rfl rfl rfl rfl rfl (ov_move rfl rfl) ?_
       refine rl_gcall callable_37 rfl rfl rfl rfl rfl rfl rfl rfl (rfree_any X K n B N _ w0 w60 hn hG hL hO4 (mem_c1 (memL (mem_c1 (mem_c1 hN2)))) hK) (fun e62 w63 hp64 => ?_)
       obtain ⟨v4, k4, rfl, hr4, hO5⟩ := hp64
       refine ⟨_, rfl, ?_⟩
       obtain ⟨s4, z4, rfl⟩ := hr4.val
       refine rl_gcall callable_25 rfl rfl rfl rfl rfl rfl rfl rfl (longs_same s2 s4 (X.fst n).length z2 z4 B (X.free n) _ w0 w63 hO5 (SrcI.of_row hr2 (k := 2) rfl) (SrcI.of_row hr4 (k := 0) rfl) (by omega)) (fun e65 w66 hp67 => ?_)
       obtain ⟨rfl, hO6⟩ := hp67
       refine ⟨_, rfl, ?_⟩
       refine rl_gv rfl rfl rfl rfl rfl (ov_not rfl rfl) <| rl_v rfl rfl rfl (ov_pick_f rfl rfl rfl) <| rl_nil <| run_cond_f rfl ?_
       have hWz := (WAt.unfr (R := k2 :: k1 :: RR) hO6.tail.tail hKw hPl).drop.drop
       refine run_skip <| run_inBlock <| run_region <| rl_v rfl rfl rfl (ov_move rfl rfl) <| rl_v rfl rfl rfl (ov_add rfl rfl rfl (by omega)) ?_
       refine rl_v rfl rfl rfl (ov_assign rfl rfl) <| rl_nil ?_
       refine Run.use (ih49 _ _ ?_ ?_) (And.intro (by rfl) (And.intro rfl (And.intro rfl trivial)))
       ·first | omega | (dsimp only; omega)
       ·exact ⟨by omega, by omega, hWz⟩
      ·refine run_exit rfl <| run_seq <| run_region <| rl_v rfl rfl rfl (ov_assign rfl rfl) <| rl_nil <| run_ret Try.func41 (res1 Try.results41 rfl) ?_
       exact ⟨rfl, hend _ hWi⟩
theorem perm_sw {α : Type} (M1 M2 Q : List α) : (M1 ++ (M2 ++ Q)).Perm (M2 ++ (M1 ++ Q)) := by
 rw [← List.append_assoc, ← List.append_assoc]
 exact List.Perm.append_right _ List.perm_append_comm
theorem W2.w1 {B : Nat} {w0 w : World} {A1 A2 : WA} {X1 X2 : MW} {R : List (Option Blk)} (h : W2 B w0 w A1 X1 A2 X2 R) : ∃ K2 N, WOk X2 K2 N ∧ WAt B w0 w A1 X1 N (WC.M A2 X2 K2 ++ R) := by
 obtain ⟨K1, K2, N, hO, h1, h2⟩ := h
 refine ⟨K2, N, h2, K1, N, hO.perm (List.Perm.append_left _ ?_), h1, fun x h => h⟩
 rw [← List.append_assoc, ← List.append_assoc]
 exact List.Perm.append_right _ List.perm_append_comm
theorem W2.of1 {B : Nat} {w0 w : World} {A1 A2 : WA} {X1 X2 : MW} {K2 : WC} {N R : List (Option Blk)} (h : WAt B w0 w A1 X1 N (WC.M A2 X2 K2 ++ R)) (h2 : WOk X2 K2 N) : W2 B w0 w A1 X1 A2 X2 R := by
 obtain ⟨K1, N', hO, h1, hPl⟩ := h
 refine ⟨K1, K2, N', hO.perm (List.Perm.append_left _ ?_), h1, h2.mono hPl⟩
 rw [← List.append_assoc, ← List.append_assoc]
 exact List.Perm.append_right _ List.perm_append_comm
theorem W2.swap {B : Nat} {w0 w : World} {A1 A2 : WA} {X1 X2 : MW} {R : List (Option Blk)} (h : W2 B w0 w A1 X1 A2 X2 R) : W2 B w0 w A2 X2 A1 X1 R := by
 obtain ⟨K1, K2, N, hO, h1, h2⟩ := h
 exact ⟨K2, K1, N, hO.perm (perm_sw _ _ _), h2, h1⟩
theorem W2.fr {B : Nat} {w0 w : World} {A1 A2 : WA} {X1 X2 : MW} {R : List (Option Blk)} (h : W2 B w0 w A1 X1 A2 X2 R) : ∃ K1 K2 N, Own B w0 w (R ++ (WC.M A1 X1 K1 ++ (WC.M A2 X2 K2 ++ N))) ∧ WOk X1 K1 N ∧ WOk X2 K2 N := by
 obtain ⟨K1, K2, N, hO, h1, h2⟩ := h
 refine ⟨K1, K2, N, hO.perm ?_, h1, h2⟩
 rw [← List.append_assoc, ← List.append_assoc]
 refine List.perm_append_comm.trans (List.Perm.append_left _ (List.Perm.of_eq ?_))
 simp
theorem W2.unfr {B : Nat} {w0 w : World} {A1 A2 : WA} {X1 X2 : MW} {K1 K2 : WC} {N R : List (Option Blk)} (hO : Own B w0 w (R ++ (WC.M A1 X1 K1 ++ (WC.M A2 X2 K2 ++ N)))) (h1 : WOk X1 K1 N) (h2 : WOk X2 K2 N) : W2 B w0 w A1 X1 A2 X2 R := by
 refine ⟨K1, K2, N, hO.perm ?_, h1, h2⟩
 refine List.perm_append_comm.trans (List.Perm.of_eq ?_)
 simp
theorem W2.own {B : Nat} {w0 w : World} {A1 A2 : WA} {X1 X2 : MW} {R : List (Option Blk)} (h : W2 B w0 w A1 X1 A2 X2 R) : Own B w0 w R := by
 obtain ⟨K1, K2, N, hO, _⟩ := h.fr
 exact hO.sub (List.sublist_append_left R _)
theorem do2 (P : List (Option Blk)) (A : WA) (X : MW) (A2 : WA) (X2 : MW) (K : RK) (kind : Int) (d : Dl) (n kept : Int) (B : Nat) (N R : List (Option Blk)) (w0 w : World) (hk : kept ≤ 9223372036854775807) (hG : Good X) (hL : LInv X) (hb : phi X + 12000000 < 4000000000000) (hK : XIn (N ++ R) X K) (h : W2 B w0 w A X A2 X2 (P ++ (N ++ R))) :
  Calls Try.prog 40 #[ptr A.W, rwv X K, .agg (actl kind d n kept).toArray] w fun e w' => ∃ K' N', e = .returned (.tuple #[rwv (X.step kind d n kept) K', .bool true]) ∧ W2 B w0 w' A (X.step kind d n kept) A2 X2 (P ++ (N' ++ R)) ∧ XIn (N' ++ R) (X.step kind d n kept) K' := by
 obtain ⟨K2, Nw, h2, hW⟩ := h.w1
 rw [← List.append_assoc] at hW
 exact (do_at (WC.M A2 X2 K2 ++ P) A X K kind d n kept B N Nw R w0 w hk hG hL hb hK hW).mono fun e w' ⟨K', N', h3, h4, h5⟩ => ⟨K', N', h3, W2.of1 (by rw [List.append_assoc] at h4; exact h4) h2, h5⟩
theorem shows2 (A : WA) (X : MW) (A2 : WA) (X2 : MW) (K : RK) (B : Nat) (N R : List (Option Blk)) (w0 w : World) (hG : Good X) (hL : LInv X) (hb : X.bag.length ≤ 4000000000000) (hN : ∀ x ∈ N, x ∈ R) (hK : XIn N X K) (h : W2 B w0 w A X A2 X2 R) :
  Calls Try.prog 41 #[ptr A.W, rwv X K] w fun e w' => e = .returned (.bool true) ∧ W2 B w0 w' A X A2 X2 R := by
 obtain ⟨K2, Nw, h2, hW⟩ := h.w1
 exact (showsP_any A X K B N Nw _ w0 w hG hL hb (fun x hx => List.mem_append_right _ (hN x hx)) hK hW).mono fun e w' ⟨h3, h4⟩ => ⟨h3, W2.of1 h4 h2⟩
end Go.Proofs.Yteagflekbbchhaa
