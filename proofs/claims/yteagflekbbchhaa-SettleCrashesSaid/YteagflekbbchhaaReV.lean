import Derived.Test.YteagflekbbchhaaReU
set_option maxRecDepth 100000
namespace Go.Proofs.Yteagflekbbchhaa
open Go.RowKit Go.Proofs
theorem perm_5 {α : Type} (N : List α) (a b x c : α) : (N ++ [a, b, x, c]).Perm (x :: ((N ++ [a, b]) ++ [c])) :=
 (List.Perm.of_eq (by simp)).trans (List.perm_middle (l₁ := N ++ [a, b]) (l₂ := [c]))
theorem wstateW (A : WA) (X : MW) (d : Int) (B : Nat) (Pl R : List (Option Blk)) (w0 w : World) (h : WAt B w0 w A X Pl R) :
  Calls Try.prog 34 #[ptr A.W, iv d] w fun e w' => e = .returned (iv (wst X d)) ∧ WAt B w0 w' A X Pl R := wstate_any A X d B Pl R w0 w h
theorem rstateW (X : MW) (K : RK) (d : Int) (B : Nat) (N H : List (Option Blk)) (w0 w : World) (hd : 1 ≤ d ∧ d ≤ X.deals.length) (hdn : X.deals.length ≤ 1000) (hO : Own B w0 w H) (hN : ∀ x ∈ N, x ∈ H) (hK : XIn N X K) :
  Calls Try.prog 35 #[rwv X K, iv d] w fun e w' => e = .returned (iv (wst X d)) ∧ Own B w0 w' H := rstate_any X K d B N H w0 w hd hdn hO hN hK
set_option maxHeartbeats 1600000 in
theorem settleCrashes_any (m p : Int) (a1 a2 lo : Option Addr) (n1 n2 c1 c2 ln lc : Nat) (G1 G2 : Int → Int) (S : Acts) (of : Int → Int) (w : World) (h1 : IAt w.heap.size w a1 n1 (fun i => iv (G1 i))) (h2 : IAt w.heap.size w a2 n2 (fun i => iv (G2 i))) (hl : SAt w.heap.size w lo 7 ln S.l) (hkp : ∀ i, S.kept i ≤ 9223372036854775807) :
  Calls Try.prog 6 #[.agg #[iv m, iv p, .slice a1 n1 c1, .slice a2 n2 c2], .slice lo ln lc, arrv 2 (fun i => iv (of i))] w fun e w' => e = .returned (.bool true) ∧ Below w.heap.size w w' := by
 refine calls_of_run (F := [(0, _), (1, _), (2, _)]) Try.func6 rfl Try.ntmps6 rfl rfl <| run_seq <| run_region <| rl_ow rfl (ow_box _ rfl rfl rfl rfl rfl (Own.init w)) ?_
 rintro _ w1 ⟨b3, rfl, hO2, hs3⟩
 refine rl_ow rfl (ow_boxA rfl rfl rfl rfl hO2) ?_
 rintro _ w4 ⟨b5, rfl, hO5, hs6⟩
 refine rl_v rfl rfl rfl (ov_assign rfl rfl) <| rl_nil <| run_seq <| run_region <| rl_v rfl rfl rfl (ov_loadW rfl Try.underlying24 rfl (by kernel_rfl) rfl hO5 1 rfl) ?_
 refine rl_call callable_13 rfl rfl rfl rfl rfl rfl (tame_any m p a1 a2 n1 n2 c1 c2 G1 G2 w.heap.size _ w w4 h1 h2 hO5) (fun e7 w8 hp9 => ?_)
 obtain ⟨mem, pat, f1, f2, v1, v2, k1, k2, rfl, hm, hp, hR1, hR2, ⟨hl1, hl2⟩, hf1, hf2, hOt⟩ := hp9
 refine ⟨_, rfl, ?_⟩
 obtain ⟨s1, z1, rfl⟩ := hR1.val
 obtain ⟨s2, z2, rfl⟩ := hR2.val
 refine rl_v rfl rfl rfl (ov_move rfl rfl) ?_
 refine rl_call callable_28 rfl rfl rfl rfl rfl rfl (run_any Inv step_inv mem pat f1 f2 s1 s2 lo z1 z2 ln lc w.heap.size 40 S k1 k2 _ w w8 (Inv.init _ _ _ _) (by omega) hm (by omega) hl1 hl2 hf1 hf2 hR1 hR2 (by simp) (by simp) hl hkp hOt) (fun e10 w11 hp12 => ?_)
 obtain ⟨A, X, K, N, rfl, ⟨hX, hI⟩, hW, hK⟩ := hp12
 refine ⟨_, rfl, ?_⟩
 have hG := hX.good
 have hL := hX.linv
 have hdn := hG.dn
 have hph := hX.phi
 have hbg : X.bag.length + 5000 < 4000000000000 := by unfold phi at hph; omega
 obtain ⟨R6, hR6⟩ : ∃ R6, R6 = (N ++ [k1, k2]) ++ [some (lch b3 24 [iv m, iv p, .slice a1 n1 c1, .slice a2 n2 c2])] := ⟨_, rfl⟩
 have hK6 : XIn (some (vch b5 61 2 (fun i => iv (of i))) :: R6) X K := hK.mono fun x hx => by rw [hR6]; exact (perm_5 N k1 k2 _ _).mem_iff.1 hx
 have hW6 : WAt w.heap.size w w11 A X [] (some (vch b5 61 2 (fun i => iv (of i))) :: R6) := by rw [hR6]; exact hW.pm (perm_5 N k1 k2 _ _)
 clear hR6
 obtain ⟨Kw, Nw, hO, hKw, hPl⟩ := hW6.fr
 refine rl_v rfl rfl rfl (ov_move rfl rfl) <| rl_v rfl rfl rfl (ov_extract rfl rfl (by rfl)) ?_
 refine rl_v rfl rfl rfl (ov_extract rfl rfl (by rfl)) ?_
 refine rl_ow rfl (ow_alloc _ rfl rfl rfl zero_69 rfl hO) ?_
 rintro _ w13 ⟨b8, rfl, hO14, hs15⟩
 refine rl_v rfl rfl rfl (ov_assign rfl rfl) <| rl_ow rfl (ow_storeW rfl rfl (by kernel_rfl) hO14 0 rfl rfl (by rfl) rfl (by rfl)) ?_
 rintro _ w16 ⟨rfl, hO17, hs18⟩
 have hW8 := WAt.unfr (R := some (lch b8 69 (rwl X K)) :: some (vch b5 61 2 (fun i => iv (of i))) :: R6) hO17 hKw hPl
 refine rl_nil <| run_seq <| run_seq <| run_region <| rl_v rfl rfl rfl (ov_move rfl rfl) <| rl_v rfl rfl rfl (ov_ptrnil rfl Try.underlying27 rfl) <| rl_nil <| run_cond_f rfl ?_
 have hq3 := mod_u (of 0) 3 (by decide)
 refine run_skip <| run_seq <| run_region <| rl_v rfl rfl rfl (ov_indexA1 rfl Try.underlying61 (by kernel_rfl) rfl rfl ⟨by omega, by omega⟩) ?_
 refine rl_v rfl rfl rfl (ov_load rfl Try.underlying3 rfl rfl (by exact hO17.cellI 1 rfl 0 (by decide) (by decide))) ?_
 refine rl_v rfl rfl rfl (ov_conv rfl Try.underlying3 Try.underlying36 rfl) <| rl_v rfl rfl rfl (ov_rem rfl rfl rfl (wrap_u64_nonneg _) (by omega)) ?_
 refine rl_v rfl rfl rfl (ov_conv rfl Try.underlying36 Try.underlying3 rfl) <| rl_v rfl rfl rfl (ov_assign rfl rfl) <| rl_nil <| run_seq <| run_seq ?_
 generalize IntKind.i64.wrap (IntKind.u64.wrap (of 0) % 3) = n at *
 have hn3 : N3 n := by unfold N3; omega
 refine run_quiet mixed (by kernel_rfl) ?_
 refine rq_v rfl rfl rfl (fun _ => ov_move rfl rfl) ?_
 refine rq_v rfl rfl rfl (fun _ => ov_fieldS rfl Try.underlying69 rfl (fo := 7) rfl (by kernel_rfl) rfl) ?_
 refine rq_v rfl rfl rfl (fun _ => ov_indexA rfl Try.underlying67 (by kernel_rfl) (s := 5) rfl rfl ⟨by omega, by omega⟩) ?_
 refine rq_v rfl rfl rfl (fun _ => ov_fieldS rfl Try.underlying66 rfl (fo := 2) rfl (by kernel_rfl) rfl) ?_
 refine rq_v rfl rfl rfl (fun _ => ov_load rfl Try.underlying4 rfl rfl (by show World.cell? w16 _ = _; first | exact hO17.cellL 0 rfl ((rw_node X K hn3 2 (by omega)).trans rfl))) ?_
 refine rq_v rfl rfl rfl (fun _ => ov_move rfl rfl) ?_
 first | refine rq_split_dec 36 rfl (fun s1 => ?_) (fun s1 => ?_) | refine rq_split 36 rfl (fun s1 => ?_) (fun s1 => ?_)
 ·refine rq_gskip rfl rfl rfl rfl rfl rfl <| rq_gskip rfl rfl rfl rfl rfl rfl <| rq_gskip rfl rfl rfl rfl rfl rfl <| rq_gskip rfl rfl rfl rfl rfl rfl <| rq_gskip rfl rfl rfl rfl rfl rfl <| rq_gskip rfl rfl rfl rfl rfl rfl <| rq_gskip rfl rfl rfl rfl rfl rfl <| rq_gskip rfl rfl rfl rfl rfl rfl <| rq_gskip rfl rfl rfl rfl rfl rfl <| rq_gskip rfl rfl rfl rfl rfl rfl <| rq_gskip rfl rfl rfl rfl rfl rfl <| rq_gskip rfl rfl rfl rfl rfl rfl <| rq_v rfl rfl rfl (fun _ => ov_pick_t rfl rfl rfl) ?_
  refine rq_nil (fun n20 => ?_)
  have hO22 := hO17.drewN n20
  generalize World.drewN w16 n20 = w21 at hO22 ⊢
  refine run_cond_t rfl <| run_seq <| run_region ?_
  refine rl_call callable_20 rfl rfl rfl rfl rfl rfl (awake_any w.heap.size _ w w21 hO22) (fun e23 w24 hp25 => ?_)
  obtain ⟨rfl, hOe⟩ := hp25
  refine ⟨_, rfl, ?_⟩
  refine rl_v rfl rfl rfl (ov_assign rfl rfl) <| rl_nil <| run_ret Try.func6 (res1 Try.results6 rfl) ?_
  exact ⟨rfl, hOe.below⟩
 ·refine rq_gv rfl rfl rfl rfl rfl (fun _ => ov_move rfl rfl) ?_
  refine rq_gv rfl rfl rfl rfl rfl (fun _ => ov_fieldS rfl Try.underlying69 rfl (fo := 7) rfl (by kernel_rfl) rfl) ?_
  refine rq_gv rfl rfl rfl rfl rfl (fun _ => ov_indexA rfl Try.underlying67 (by kernel_rfl) (s := 5) rfl rfl ⟨by omega, by omega⟩) ?_
  refine rq_gv rfl rfl rfl rfl rfl (fun _ => ov_fieldS rfl Try.underlying66 rfl (fo := 0) rfl (by kernel_rfl) rfl) ?_
  refine rq_gv rfl rfl rfl rfl rfl (fun _ => ov_load rfl Try.underlying64 rfl rfl (by show World.cell? w16 _ = _; first | exact hO17.cellL 0 rfl ((rw_node X K hn3 0 (by omega)).trans rfl))) ?_
  refine rq_gv rfl rfl rfl rfl rfl (fun _ => ov_len rfl Try.underlying64 rfl) ?_
  refine rq_gv rfl rfl rfl rfl rfl (fun _ => ov_move rfl rfl) ?_
  refine rq_gv rfl rfl rfl rfl rfl (fun _ => ov_fieldS rfl Try.underlying69 rfl (fo := 7) rfl (by kernel_rfl) rfl) ?_
  refine rq_gv rfl rfl rfl rfl rfl (fun _ => ov_indexA rfl Try.underlying67 (by kernel_rfl) (s := 5) rfl rfl ⟨by omega, by omega⟩) ?_
  refine rq_gv rfl rfl rfl rfl rfl (fun _ => ov_fieldS rfl Try.underlying66 rfl (fo := 1) rfl (by kernel_rfl) rfl) ?_
  refine rq_gv rfl rfl rfl rfl rfl (fun _ => ov_load rfl Try.underlying3 rfl rfl (by show World.cell? w16 _ = _; first | exact hO17.cellL 0 rfl ((rw_node X K hn3 1 (by omega)).trans rfl))) ?_
  refine rq_gv rfl rfl rfl rfl rfl (fun _ => ov_neq rfl rfl rfl) ?_
  refine rq_v rfl rfl rfl (fun _ => ov_pick_f rfl rfl rfl) ?_
  refine rq_nil (fun n26 => ?_)
  have hO28 := hO17.drewN n26
  generalize World.drewN w16 n26 = w27 at hO28 ⊢
  first | refine run_cond_dec rfl (fun y1 => ?_) (fun y2 => ?_) | refine run_cond rfl (fun y1 => ?_) (fun y2 => ?_)
  ·refine run_seq <| run_region ?_
   refine rl_call callable_20 rfl rfl rfl rfl rfl rfl (awake_any w.heap.size _ w w27 hO28) (fun e29 w30 hp31 => ?_)
   obtain ⟨rfl, hOe⟩ := hp31
   refine ⟨_, rfl, ?_⟩
   refine rl_v rfl rfl rfl (ov_assign rfl rfl) <| rl_nil <| run_ret Try.func6 (res1 Try.results6 rfl) ?_
   exact ⟨rfl, hOe.below⟩
  ·have hq5 := mod_u (of 1) 5 (by decide)
   refine run_skip <| run_seq <| run_seq <| run_region <| rl_v rfl rfl rfl (ov_move rfl rfl) <| rl_v rfl rfl rfl (ov_move rfl rfl) <| rl_v rfl rfl rfl (ov_indexA1 rfl Try.underlying61 (by kernel_rfl) rfl rfl ⟨by omega, by omega⟩) ?_
   refine rl_v rfl rfl rfl (ov_load rfl Try.underlying3 rfl rfl (by exact hO28.cellI 1 rfl 1 (by decide) (by decide))) ?_
   refine rl_v rfl rfl rfl (ov_conv rfl Try.underlying3 Try.underlying36 rfl) <| rl_v rfl rfl rfl (ov_rem rfl rfl rfl (wrap_u64_nonneg _) (by omega)) ?_
   refine rl_v rfl rfl rfl (ov_conv rfl Try.underlying36 Try.underlying3 rfl) ?_
   generalize IntKind.i64.wrap (IntKind.u64.wrap (of 1) % 5) = k at *
   have hZ : Whole X n k := ⟨hn3, s1, by omega, hq5.1⟩
   refine rl_call callable_29 rfl rfl rfl rfl rfl rfl (crashZ hZ (by omega) hG (WAt.unfr (R := _ :: _ :: R6) hO28 hKw hPl)) (fun e32 w33 hp34 => ?_)
   obtain ⟨rfl, hW9⟩ := hp34
   refine ⟨_, rfl, ?_⟩
   refine rl_v rfl rfl rfl (ov_neq rfl rfl rfl) <| rl_v rfl rfl rfl (ov_move rfl rfl) ?_
   first | refine rl_noD 60 rfl (fun h => h rfl) ?_ | refine rl_no 60 rfl (fun h => h rfl) ?_
   refine rl_gv rfl rfl rfl rfl rfl (ov_move rfl rfl) <| rl_gv rfl rfl rfl rfl rfl (ov_move rfl rfl) ?_
   refine rl_gcall callable_30 rfl rfl rfl rfl rfl rfl rfl rfl (upZ hZ hW9) (fun e35 w36 hp37 => ?_)
   obtain ⟨rfl, hW10⟩ := hp37
   refine ⟨_, rfl, ?_⟩
   refine rl_v rfl rfl rfl (ov_pick_f rfl rfl rfl) <| rl_v rfl rfl rfl (ov_move rfl rfl) ?_
   first | refine rl_noD 65 rfl (rfl) ?_ | refine rl_no 65 rfl (rfl) ?_
   refine rl_gv rfl rfl rfl rfl rfl (ov_move rfl rfl) <| rl_gv rfl rfl rfl rfl rfl (ov_move rfl rfl) ?_
   refine rl_gcall callable_31 rfl rfl rfl rfl rfl rfl rfl rfl (tickZ hZ hG hbg hW10) (fun e38 w39 hp40 => ?_)
   obtain ⟨rfl, hW11⟩ := hp40
   refine ⟨_, rfl, ?_⟩
   refine rl_gv rfl rfl rfl rfl rfl (ov_neq rfl rfl rfl) <| rl_v rfl rfl rfl (ov_pick_f rfl rfl rfl) <| rl_v rfl rfl rfl (ov_move rfl rfl) ?_
   first | refine rl_noD 71 rfl (fun h => h rfl) ?_ | refine rl_no 71 rfl (fun h => h rfl) ?_
   refine rl_gv rfl rfl rfl rfl rfl (ov_move rfl rfl) <| rl_gv rfl rfl rfl rfl rfl (ov_move rfl rfl) ?_
   refine rl_gcall callable_29 rfl rfl rfl rfl rfl rfl rfl rfl (crashY hZ hG hW11) (fun e41 w42 hp43 => ?_)
   obtain ⟨rfl, hW12⟩ := hp43
   refine ⟨_, rfl, ?_⟩
   refine rl_gv rfl rfl rfl rfl rfl (ov_neq rfl rfl rfl) <| rl_v rfl rfl rfl (ov_pick_f rfl rfl rfl) <| rl_v rfl rfl rfl (ov_move rfl rfl) ?_
   first | refine rl_noD 77 rfl (fun h => h rfl) ?_ | refine rl_no 77 rfl (fun h => h rfl) ?_
   refine rl_gv rfl rfl rfl rfl rfl (ov_move rfl rfl) <| rl_gv rfl rfl rfl rfl rfl (ov_move rfl rfl) ?_
   refine rl_gcall callable_32 rfl rfl rfl rfl rfl rfl rfl rfl (restartZ hZ hG hW12) (fun e44 w45 hp46 => ?_)
   obtain ⟨rfl, hW13⟩ := hp46
   refine ⟨_, rfl, ?_⟩
   refine rl_gv rfl rfl rfl rfl rfl (ov_neq rfl rfl rfl) <| rl_v rfl rfl rfl (ov_pick_f rfl rfl rfl) <| rl_v rfl rfl rfl (ov_move rfl rfl) ?_
   first | refine rl_noD 83 rfl (fun h => h rfl) ?_ | refine rl_no 83 rfl (fun h => h rfl) ?_
   refine rl_gv rfl rfl rfl rfl rfl (ov_move rfl rfl) <| rl_gv rfl rfl rfl rfl rfl (ov_move rfl rfl) ?_
   refine rl_gcall callable_30 rfl rfl rfl rfl rfl rfl rfl rfl (upY hZ hW13) (fun e47 w48 hp49 => ?_)
   obtain ⟨rfl, hW14⟩ := hp49
   refine ⟨_, rfl, ?_⟩
   refine rl_gv rfl rfl rfl rfl rfl (ov_not rfl rfl) <| rl_v rfl rfl rfl (ov_pick_f rfl rfl rfl) <| rl_v rfl rfl rfl (ov_move rfl rfl) ?_
   first | refine rl_noD 89 rfl (rfl) ?_ | refine rl_no 89 rfl (rfl) ?_
   refine rl_gv rfl rfl rfl rfl rfl (ov_move rfl rfl) <| rl_gv rfl rfl rfl rfl rfl (ov_move rfl rfl) ?_
   refine rl_gcall callable_32 rfl rfl rfl rfl rfl rfl rfl rfl (restartY hZ hG hW14) (fun e50 w51 hp52 => ?_)
   obtain ⟨rfl, hW15⟩ := hp52
   refine ⟨_, rfl, ?_⟩
   refine rl_gv rfl rfl rfl rfl rfl (ov_neq rfl rfl rfl) <| rl_v rfl rfl rfl (ov_pick_f rfl rfl rfl) <| rl_nil ?_
   first | refine run_cond_dec rfl (fun bad => ?_) (fun ok => ?_) | refine run_cond rfl (fun bad => ?_) (fun ok => ?_)
   ·exfalso; exact bad rfl
   ·have hGY := (hG.crash hn3 k).restart hn3
    have hst := fun m hm d => hZ.st (m := m) hm d
    have hbal := fun m hm => hZ.bal (m := m) hm
    have hfree := fun m hm => hZ.free (m := m) hm
    have hfst := hZ.fst
    have hbag := hZ.bag
    have hw0 := hZ.wst_ne
    have hw1 := fun h d => (hZ.wst_0 h hI hG d).1
    have hw2 := fun h d => (hZ.wst_0 h hI hG d).2
    generalize (X.crash n k).restart n = Y at *
    refine run_skip <| run_seq <| run_seq <| run_region <| rl_v rfl rfl rfl (ov_assign rfl rfl) <| rl_nil <| run_block <| Run.keep [7, 8, 9, 10] (F' := [(7, _), (8, _), (9, _), (10, _)]) rfl <| run_loop1 (fun (d : Int) => [(10, .int .i64 d)]) [7, 8, 9] (fun (d : Int) (w53 : World) => 1 ≤ d ∧ d ≤ X.deals.length + 1 ∧ WAt w.heap.size w w53 A Y [] (some (lch b8 69 (rwl X K)) :: some (vch b5 61 2 (fun i => iv (of i))) :: R6)) (fun (d : Int) => ((X.deals.length : Int) + 1 - d).toNat) (1) ?_ (And.intro (by exact slot_int rfl (by first | omega)) (And.intro rfl (And.intro rfl (And.intro rfl trivial)))) ?_
    ·exact ⟨by omega, by omega, hW15⟩
    intro d w53 hIw53 ih54
    obtain ⟨hd0, hd1, hWi⟩ := hIw53
    show Run _ _ _ _ [(10, _), (7, _), (8, _), (9, _)] _ _
    refine run_seq <| run_seq <| run_region <| rl_v rfl rfl rfl (ov_move rfl rfl) <| rl_v rfl rfl rfl (ov_fieldS rfl Try.underlying69 rfl (fo := 4) rfl (by kernel_rfl) rfl) ?_
    refine rl_v rfl rfl rfl (ov_load rfl Try.underlying25 rfl rfl (by exact (hWi.own).cellL 0 rfl rfl)) ?_
    refine rl_v rfl rfl rfl (ov_len rfl Try.underlying25 rfl) <| rl_v rfl rfl rfl (ov_leq rfl rfl rfl) <| rl_nil ?_
    first | refine run_cond_dec rfl (fun hq => ?_) (fun hq => ?_) | refine run_cond rfl (fun hq => ?_) (fun hq => ?_)
    ·refine run_skip <| run_seq <| run_block <| run_seq <| run_seq <| run_class (fun w' => WAt w.heap.size w w' A Y [] (some (lch b8 69 (rwl X K)) :: some (vch b5 61 2 (fun i => iv (of i))) :: R6)) (hWi.drewW) mixed (by kernel_rfl) ?_
     refine rk_v rfl rfl rfl (fun wq hQ => ov_move rfl rfl) ?_
     refine rk_v rfl rfl rfl (fun wq hQ => ov_move rfl rfl) ?_
     refine rk_call callable_19 rfl rfl rfl rfl rfl rfl (fun wq hQ => at_any A Y 1 d w.heap.size [] _ w wq (.inl rfl) hGY hQ) ?_
     refine rk_v rfl rfl rfl (fun wq hQ => ov_loadW rfl Try.underlying69 rfl (by kernel_rfl) rfl (hQ.own) 0 rfl) ?_
     refine rk_v rfl rfl rfl (fun wq hQ => ov_move rfl rfl) ?_
     refine rk_call callable_33 rfl rfl rfl rfl rfl rfl (fun wq hQ => hQ.call fun H hO hR => rat3 (.inl rfl) hG hL hO (fun x hx => hR x (List.mem_cons_of_mem _ hx)) hK6) ?_
     refine rk_v rfl rfl rfl (fun wq hQ => ov_neq rfl rfl rfl) ?_
     refine rk_v rfl rfl rfl (fun wq hQ => ov_move rfl rfl) ?_
     first | refine rk_noD 109 rfl (fun h => h (hst 1 (.inl rfl) d)) ?_ | refine rk_no 109 rfl (fun h => h (hst 1 (.inl rfl) d)) ?_
     refine rk_gv rfl rfl rfl rfl rfl (fun wq hQ => ov_move rfl rfl) ?_
     refine rk_gv rfl rfl rfl rfl rfl (fun wq hQ => ov_move rfl rfl) ?_
     refine rk_gcall callable_19 rfl rfl rfl rfl rfl rfl rfl rfl (fun wq hQ => at_any A Y 2 d w.heap.size [] _ w wq (.inr rfl) hGY hQ) ?_
     refine rk_gv rfl rfl rfl rfl rfl (fun wq hQ => ov_loadW rfl Try.underlying69 rfl (by kernel_rfl) rfl (hQ.own) 0 rfl) ?_
     refine rk_gv rfl rfl rfl rfl rfl (fun wq hQ => ov_move rfl rfl) ?_
     refine rk_gcall callable_33 rfl rfl rfl rfl rfl rfl rfl rfl (fun wq hQ => hQ.call fun H hO hR => rat3 (.inr rfl) hG hL hO (fun x hx => hR x (List.mem_cons_of_mem _ hx)) hK6) ?_
     refine rk_gv rfl rfl rfl rfl rfl (fun wq hQ => ov_neq rfl rfl rfl) ?_
     refine rk_v rfl rfl rfl (fun wq hQ => ov_pick_f rfl rfl rfl) ?_
     refine rk_nil (fun w67 hWj => ?_)
     first | refine run_cond_dec rfl (fun bad => ?_) (fun ok => ?_) | refine run_cond rfl (fun bad => ?_) (fun ok => ?_)
     ·exfalso; exact bad (hst 2 (.inr rfl) d)
     ·refine run_skip <| run_seq <| run_region <| rl_v rfl rfl rfl (ov_move rfl rfl) <| rl_v rfl rfl rfl (ov_move rfl rfl) ?_
      refine rl_call callable_34 rfl rfl rfl rfl rfl rfl (wstateW A Y d w.heap.size [] _ w w67 hWj) (fun e68 w69 hp70 => ?_)
      obtain ⟨rfl, hWk⟩ := hp70
      refine ⟨_, rfl, ?_⟩
      replace hw0 := fun h => hw0 h d
      replace hw1 := fun h => hw1 h d
      replace hw2 := fun h => hw2 h d
      refine rl_v rfl rfl rfl (ov_assign rfl rfl) <| rl_nil <| run_seq <| run_region <| rl_v rfl rfl rfl (ov_move rfl rfl) <| rl_v rfl rfl rfl (ov_neq rfl rfl rfl) <| rl_v rfl rfl rfl (ov_move rfl rfl) ?_
      first | refine rl_split_dec 123 rfl (fun z1 => ?_) (fun z1 => ?_) | refine rl_split 123 rfl (fun z1 => ?_) (fun z1 => ?_)
      ·refine rl_gv rfl rfl rfl rfl rfl (ov_move rfl rfl) <| rl_gv rfl rfl rfl rfl rfl (ov_loadW rfl Try.underlying69 rfl (by kernel_rfl) rfl (hWk.own) 0 rfl) ?_
       refine rl_gv rfl rfl rfl rfl rfl (ov_move rfl rfl) ?_
       refine rl_gcall callable_35 rfl rfl rfl rfl rfl rfl rfl rfl (hWk.call (fun H hO hR => rstateW X K d w.heap.size _ H w w69 ⟨by omega, by omega⟩ hdn hO (fun x hx => hR x (List.mem_cons_of_mem _ hx)) hK6)) (fun e72 w73 hp74 => ?_)
       obtain ⟨rfl, hWl⟩ := hp74
       refine ⟨_, rfl, ?_⟩
       refine rl_gv rfl rfl rfl rfl rfl (ov_neq rfl rfl rfl) <| rl_v rfl rfl rfl (ov_pick_t rfl rfl rfl) <| rl_v rfl rfl rfl (ov_move rfl rfl) ?_
       first | refine rl_noD 130 rfl (fun h => h (hw0 z1)) ?_ | refine rl_no 130 rfl (fun h => h (hw0 z1)) ?_
       refine rl_gv rfl rfl rfl rfl rfl (ov_move rfl rfl) <| rl_gv rfl rfl rfl rfl rfl (ov_eql rfl rfl rfl) <| rl_gv rfl rfl rfl rfl rfl (ov_move rfl rfl) ?_
       first | refine rl_noD 133 rfl (z1) ?_ | refine rl_no 133 rfl (z1) ?_
       refine rl_gskip rfl rfl rfl rfl rfl rfl <| rl_gskip rfl rfl rfl rfl rfl rfl <| rl_gv rfl rfl rfl rfl rfl (ov_pick_f rfl rfl rfl) <| rl_gv rfl rfl rfl rfl rfl (ov_move rfl rfl) <| rl_gskip rfl rfl rfl rfl rfl rfl <| rl_gskip rfl rfl rfl rfl rfl rfl <| rl_gv rfl rfl rfl rfl rfl (ov_pick_f rfl rfl rfl) <| rl_v rfl rfl rfl (ov_pick_f rfl rfl rfl) <| rl_v rfl rfl rfl (ov_move rfl rfl) <| rl_gv rfl rfl rfl rfl rfl (ov_move rfl rfl) <| rl_gv rfl rfl rfl rfl rfl (ov_eql rfl rfl rfl) <| rl_gv rfl rfl rfl rfl rfl (ov_move rfl rfl) ?_
       first | refine rl_noD 145 rfl (z1) ?_ | refine rl_no 145 rfl (z1) ?_
       refine rl_gskip rfl rfl rfl rfl rfl rfl <| rl_gskip rfl rfl rfl rfl rfl rfl <| rl_gskip rfl rfl rfl rfl rfl rfl <| rl_gskip rfl rfl rfl rfl rfl rfl <| rl_gv rfl rfl rfl rfl rfl (ov_pick_f rfl rfl rfl) <| rl_gv rfl rfl rfl rfl rfl (ov_move rfl rfl) <| rl_gskip rfl rfl rfl rfl rfl rfl <| rl_gskip rfl rfl rfl rfl rfl rfl <| rl_gv rfl rfl rfl rfl rfl (ov_pick_f rfl rfl rfl) <| rl_v rfl rfl rfl (ov_pick_f rfl rfl rfl) <| rl_nil <| run_cond_f rfl <| run_skip <| run_inBlock <| run_region <| rl_v rfl rfl rfl (ov_move rfl rfl) <| rl_v rfl rfl rfl (ov_add rfl rfl rfl (by omega)) ?_
       refine rl_v rfl rfl rfl (ov_assign rfl rfl) <| rl_nil ?_
       refine Run.use (ih54 _ _ ?_ ?_) (And.intro (by rfl) (And.intro rfl (And.intro rfl (And.intro rfl trivial))))
       ·first | omega | (dsimp only; omega)
       ·exact ⟨by omega, by omega, hWl⟩
      ·refine rl_gskip rfl rfl rfl rfl rfl rfl <| rl_gskip rfl rfl rfl rfl rfl rfl <| rl_gskip rfl rfl rfl rfl rfl rfl <| rl_gskip rfl rfl rfl rfl rfl rfl <| rl_gskip rfl rfl rfl rfl rfl rfl <| rl_v rfl rfl rfl (ov_pick_f rfl rfl rfl) <| rl_v rfl rfl rfl (ov_move rfl rfl) <| rl_gv rfl rfl rfl rfl rfl (ov_move rfl rfl) <| rl_gv rfl rfl rfl rfl rfl (ov_eql rfl rfl rfl) <| rl_gv rfl rfl rfl rfl rfl (ov_move rfl rfl) ?_
       first | refine rl_yesD 133 rfl (by omega) ?_ | refine rl_yes 133 rfl (by omega) ?_
       refine rl_gv rfl rfl rfl rfl rfl (ov_move rfl rfl) <| rl_gv rfl rfl rfl rfl rfl (ov_neq rfl rfl rfl) <| rl_gv rfl rfl rfl rfl rfl (ov_pick_t rfl rfl rfl) <| rl_gv rfl rfl rfl rfl rfl (ov_move rfl rfl) ?_
       first | refine rl_split_dec 137 rfl (fun hg75 => ?_) (fun hg75 => ?_) | refine rl_split 137 rfl (fun hg75 => ?_) (fun hg75 => ?_)
       ·refine rl_gv rfl rfl rfl rfl rfl (ov_move rfl rfl) <| rl_gv rfl rfl rfl rfl rfl (ov_neq rfl rfl rfl) <| rl_gv rfl rfl rfl rfl rfl (ov_pick_t rfl rfl rfl) <| rl_v rfl rfl rfl (ov_pick_f rfl rfl rfl) <| rl_v rfl rfl rfl (ov_move rfl rfl) ?_
        first | refine rl_noD 142 rfl (fun h => by have := hw1 (by omega); omega) ?_ | refine rl_no 142 rfl (fun h => by have := hw1 (by omega); omega) ?_
        refine rl_gv rfl rfl rfl rfl rfl (ov_move rfl rfl) <| rl_gv rfl rfl rfl rfl rfl (ov_eql rfl rfl rfl) <| rl_gv rfl rfl rfl rfl rfl (ov_move rfl rfl) ?_
        first | refine rl_yesD 145 rfl (by omega) ?_ | refine rl_yes 145 rfl (by omega) ?_
        refine rl_gv rfl rfl rfl rfl rfl (ov_loadW rfl Try.underlying69 rfl (by kernel_rfl) rfl (hWk.own) 0 rfl) ?_
        refine rl_gv rfl rfl rfl rfl rfl (ov_move rfl rfl) ?_
        refine rl_gcall callable_35 rfl rfl rfl rfl rfl rfl rfl rfl (hWk.call (fun H hO hR => rstateW X K d w.heap.size _ H w w69 ⟨by omega, by omega⟩ hdn hO (fun x hx => hR x (List.mem_cons_of_mem _ hx)) hK6)) (fun e76 w77 hp78 => ?_)
        obtain ⟨rfl, hWl⟩ := hp78
        refine ⟨_, rfl, ?_⟩
        refine rl_gv rfl rfl rfl rfl rfl (ov_eql rfl rfl rfl) <| rl_gv rfl rfl rfl rfl rfl (ov_pick_t rfl rfl rfl) <| rl_gv rfl rfl rfl rfl rfl (ov_move rfl rfl) ?_
        first | refine rl_split_dec 151 rfl (fun hg79 => ?_) (fun hg79 => ?_) | refine rl_split 151 rfl (fun hg79 => ?_) (fun hg79 => ?_)
        ·refine rl_gv rfl rfl rfl rfl rfl (ov_move rfl rfl) <| rl_gv rfl rfl rfl rfl rfl (ov_neq rfl rfl rfl) <| rl_gv rfl rfl rfl rfl rfl (ov_pick_t rfl rfl rfl) <| rl_v rfl rfl rfl (ov_pick_f rfl rfl rfl) <| rl_nil ?_
         first | refine run_cond_dec rfl (fun bad => ?_) (fun ok => ?_) | refine run_cond rfl (fun bad => ?_) (fun ok => ?_)
         ·exfalso; exact bad (hw2 (by omega) (by omega))
         ·refine run_skip <| run_inBlock <| run_region <| rl_v rfl rfl rfl (ov_move rfl rfl) <| rl_v rfl rfl rfl (ov_add rfl rfl rfl (by omega)) ?_
          refine rl_v rfl rfl rfl (ov_assign rfl rfl) <| rl_nil ?_
          refine Run.use (ih54 _ _ ?_ ?_) (And.intro (by rfl) (And.intro rfl (And.intro rfl (And.intro rfl trivial))))
          ·first | omega | (dsimp only; omega)
          ·exact ⟨by omega, by omega, hWl⟩
        ·refine rl_gskip rfl rfl rfl rfl rfl rfl <| rl_gskip rfl rfl rfl rfl rfl rfl <| rl_gv rfl rfl rfl rfl rfl (ov_pick_f rfl rfl rfl) <| rl_v rfl rfl rfl (ov_pick_f rfl rfl rfl) <| rl_nil <| run_cond_f rfl <| run_skip <| run_inBlock <| run_region <| rl_v rfl rfl rfl (ov_move rfl rfl) <| rl_v rfl rfl rfl (ov_add rfl rfl rfl (by omega)) ?_
         refine rl_v rfl rfl rfl (ov_assign rfl rfl) <| rl_nil ?_
         refine Run.use (ih54 _ _ ?_ ?_) (And.intro (by rfl) (And.intro rfl (And.intro rfl (And.intro rfl trivial))))
         ·first | omega | (dsimp only; omega)
         ·exact ⟨by omega, by omega, hWl⟩
       ·refine rl_gskip rfl rfl rfl rfl rfl rfl <| rl_gskip rfl rfl rfl rfl rfl rfl <| rl_gv rfl rfl rfl rfl rfl (ov_pick_f rfl rfl rfl) <| rl_v rfl rfl rfl (ov_pick_f rfl rfl rfl) <| rl_v rfl rfl rfl (ov_move rfl rfl) <| rl_gv rfl rfl rfl rfl rfl (ov_move rfl rfl) <| rl_gv rfl rfl rfl rfl rfl (ov_eql rfl rfl rfl) <| rl_gv rfl rfl rfl rfl rfl (ov_move rfl rfl) ?_
        first | refine rl_yesD 145 rfl (by omega) ?_ | refine rl_yes 145 rfl (by omega) ?_
        refine rl_gv rfl rfl rfl rfl rfl (ov_loadW rfl Try.underlying69 rfl (by kernel_rfl) rfl (hWk.own) 0 rfl) ?_
        refine rl_gv rfl rfl rfl rfl rfl (ov_move rfl rfl) ?_
        refine rl_gcall callable_35 rfl rfl rfl rfl rfl rfl rfl rfl (hWk.call (fun H hO hR => rstateW X K d w.heap.size _ H w w69 ⟨by omega, by omega⟩ hdn hO (fun x hx => hR x (List.mem_cons_of_mem _ hx)) hK6)) (fun e80 w81 hp82 => ?_)
        obtain ⟨rfl, hWl⟩ := hp82
        refine ⟨_, rfl, ?_⟩
        refine rl_gv rfl rfl rfl rfl rfl (ov_eql rfl rfl rfl) <| rl_gv rfl rfl rfl rfl rfl (ov_pick_t rfl rfl rfl) <| rl_gv rfl rfl rfl rfl rfl (ov_move rfl rfl) ?_
        first | refine rl_split_dec 151 rfl (fun hg83 => ?_) (fun hg83 => ?_) | refine rl_split 151 rfl (fun hg83 => ?_) (fun hg83 => ?_)
        ·refine rl_gv rfl rfl rfl rfl rfl (ov_move rfl rfl) <| rl_gv rfl rfl rfl rfl rfl (ov_neq rfl rfl rfl) <| rl_gv rfl rfl rfl rfl rfl (ov_pick_t rfl rfl rfl) <| rl_v rfl rfl rfl (ov_pick_f rfl rfl rfl) <| rl_nil ?_
         first | refine run_cond_dec rfl (fun bad => ?_) (fun ok => ?_) | refine run_cond rfl (fun bad => ?_) (fun ok => ?_)
         ·exfalso; exact bad (hw2 (by omega) (by omega))
         ·refine run_skip <| run_inBlock <| run_region <| rl_v rfl rfl rfl (ov_move rfl rfl) <| rl_v rfl rfl rfl (ov_add rfl rfl rfl (by omega)) ?_
          refine rl_v rfl rfl rfl (ov_assign rfl rfl) <| rl_nil ?_
          refine Run.use (ih54 _ _ ?_ ?_) (And.intro (by rfl) (And.intro rfl (And.intro rfl (And.intro rfl trivial))))
          ·first | omega | (dsimp only; omega)
          ·exact ⟨by omega, by omega, hWl⟩
        ·refine rl_gskip rfl rfl rfl rfl rfl rfl <| rl_gskip rfl rfl rfl rfl rfl rfl <| rl_gv rfl rfl rfl rfl rfl (ov_pick_f rfl rfl rfl) <| rl_v rfl rfl rfl (ov_pick_f rfl rfl rfl) <| rl_nil <| run_cond_f rfl <| run_skip <| run_inBlock <| run_region <| rl_v rfl rfl rfl (ov_move rfl rfl) <| rl_v rfl rfl rfl (ov_add rfl rfl rfl (by omega)) ?_
         refine rl_v rfl rfl rfl (ov_assign rfl rfl) <| rl_nil ?_
         refine Run.use (ih54 _ _ ?_ ?_) (And.intro (by rfl) (And.intro rfl (And.intro rfl (And.intro rfl trivial))))
         ·first | omega | (dsimp only; omega)
         ·exact ⟨by omega, by omega, hWl⟩
    ·refine run_exit rfl <| run_seq <| run_seq <| run_region <| rl_v rfl rfl rfl (ov_assign rfl rfl) <| rl_nil <| run_block <| Run.keep [7, 8, 12] (F' := [(7, _), (8, _), (12, _)]) rfl <| run_loop1 (fun (q : Int) => [(12, .int .i64 q)]) [7, 8] (fun (q : Int) (w84 : World) => 1 ≤ q ∧ q ≤ 3 ∧ WAt w.heap.size w w84 A Y [] (some (lch b8 69 (rwl X K)) :: some (vch b5 61 2 (fun i => iv (of i))) :: R6)) (fun (q : Int) => (3 - q).toNat) (1) ?_ (And.intro (by exact slot_int rfl (by first | omega)) (And.intro rfl (And.intro rfl trivial))) ?_
     ·exact ⟨by omega, by omega, hWi⟩
     intro q w84 hIw84 ih85
     obtain ⟨hn0, hn1, hWi⟩ := hIw84
     show Run _ _ _ _ [(12, _), (7, _), (8, _)] _ _
     refine run_seq <| run_seq <| run_region <| rl_v rfl rfl rfl (ov_move rfl rfl) <| rl_v rfl rfl rfl (ov_lss rfl rfl rfl) <| rl_nil ?_
     first | refine run_cond_dec rfl (fun hq => ?_) (fun hq => ?_) | refine run_cond rfl (fun hq => ?_) (fun hq => ?_)
     ·have hn : q = 1 ∨ q = 2 := by omega
      have hfl := hG.fl q hn
      have hmm := hG.mem
      refine run_skip <| run_seq <| run_block <| run_seq <| run_region <| rl_v rfl rfl rfl (ov_move rfl rfl) <| rl_v rfl rfl rfl (ov_move rfl rfl) ?_
      refine rl_call callable_24 rfl rfl rfl rfl rfl rfl (balances_any A Y q w.heap.size [] _ w w84 hn hGY hWi) (fun e86 w87 hp88 => ?_)
      obtain ⟨x1, j1, rfl, hr1, hWa⟩ := hp88
      refine ⟨_, rfl, ?_⟩
      refine rl_v rfl rfl rfl (ov_move rfl rfl) <| rl_v rfl rfl rfl (ov_extract rfl rfl (by rfl)) ?_
      refine rl_v rfl rfl rfl (ov_extract rfl rfl (by rfl)) ?_
      refine rl_v rfl rfl rfl (ov_assign rfl rfl) <| rl_v rfl rfl rfl (ov_assign rfl rfl) <| rl_nil <| run_seq <| run_region <| rl_v rfl rfl rfl (ov_move rfl rfl) <| rl_v rfl rfl rfl (ov_move rfl rfl) ?_
      refine rl_call callable_16 rfl rfl rfl rfl rfl rfl (free_any A Y q w.heap.size [] _ w w87 hn hGY hWa) (fun e89 w90 hp91 => ?_)
      obtain ⟨x2, j2, rfl, hr2, hWb⟩ := hp91
      refine ⟨_, rfl, ?_⟩
      rw [hfst, hbal q hn] at hr1
      rw [hfst, hfree q hn] at hr2
      obtain ⟨t1, y1, rfl⟩ := hr1.val
      obtain ⟨t2, y2, rfl⟩ := hr2.val
      obtain ⟨Kw, Nw, hO, hKw, hPl⟩ := hWb.fr
      refine rl_v rfl rfl rfl (ov_move rfl rfl) <| rl_v rfl rfl rfl (ov_extract rfl rfl (by rfl)) ?_
      refine rl_v rfl rfl rfl (ov_extract rfl rfl (by rfl)) ?_
      refine rl_v rfl rfl rfl (ov_assign rfl rfl) <| rl_v rfl rfl rfl (ov_assign rfl rfl) <| rl_nil <| run_seq <| run_region <| rl_v rfl rfl rfl (ov_move rfl rfl) <| rl_v rfl rfl rfl (ov_neq rfl rfl rfl) <| rl_v rfl rfl rfl (ov_move rfl rfl) ?_
      first | refine rl_noD 174 rfl (fun h => h rfl) ?_ | refine rl_no 174 rfl (fun h => h rfl) ?_
      refine rl_gv rfl rfl rfl rfl rfl (ov_move rfl rfl) <| rl_gv rfl rfl rfl rfl rfl (ov_neq rfl rfl rfl) <| rl_v rfl rfl rfl (ov_pick_f rfl rfl rfl) <| rl_v rfl rfl rfl (ov_move rfl rfl) ?_
      first | refine rl_noD 178 rfl (fun h => h rfl) ?_ | refine rl_no 178 rfl (fun h => h rfl) ?_
      refine rl_gv rfl rfl rfl rfl rfl (ov_move rfl rfl) <| rl_gv rfl rfl rfl rfl rfl (ov_loadW rfl Try.underlying69 rfl (by kernel_rfl) rfl hO 2 rfl) ?_
      refine rl_gv rfl rfl rfl rfl rfl (ov_move rfl rfl) ?_
      refine rl_gcall callable_36 rfl rfl rfl rfl rfl rfl rfl rfl (rbal_any X K q w.heap.size _ _ w w90 hn hG hL hO (memL (mem_c1 (mem_c1 (mem_c1 (fun x h => h))))) hK6) (fun e92 w93 hp94 => ?_)
      obtain ⟨x3, j3, rfl, hr3, hO3⟩ := hp94
      refine ⟨_, rfl, ?_⟩
      obtain ⟨t3, y3, rfl⟩ := hr3.val
      refine rl_gcall callable_25 rfl rfl rfl rfl rfl rfl rfl rfl (longs_same t1 t3 (X.fst q).length y1 y3 w.heap.size (X.bal q) _ w w93 hO3 (SrcI.of_row hr1 (k := 2) rfl) (SrcI.of_row hr3 (k := 0) rfl) (by omega)) (fun e95 w96 hp97 => ?_)
      obtain ⟨rfl, hO4⟩ := hp97
      refine ⟨_, rfl, ?_⟩
      refine rl_gv rfl rfl rfl rfl rfl (ov_not rfl rfl) <| rl_v rfl rfl rfl (ov_pick_f rfl rfl rfl) <| rl_v rfl rfl rfl (ov_move rfl rfl) ?_
      first | refine rl_noD 186 rfl (rfl) ?_ | refine rl_no 186 rfl (rfl) ?_
      refine rl_gv rfl rfl rfl rfl rfl (ov_move rfl rfl) <| rl_gv rfl rfl rfl rfl rfl (ov_loadW rfl Try.underlying69 rfl (by kernel_rfl) rfl hO4 3 rfl) ?_
      refine rl_gv rfl rfl rfl rfl rfl (ov_move rfl rfl) ?_
      refine rl_gcall callable_37 rfl rfl rfl rfl rfl rfl rfl rfl (rfree_any X K q w.heap.size _ _ w w96 hn hG hL hO4 (mem_c1 (memL (mem_c1 (mem_c1 (mem_c1 (fun x h => h)))))) hK6) (fun e98 w99 hp100 => ?_)
      obtain ⟨x4, j4, rfl, hr4, hO5⟩ := hp100
      refine ⟨_, rfl, ?_⟩
      obtain ⟨t4, y4, rfl⟩ := hr4.val
      refine rl_gcall callable_25 rfl rfl rfl rfl rfl rfl rfl rfl (longs_same t2 t4 (X.fst q).length y2 y4 w.heap.size (X.free q) _ w w99 hO5 (SrcI.of_row hr2 (k := 2) rfl) (SrcI.of_row hr4 (k := 0) rfl) (by omega)) (fun e101 w102 hp103 => ?_)
      obtain ⟨rfl, hO6⟩ := hp103
      refine ⟨_, rfl, ?_⟩
      refine rl_gv rfl rfl rfl rfl rfl (ov_not rfl rfl) <| rl_v rfl rfl rfl (ov_pick_f rfl rfl rfl) <| rl_nil <| run_cond_f rfl ?_
      have hWz := (WAt.unfr (R := _ :: _ :: _ :: _ :: R6) hO6.tail.tail hKw hPl).drop.drop
      refine run_skip <| run_inBlock <| run_region <| rl_v rfl rfl rfl (ov_move rfl rfl) <| rl_v rfl rfl rfl (ov_add rfl rfl rfl (by omega)) ?_
      refine rl_v rfl rfl rfl (ov_assign rfl rfl) <| rl_nil ?_
      refine Run.use (ih85 _ _ ?_ ?_) (And.intro (by rfl) (And.intro rfl (And.intro rfl trivial)))
      ·first | omega | (dsimp only; omega)
      ·exact ⟨by omega, by omega, hWz⟩
     ·obtain ⟨Kw, Nw, hO, hKw, hPl⟩ := hWi.fr
      refine run_exit rfl <| run_seq <| run_held (fun w' => Own w.heap.size w w' ([some (lch b8 69 (rwl X K))])) mixed ?_
      have hO105 := hO.drew
      generalize World.drew w84 = w104 at hO105 ⊢
      have hS106 : Own w.heap.size w w104 ([some (lch b8 69 (rwl X K))]) := by first | exact hO105.sub (.cons_cons _ (List.nil_sublist _)) | exact hO105.sub (.cons _ (.cons_cons _ (List.nil_sublist _)))
      refine rh_v 0 rfl (by kernel_rfl) rfl rfl rfl hS106 (fun _ hS => ov_move rfl rfl) ?_
      refine rh_v 3 rfl (by kernel_rfl) rfl rfl rfl hS106 (fun _ hS => ov_fieldS rfl Try.underlying69 rfl (fo := 6) rfl (by kernel_rfl) rfl) ?_
      refine rh_v 4 rfl (by kernel_rfl) rfl rfl rfl hS106 (fun _ hS => ov_load rfl Try.underlying63 rfl rfl (by exact hS.cellL 0 rfl rfl)) ?_
      refine rh_v 5 rfl (by kernel_rfl) rfl rfl rfl hS106 (fun _ hS => ov_len rfl Try.underlying63 rfl) ?_
      refine rh_any1 1 (by kernel_rfl) ?_
      refine rc_op rfl rfl (ow_call2 callable_38 rfl rfl rfl rfl rfl (bag_any A Y w.heap.size [] _ w w104 (by rw [hbag]; omega) (WAt.unfr (R := _ :: _ :: R6) hO105 hKw hPl)) (by intro e w' hp; obtain ⟨vb, cb, rfl, hrB, hWb⟩ := hp; exact ⟨_, rfl⟩)) ?_
      rintro _ w109 ⟨_, v107, he110, rfl, hp108⟩
      obtain ⟨vb, cb, rfl, hrB, hWb⟩ := hp108
      injection he110 with he110; subst he110
      obtain ⟨ab, pb, rfl⟩ := hrB.val
      obtain ⟨Kx, Nx, hOx, hKx, hPx⟩ := hWb.fr
      have hS111 : Own w.heap.size w w109 ([some (lch b8 69 (rwl X K))]) := by first | exact hOx.sub (.cons_cons _ (List.nil_sublist _)) | exact hOx.sub (.cons _ (.cons_cons _ (List.nil_sublist _)))
      refine ⟨hS111, ?_⟩
      refine rh_v 2 rfl (by kernel_rfl) rfl rfl rfl hS111 (fun _ hS => ov_len rfl Try.underlying79 rfl) ?_
      refine rh_v 6 rfl (by kernel_rfl) rfl rfl rfl hS111 (fun _ hS => ov_eql rfl rfl rfl) ?_
      refine rh_v 7 rfl (by kernel_rfl) rfl rfl rfl hS111 (fun _ hS => ov_move rfl rfl) ?_
      refine rh_any1 8 (by kernel_rfl) ?_
      first | refine rc_yesD 201 rfl (by rw [hbag]) ?_ | refine rc_yes 201 rfl (by rw [hbag]) ?_
      refine rc_gop rfl rfl rfl rfl (ow_call2 callable_20 rfl rfl rfl rfl rfl ((WAt.unfr (R := _ :: _ :: _ :: R6) hOx hKx hPx).call (fun H hO _ => awake_any w.heap.size H w w109 hO)) (by intro e w' hp; obtain ⟨rfl, hWz⟩ := hp; exact ⟨_, rfl⟩)) ?_
      rintro _ w114 ⟨_, v112, he115, rfl, hp113⟩
      obtain ⟨rfl, hWz⟩ := hp113
      injection he115 with he115; subst he115
      have hS116 : Own w.heap.size w w114 ([some (lch b8 69 (rwl X K))]) := by first | exact (hWz.own).sub (.cons_cons _ (List.nil_sublist _)) | exact (hWz.own).sub (.cons _ (.cons_cons _ (List.nil_sublist _)))
      refine ⟨hS116, ?_⟩
      refine rh_v 9 rfl (by kernel_rfl) rfl rfl rfl hS116 (fun _ hS => ov_pick_t rfl rfl rfl) ?_
      refine rh_v 10 rfl (by kernel_rfl) rfl rfl rfl hS116 (fun _ hS => ov_assign rfl rfl) ?_
      refine rh_done (by kernel_rfl) ?_
      refine run_ret Try.func6 (res1 Try.results6 rfl) ?_
      exact ⟨rfl, (hWz.own).below⟩
end Go.Proofs.Yteagflekbbchhaa
