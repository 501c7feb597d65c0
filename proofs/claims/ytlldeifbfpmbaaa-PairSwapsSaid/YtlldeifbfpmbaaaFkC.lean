import Derived.Test.YtlldeifbfpmbaaaFkB
set_option maxRecDepth 100000
namespace Go.Proofs.Ytlldeifbfpmbaaa
open Go.RowKit Go.Proofs Go.MapKept
set_option maxHeartbeats 4000000 in
theorem refCore_any (ga : Option Addr) (n gc : Nat) (L : Int → Nat) (E : Int → Int → Int) (w : World) (hn : n ≤ 64) (hs : SwapOk n L E) (h : ITab w.heap.size w ga n L (fun r c => iv (E r c))) :
  Calls Try.prog 38 #[.agg #[.slice ga n gc]] w fun e w' => ∃ (ob : Nat) (o t : Int → Int), e = .returned (.slice (some ⟨ob, 0, none⟩) n n) ∧ Own w.heap.size w w' [some (vch ob 3 n (fun i => iv (o i)))] ∧ (wishOf n L E).Cert o t := by
 have hL : ∀ i : Int, 0 ≤ i → i < n → L i ≤ 1000000 := fun i i0 i1 => by have := pigeon (hs i i0 i1).1 (hs i i0 i1).2; omega
 have hW := wishOf_ok hs
 obtain ⟨W, hWd⟩ : ∃ W, W = wishOf n L E := ⟨_, rfl⟩
 have hWn : W.n = n := by rw [hWd]; rfl
 rw [← hWd] at hW
 refine calls_of_run (F := [(0, _)]) Try.func38 rfl Try.ntmps38 rfl rfl ?_
 have hO0 := Own.init w
 refine run_seq <| run_region <| rl_ow rfl (ow_box _ rfl rfl rfl rfl rfl hO0) ?_
 rintro _ w1 ⟨b1, rfl, hO2, hs3⟩
 refine rl_v rfl rfl rfl (ov_assign rfl rfl) <| rl_nil <| run_seq <| run_region <| rl_v rfl rfl rfl (ov_fieldS rfl Try.underlying47 rfl (fo := 0) rfl (by kernel_rfl) rfl) ?_
 refine rl_v rfl rfl rfl (ov_load rfl Try.underlying22 rfl rfl (by exact hO2.cellL 0 rfl (off := 0) rfl)) ?_
 refine rl_v rfl rfl rfl (ov_len rfl Try.underlying22 rfl) <| rl_v rfl rfl rfl (ov_assign rfl rfl) <| rl_nil <| run_seq <| run_region <| rl_v rfl rfl rfl (ov_move rfl rfl) ?_
 refine rl_make (n) rfl rfl rfl rfl Try.underlying23 info_3 rfl hO2 rfl rfl (by rfl) (by rfl) ⟨by omega, by omega⟩ (fun ob w4 hO5 hs6 => ?_)
 refine rl_v rfl rfl rfl (ov_assign rfl rfl) <| rl_nil <| run_seq <| run_seq <| run_region <| rl_v rfl rfl rfl (ov_assign rfl rfl) <| rl_nil <| run_block <| Run.keep [1, 3, 4, 5] (F' := [(1, _), (3, _), (4, _), (5, _)]) rfl <| run_loop2 (fun (i : Int) (out : Int → Int) => [(5, .int .i64 i)]) [1, 3, 4] (fun (i : Int) (out : Int → Int) (w7 : World) => 0 ≤ i ∧ i ≤ n ∧ (∀ j : Int, 0 ≤ j → j < i → out j = -1) ∧ Own w.heap.size w w7 [some (vch ob 3 n (fun i => iv (out i))), some (lch b1 47 [.slice ga n gc])]) (fun (i : Int) (out : Int → Int) => ((n : Int) - i).toNat) (0) (fun _ => 0) ?_ (And.intro (by exact slot_int rfl (by first | omega)) (And.intro rfl (And.intro rfl (And.intro rfl trivial)))) ?_
 ·exact ⟨by omega, by omega, fun j j0 j1 => by omega, hO5⟩
 intro i out w7 hIw7 ih8
 obtain ⟨hi0, hi1, hout, hO⟩ := hIw7
 show Run _ _ _ _ [(5, _), (1, _), (3, _), (4, _)] _ _
 refine run_seq <| run_seq <| run_region <| rl_v rfl rfl rfl (ov_move rfl rfl) <| rl_v rfl rfl rfl (ov_move rfl rfl) <| rl_v rfl rfl rfl (ov_lss rfl rfl rfl) <| rl_nil ?_
 first | refine run_cond_dec rfl (fun h1 => ?_) (fun h1 => ?_) | refine run_cond rfl (fun h1 => ?_) (fun h1 => ?_)
 ·refine run_skip <| run_seq <| run_block <| run_region <| rl_v rfl rfl rfl (ov_move rfl rfl) <| rl_v rfl rfl rfl (ov_move rfl rfl) <| rl_v rfl rfl rfl (ov_index1 rfl Try.underlying23 (by kernel_rfl) rfl rfl ⟨by omega, by omega⟩ rfl) ?_
  refine rl_ow rfl (ow_storeI rfl rfl (by kernel_rfl) hO 0 rfl rfl ⟨by omega, by omega⟩ rfl) ?_
  rintro _ w9 ⟨rfl, hO10, hs11⟩
  refine rl_nil <| run_inBlock <| run_region <| rl_v rfl rfl rfl (ov_move rfl rfl) <| rl_v rfl rfl rfl (ov_add rfl rfl rfl (by omega)) ?_
  refine rl_v rfl rfl rfl (ov_assign rfl rfl) <| rl_nil ?_
  refine Run.use (ih8 (i + 1) (upd out i (-1)) _ ?_ ?_) (And.intro (by exact slot_int rfl (by first | omega)) (And.intro rfl (And.intro rfl (And.intro rfl trivial))))
  ·first | omega | (dsimp only; omega)
  ·exact ⟨by omega, by omega, fun j j0 j1 => by by_cases e : j = i; (rw [e, upd_same]); (rw [upd_ne _ _ e]; exact hout j j0 (by omega)), hO10⟩
 ·have hinit := CoreSt.init W hW out fun i i0 i1 => hout i i0 (by omega)
  have hlf : lft out n = n := by
   unfold lft
   rw [sm_congr (g := fun _ => 1) fun i i0 i1 => if_neg (by have := hout i i0 (by omega); omega), sm_const 1 (by omega)]
   omega
  refine run_exit rfl <| run_seq <| run_seq <| run_region <| rl_v rfl rfl rfl (ov_move rfl rfl) <| rl_v rfl rfl rfl (ov_assign rfl rfl) <| rl_nil <| run_block <| Run.keep [1, 3, 4, 6] (F' := [(1, _), (3, _), (4, _), (6, _)]) rfl <| run_loop2 (fun (lf : Int) (out : Int → Int) => [(6, .int .i64 lf)]) [1, 3, 4] (fun (lf : Int) (out : Int → Int) (w12 : World) => lf = lft out n ∧ CoreSt W out ∧ Own w.heap.size w w12 [some (vch ob 3 n (fun i => iv (out i))), some (lch b1 47 [.slice ga n gc])]) (fun (lf : Int) (out : Int → Int) => lf.toNat) (n) (out) ?_ (And.intro (by exact slot_int rfl (by first | omega)) (And.intro rfl (And.intro rfl (And.intro rfl trivial)))) ?_
  ·exact ⟨hlf.symm, hinit, hO⟩
  intro lf out w12 hIw12 ih13
  obtain ⟨hlf, hst, hO⟩ := hIw12
  show Run _ _ _ _ [(6, _), (1, _), (3, _), (4, _)] _ _
  refine run_seq <| run_seq <| run_region <| rl_v rfl rfl rfl (ov_move rfl rfl) <| rl_v rfl rfl rfl (ov_gtr rfl rfl rfl) <| rl_nil ?_
  first | refine run_cond_dec rfl (fun h2 => ?_) (fun h2 => ?_) | refine run_cond rfl (fun h2 => ?_) (fun h2 => ?_)
  ·have hrng := hst.rng
   rw [hWn] at hrng
   refine run_skip <| run_block <| run_seq <| run_region <| rl_v rfl rfl rfl (ov_move rfl rfl) ?_
   refine rl_make (n) rfl rfl rfl rfl Try.underlying23 info_3 rfl hO rfl rfl (by rfl) (by rfl) ⟨by omega, by omega⟩ (fun pb w14 hO15 hs16 => ?_)
   refine rl_v rfl rfl rfl (ov_assign rfl rfl) <| rl_nil <| run_seq <| run_region <| rl_v rfl rfl rfl (ov_assign rfl rfl) <| rl_nil <| run_seq <| run_seq <| run_region <| rl_v rfl rfl rfl (ov_assign rfl rfl) <| rl_nil <| run_block <| Run.keep [1, 3, 4, 6, 7, 8, 9] (F' := [(1, _), (3, _), (4, _), (6, _), (7, _), (8, _), (9, _)]) rfl <| run_loop3 (fun (i : Int) (fi : Int) (P : Int → Int) => [(9, .int .i64 i), (8, .int .i64 fi)]) [1, 3, 4, 6, 7] (fun (i : Int) (fi : Int) (P : Int → Int) (w17 : World) => 0 ≤ i ∧ i ≤ n ∧ (fi = -1 ∧ (∀ j : Int, 0 ≤ j → j < i → 0 ≤ out j) ∨ (0 ≤ fi ∧ fi < n) ∧ out fi < 0) ∧ (∀ j : Int, 0 ≤ j → j < i → out j < 0 → W.Top (gn out) j (P j)) ∧ Own w.heap.size w w17 [some (vch pb 3 n (fun i => iv (P i))), some (vch ob 3 n (fun i => iv (out i))), some (lch b1 47 [.slice ga n gc])]) (fun (i : Int) (fi : Int) (P : Int → Int) => ((n : Int) - i).toNat) (0) (-1) (fun _ => 0) ?_ (And.intro (by exact slot_int rfl (by first | omega)) (And.intro (by exact slot_int rfl (by first | omega)) (And.intro rfl (And.intro rfl (And.intro rfl (And.intro rfl (And.intro rfl trivial))))))) ?_
   ·exact ⟨by omega, by omega, .inl ⟨rfl, fun j j0 j1 => by omega⟩, fun j j0 j1 => by omega, hO15⟩
   intro i fi P w17 hIw17 ih18
   obtain ⟨hi0, hi1, hfi, hP, hO⟩ := hIw17
   show Run _ _ _ _ [(9, _), (8, _), (1, _), (3, _), (4, _), (6, _), (7, _)] _ _
   refine run_seq <| run_seq <| run_region <| rl_v rfl rfl rfl (ov_move rfl rfl) <| rl_v rfl rfl rfl (ov_move rfl rfl) <| rl_v rfl rfl rfl (ov_lss rfl rfl rfl) <| rl_nil ?_
   first | refine run_cond_dec rfl (fun h3 => ?_) (fun h3 => ?_) | refine run_cond rfl (fun h3 => ?_) (fun h3 => ?_)
   ·refine run_skip <| run_seq <| run_block <| run_seq <| run_seq <| run_region <| rl_v rfl rfl rfl (ov_move rfl rfl) <| rl_v rfl rfl rfl (ov_move rfl rfl) <| rl_v rfl rfl rfl (ov_index1 rfl Try.underlying23 (by kernel_rfl) rfl rfl ⟨by omega, by omega⟩ rfl) ?_
    refine rl_v rfl rfl rfl (ov_load rfl Try.underlying3 rfl rfl (by exact hO.cellI 1 rfl _ (by omega) (by omega))) ?_
    refine rl_v rfl rfl rfl (ov_geq rfl rfl rfl) <| rl_nil ?_
    first | refine run_cond_dec rfl (fun h4 => ?_) (fun h4 => ?_) | refine run_cond rfl (fun h4 => ?_) (fun h4 => ?_)
    ·refine run_exit rfl <| run_region <| rl_v rfl rfl rfl (ov_move rfl rfl) <| rl_v rfl rfl rfl (ov_add rfl rfl rfl (by omega)) ?_
     refine rl_v rfl rfl rfl (ov_assign rfl rfl) <| rl_nil ?_
     refine Run.use (ih18 (i + 1) (fi) (P) _ ?_ ?_) (And.intro (by exact slot_int rfl (by first | omega)) (And.intro (by exact slot_int rfl (by first | omega)) (And.intro rfl (And.intro rfl (And.intro rfl (And.intro rfl (And.intro rfl trivial)))))))
     ·first | omega | (dsimp only; omega)
     ·exact ⟨by omega, by omega, hfi.imp (fun h => ⟨h.1, fun j j0 j1 => by by_cases e : j = i; (rw [e]; omega); (exact h.2 j j0 (by omega))⟩) id, fun j j0 j1 hj => by by_cases e : j = i; (rw [e] at hj; omega); (exact hP j j0 (by omega) hj), hO⟩
    ·refine run_skip <| run_seq <| run_seq <| run_region <| rl_v rfl rfl rfl (ov_move rfl rfl) <| rl_v rfl rfl rfl (ov_lss rfl rfl rfl) <| rl_nil <| Run.keep [1, 3, 4, 6, 7, 8, 9, 42] (F' := [(1, _), (3, _), (4, _), (6, _), (7, _), (8, _), (9, _), (42, _)]) rfl <| run_join1 (fun (f2 : Int) => [(8, .int .i64 f2)]) [1, 3, 4, 6, 7, 9] (fun (f2 : Int) (w19 : World) => ((0 ≤ f2 ∧ f2 < n) ∧ out f2 < 0) ∧ Own w.heap.size w w19 [some (vch pb 3 n (fun i => iv (P i))), some (vch ob 3 n (fun i => iv (out i))), some (lch b1 47 [.slice ga n gc])]) (fun hk20 => ?_) ?_
     ·first | refine run_cond_dec rfl (fun h5 => ?_) (fun h5 => ?_) | refine run_cond rfl (fun h5 => ?_) (fun h5 => ?_)
      ·refine run_region <| rl_v rfl rfl rfl (ov_move rfl rfl) <| rl_v rfl rfl rfl (ov_assign rfl rfl) <| rl_nil ?_
       refine Run.use (hk20 (i) _ ?_) (And.intro (by exact slot_int rfl (by first | omega)) (And.intro rfl (And.intro rfl (And.intro rfl (And.intro rfl (And.intro rfl (And.intro rfl trivial)))))))
       exact ⟨⟨⟨by omega, by omega⟩, by omega⟩, hO⟩
      ·refine run_skip ?_
       refine Run.use (hk20 (fi) _ ?_) (And.intro (by exact slot_int rfl (by first | omega)) (And.intro rfl (And.intro rfl (And.intro rfl (And.intro rfl (And.intro rfl (And.intro rfl trivial)))))))
       exact ⟨by omega, hO⟩
     ·intro f2 w19 hJw19
      obtain ⟨hf2, hO2⟩ := hJw19
      show Run _ _ _ _ [(8, _), (1, _), (3, _), (4, _), (6, _), (7, _), (9, _)] _ _
      refine run_seq <| run_region <| rl_v rfl rfl rfl (ov_move rfl rfl) <| rl_v rfl rfl rfl (ov_move rfl rfl) <| rl_v rfl rfl rfl (ov_move rfl rfl) <| rl_v rfl rfl rfl (ov_index1 rfl Try.underlying23 (by kernel_rfl) rfl rfl ⟨by omega, by omega⟩ rfl) ?_
      refine rl_ow rfl (ow_storeI rfl rfl (by kernel_rfl) hO2 0 rfl rfl ⟨by omega, by omega⟩ rfl) ?_
      rintro _ w21 ⟨rfl, hO22, hs23⟩
      refine rl_nil <| run_seq <| run_region <| rl_v rfl rfl rfl (ov_assign rfl rfl) <| rl_nil <| run_block <| Run.keep [1, 3, 4, 6, 7, 8, 9, 10] (F' := [(1, _), (3, _), (4, _), (6, _), (7, _), (8, _), (9, _), (10, _)]) rfl <| run_loop2 (fun (k : Int) (b : Int) => [(10, .int .i64 k)]) [1, 3, 4, 6, 7, 8, 9] (fun (k : Int) (b : Int) (w24 : World) => 0 ≤ k ∧ k ≤ n ∧ (0 ≤ b ∧ b < n) ∧ out b < 0 ∧ lik5 L E i b ≤ lik5 L E i i ∧ (∀ j : Int, 0 ≤ j → j < k → out j < 0 → lik5 L E i b ≤ lik5 L E i j) ∧ Own w.heap.size w w24 [some (vch pb 3 n (fun j => iv (upd P i b j))), some (vch ob 3 n (fun i => iv (out i))), some (lch b1 47 [.slice ga n gc])]) (fun (k : Int) (b : Int) => ((n : Int) - k).toNat) (0) (i) ?_ (And.intro (by exact slot_int rfl (by first | omega)) (And.intro rfl (And.intro rfl (And.intro rfl (And.intro rfl (And.intro rfl (And.intro rfl (And.intro rfl trivial)))))))) ?_
      ·exact ⟨by omega, by omega, ⟨hi0, h3⟩, by omega, Int.le_refl _, fun j j0 j1 => by omega, hO22⟩
      intro k b w24 hIw24 ih25
      obtain ⟨hk0, hk1, hb, hbo, hbl, hbm, hO⟩ := hIw24
      show Run _ _ _ _ [(10, _), (1, _), (3, _), (4, _), (6, _), (7, _), (8, _), (9, _)] _ _
      refine run_seq <| run_seq <| run_region <| rl_v rfl rfl rfl (ov_move rfl rfl) <| rl_v rfl rfl rfl (ov_move rfl rfl) <| rl_v rfl rfl rfl (ov_lss rfl rfl rfl) <| rl_nil ?_
      first | refine run_cond_dec rfl (fun h6 => ?_) (fun h6 => ?_) | refine run_cond rfl (fun h6 => ?_) (fun h6 => ?_)
      ·refine run_skip <| run_seq <| run_block <| run_seq <| run_class (Cl5 w.heap.size w [some (vch pb 3 n (fun j => iv (upd P i b j))), some (vch ob 3 n (fun i => iv (out i))), some (lch b1 47 [.slice ga n gc])]) (⟨hO.drew⟩) mixed (by kernel_rfl) ?_
       refine rk_v rfl rfl rfl (fun wq hQ => ov_move rfl rfl) ?_
       refine rk_v rfl rfl rfl (fun wq hQ => ov_move rfl rfl) ?_
       refine rk_v rfl rfl rfl (fun wq hQ => ov_index1 rfl Try.underlying23 (by kernel_rfl) rfl rfl ⟨by omega, by omega⟩ rfl) ?_
       refine rk_v rfl rfl rfl (fun wq hQ => ov_load rfl Try.underlying3 rfl rfl (by exact (hQ.own).cellI 1 rfl _ (by omega) (by omega))) ?_
       refine rk_v rfl rfl rfl (fun wq hQ => ov_lss rfl rfl rfl) ?_
       refine rk_v rfl rfl rfl (fun wq hQ => ov_move rfl rfl) ?_
       first | refine rk_split_dec 58 rfl (fun g1 => ?_) (fun g1 => ?_) | refine rk_split 58 rfl (fun g1 => ?_) (fun g1 => ?_)
       ·refine rk_gv rfl rfl rfl rfl rfl (fun wq hQ => ov_loadW rfl Try.underlying47 rfl (by kernel_rfl) rfl (hQ.own) 2 rfl) ?_
        refine rk_gv rfl rfl rfl rfl rfl (fun wq hQ => ov_move rfl rfl) ?_
        refine rk_gv rfl rfl rfl rfl rfl (fun wq hQ => ov_move rfl rfl) ?_
        refine rk_gcall callable_33 rfl rfl rfl rfl rfl rfl rfl rfl (fun wq hQ => (refLikes_any ga n gc L E i k _ hL ((h.below (hQ.own).below).mono (hQ.own).size) hi0 h3).mono fun _ _ h => ⟨h.1, ⟨(hQ.own).past h.2⟩⟩) ?_
        refine rk_gv rfl rfl rfl rfl rfl (fun wq hQ => ov_loadW rfl Try.underlying47 rfl (by kernel_rfl) rfl (hQ.own) 2 rfl) ?_
        refine rk_gv rfl rfl rfl rfl rfl (fun wq hQ => ov_move rfl rfl) ?_
        refine rk_gv rfl rfl rfl rfl rfl (fun wq hQ => ov_move rfl rfl) ?_
        refine rk_gv rfl rfl rfl rfl rfl (fun wq hQ => ov_move rfl rfl) ?_
        refine rk_gv rfl rfl rfl rfl rfl (fun wq hQ => ov_index1 rfl Try.underlying23 (by kernel_rfl) rfl rfl ⟨by omega, by omega⟩ rfl) ?_
        refine rk_gv rfl rfl rfl rfl rfl (fun wq hQ => ov_load rfl Try.underlying3 rfl rfl (by exact ((hQ.own).cellI 0 rfl _ (by omega) (by omega)).trans (congrArg (fun x => some (iv x)) (upd_same _ _ _)))) ?_
        refine rk_gcall callable_33 rfl rfl rfl rfl rfl rfl rfl rfl (fun wq hQ => (refLikes_any ga n gc L E i b _ hL ((h.below (hQ.own).below).mono (hQ.own).size) hi0 h3).mono fun _ _ h => ⟨h.1, ⟨(hQ.own).past h.2⟩⟩) ?_
        refine rk_gv rfl rfl rfl rfl rfl (fun wq hQ => ov_lss rfl rfl rfl) ?_
        refine rk_v rfl rfl rfl (fun wq hQ => ov_pick_t rfl rfl rfl) ?_
        refine rk_nil (fun w33 hQ => ?_)
        first | refine run_cond_dec rfl (fun h7 => ?_) (fun h7 => ?_) | refine run_cond rfl (fun h7 => ?_) (fun h7 => ?_)
        ·have h7' : lik5 L E i k < lik5 L E i b := h7
         refine run_region <| rl_v rfl rfl rfl (ov_move rfl rfl) <| rl_v rfl rfl rfl (ov_move rfl rfl) <| rl_v rfl rfl rfl (ov_move rfl rfl) <| rl_v rfl rfl rfl (ov_index1 rfl Try.underlying23 (by kernel_rfl) rfl rfl ⟨by omega, by omega⟩ rfl) ?_
         refine rl_ow rfl (ow_storeI rfl rfl (by kernel_rfl) (hQ.own) 0 rfl rfl ⟨by omega, by omega⟩ rfl) ?_
         rintro _ w34 ⟨rfl, hO35, hs36⟩
         have hOc : Own w.heap.size w w34 [some (vch pb 3 n (fun j => iv (upd P i k j))), some (vch ob 3 n (fun i => iv (out i))), some (lch b1 47 [.slice ga n gc])] := hO35.congrI 0 rfl fun j j0 j1 => by
          by_cases e : j = i
          ·rw [e, upd_same, upd_same]
          ·rw [upd_ne _ _ e, upd_ne _ _ e, upd_ne _ _ e]
         refine rl_nil <| run_inBlock <| run_region <| rl_v rfl rfl rfl (ov_move rfl rfl) <| rl_v rfl rfl rfl (ov_add rfl rfl rfl (by omega)) ?_
         refine rl_v rfl rfl rfl (ov_assign rfl rfl) <| rl_nil ?_
         refine Run.use (ih25 (k + 1) (k) _ ?_ ?_) (And.intro (by exact slot_int rfl (by first | omega)) (And.intro rfl (And.intro rfl (And.intro rfl (And.intro rfl (And.intro rfl (And.intro rfl (And.intro rfl trivial))))))))
         ·first | omega | (dsimp only; omega)
         ·exact ⟨by omega, by omega, ⟨hk0, h6⟩, g1, by omega, fun j j0 j1 hj => by by_cases e : j = k; (rw [e]; exact Int.le_refl _); (have := hbm j j0 (by omega) hj; omega), hOc⟩
        ·have h7' : ¬ lik5 L E i k < lik5 L E i b := h7
         refine run_skip <| run_inBlock <| run_region <| rl_v rfl rfl rfl (ov_move rfl rfl) <| rl_v rfl rfl rfl (ov_add rfl rfl rfl (by omega)) ?_
         refine rl_v rfl rfl rfl (ov_assign rfl rfl) <| rl_nil ?_
         refine Run.use (ih25 (k + 1) (b) _ ?_ ?_) (And.intro (by exact slot_int rfl (by first | omega)) (And.intro rfl (And.intro rfl (And.intro rfl (And.intro rfl (And.intro rfl (And.intro rfl (And.intro rfl trivial))))))))
         ·first | omega | (dsimp only; omega)
         ·exact ⟨by omega, by omega, hb, hbo, hbl, fun j j0 j1 hj => by by_cases e : j = k; (rw [e]; omega); (exact hbm j j0 (by omega) hj), (hQ.own)⟩
       ·refine rk_gskip rfl rfl rfl rfl rfl rfl <| rk_gskip rfl rfl rfl rfl rfl rfl <| rk_gskip rfl rfl rfl rfl rfl rfl <| rk_gskip rfl rfl rfl rfl rfl rfl <| rk_gskip rfl rfl rfl rfl rfl rfl <| rk_gskip rfl rfl rfl rfl rfl rfl <| rk_gskip rfl rfl rfl rfl rfl rfl <| rk_gskip rfl rfl rfl rfl rfl rfl <| rk_gskip rfl rfl rfl rfl rfl rfl <| rk_gskip rfl rfl rfl rfl rfl rfl <| rk_gskip rfl rfl rfl rfl rfl rfl <| rk_gskip rfl rfl rfl rfl rfl rfl <| rk_v rfl rfl rfl (fun wq hQ => ov_pick_f rfl rfl rfl) ?_
        refine rk_nil (fun w37 hQ => ?_)
        refine run_cond_f rfl <| run_skip <| run_inBlock <| run_region <| rl_v rfl rfl rfl (ov_move rfl rfl) <| rl_v rfl rfl rfl (ov_add rfl rfl rfl (by omega)) ?_
        refine rl_v rfl rfl rfl (ov_assign rfl rfl) <| rl_nil ?_
        refine Run.use (ih25 (k + 1) (b) _ ?_ ?_) (And.intro (by exact slot_int rfl (by first | omega)) (And.intro rfl (And.intro rfl (And.intro rfl (And.intro rfl (And.intro rfl (And.intro rfl (And.intro rfl trivial))))))))
        ·first | omega | (dsimp only; omega)
        ·exact ⟨by omega, by omega, hb, hbo, hbl, fun j j0 j1 hj => by by_cases e : j = k; (rw [e] at hj; omega); (exact hbm j j0 (by omega) hj), (hQ.own)⟩
      ·have htop : W.Top (gn out) i b := by rw [hWd]; exact top_of hs hi0 h3 (gn_f.2 hbo) hbl fun j j0 j1 hj => hbm j j0 (by omega) (gn_f.1 hj)
       refine run_exit rfl <| run_inBlock <| run_region <| rl_v rfl rfl rfl (ov_move rfl rfl) <| rl_v rfl rfl rfl (ov_add rfl rfl rfl (by omega)) ?_
       refine rl_v rfl rfl rfl (ov_assign rfl rfl) <| rl_nil ?_
       refine Run.use (ih18 (i + 1) (f2) (upd P i b) _ ?_ ?_) (And.intro (by exact slot_int rfl (by first | omega)) (And.intro (by exact slot_int rfl (by first | omega)) (And.intro rfl (And.intro rfl (And.intro rfl (And.intro rfl (And.intro rfl trivial)))))))
       ·first | omega | (dsimp only; omega)
       ·exact ⟨by omega, by omega, .inr hf2, fun j j0 j1 hj => by by_cases e : j = i; (rw [e, upd_same]; exact htop); (rw [upd_ne _ _ e]; exact hP j j0 (by omega) hj), hO⟩
   ·have hfi2 : (0 ≤ fi ∧ fi < n) ∧ out fi < 0 := hfi.elim (fun h => by have := lft_pos (out := out) (n := n) (fun j j0 j1 => h.2 j j0 (by omega)) (by omega); omega) id
    have hPts : W.Pts (gn out) P := fun j j0 j1 hj => hP j j0 (by omega) (gn_f.1 hj)
    have hfg : gn out fi = false := gn_f.2 hfi2.2
    have hat := hPts.at hW hfi2.1.1 (by omega) hfg
    rw [hWn] at hat
    refine run_exit rfl <| run_seq <| run_region <| rl_v rfl rfl rfl (ov_move rfl rfl) <| rl_v rfl rfl rfl (ov_assign rfl rfl) <| rl_nil <| run_seq <| run_seq <| run_region <| rl_v rfl rfl rfl (ov_assign rfl rfl) <| rl_nil <| run_block <| Run.keep [1, 3, 4, 6, 7, 11, 12] (F' := [(1, _), (3, _), (4, _), (6, _), (7, _), (11, _), (12, _)]) rfl <| run_loop1 (fun (k : Nat) => [(12, .int .i64 (k : Int)), (11, .int .i64 (itr P fi k))]) [1, 3, 4, 6, 7] (fun (k : Nat) (w38 : World) => k ≤ n ∧ Own w.heap.size w w38 [some (vch pb 3 n (fun i => iv (P i))), some (vch ob 3 n (fun i => iv (out i))), some (lch b1 47 [.slice ga n gc])]) (fun (k : Nat) => n - k) (0) ?_ (And.intro (by exact slot_int rfl (by first | omega)) (And.intro (by rfl) (And.intro rfl (And.intro rfl (And.intro rfl (And.intro rfl (And.intro rfl trivial))))))) ?_
    ·exact ⟨by omega, hO⟩
    intro k w38 hIw38 ih39
    obtain ⟨hkn, hO⟩ := hIw38
    show Run _ _ _ _ [(12, _), (11, _), (1, _), (3, _), (4, _), (6, _), (7, _)] _ _
    refine run_seq <| run_seq <| run_region <| rl_v rfl rfl rfl (ov_move rfl rfl) <| rl_v rfl rfl rfl (ov_move rfl rfl) <| rl_v rfl rfl rfl (ov_lss rfl rfl rfl) <| rl_nil ?_
    first | refine run_cond_dec rfl (fun h8 => ?_) (fun h8 => ?_) | refine run_cond rfl (fun h8 => ?_) (fun h8 => ?_)
    ·have hat1 := hat k
     refine run_skip <| run_seq <| run_block <| run_region <| rl_v rfl rfl rfl (ov_move rfl rfl) <| rl_v rfl rfl rfl (ov_move rfl rfl) <| rl_v rfl rfl rfl (ov_index1 rfl Try.underlying23 (by kernel_rfl) rfl rfl ⟨by omega, by omega⟩ rfl) ?_
     refine rl_v rfl rfl rfl (ov_load rfl Try.underlying3 rfl rfl (by exact hO.cellI 0 rfl _ (by omega) (by omega))) ?_
     refine rl_v rfl rfl rfl (ov_assign rfl rfl) <| rl_nil <| run_inBlock <| run_region <| rl_v rfl rfl rfl (ov_move rfl rfl) <| rl_v rfl rfl rfl (ov_add rfl rfl rfl (by omega)) ?_
     refine rl_v rfl rfl rfl (ov_assign rfl rfl) <| rl_nil ?_
     refine Run.use (ih39 (k + 1) _ ?_ ?_) (And.intro (by exact slot_int rfl (by first | omega)) (And.intro (by rfl) (And.intro rfl (And.intro rfl (And.intro rfl (And.intro rfl (And.intro rfl trivial)))))))
     ·first | omega | (dsimp only; omega)
     ·exact ⟨by omega, hO⟩
    ·have hkn2 : k = n := by omega
     obtain ⟨x, hx⟩ : ∃ x, x = itr P fi k := ⟨_, rfl⟩
     rw [← hx]
     have hx1 := hat k
     rw [← hx] at hx1
     obtain ⟨d, hd1, hd⟩ := hPts.back hW hfi2.1.1 (by omega) hfg
     rw [hWn, ← hkn2, ← hx] at hd
     have hatx := hPts.at hW hx1.1.1 (by omega) hx1.2
     rw [hWn] at hatx
     refine run_exit rfl <| run_block <| Run.keep [1, 3, 4, 6, 7, 11] (F' := [(1, _), (3, _), (4, _), (6, _), (7, _), (11, _)]) rfl <| run_loop3 (fun (J : Nat) (lf2 : Int) (out2 : Int → Int) => [(6, .int .i64 lf2), (11, .int .i64 (itr P x J))]) [1, 3, 4, 7] (fun (J : Nat) (lf2 : Int) (out2 : Int → Int) (w40 : World) => J ≤ n ∧ (lf2 = lf - J ∧ lf2 = lft out2 n) ∧ (∀ i j : Nat, i < J → j < J → itr P x i = itr P x j → i = j) ∧ (∀ j : Nat, j < J → out2 (itr P x j) = itr P x (j + 1)) ∧ (∀ i : Int, (∀ j : Nat, j < J → itr P x j ≠ i) → out2 i = out i) ∧ Own w.heap.size w w40 [some (vch pb 3 n (fun i => iv (P i))), some (vch ob 3 n (fun i => iv (out2 i))), some (lch b1 47 [.slice ga n gc])]) (fun (J : Nat) (lf2 : Int) (out2 : Int → Int) => n - J) (0) (lf) (out) ?_ (And.intro (by exact slot_int rfl (by first | omega)) (And.intro (by rfl) (And.intro rfl (And.intro rfl (And.intro rfl (And.intro rfl trivial)))))) ?_
     ·exact ⟨by omega, ⟨by omega, hlf⟩, fun i j h => by omega, fun j h => by omega, fun i _ => rfl, hO⟩
     intro J lf2 out2 w40 hIw40 ih41
     obtain ⟨hJn, hlf2, hdis, ho1, ho2, hO⟩ := hIw40
     show Run _ _ _ _ [(6, _), (11, _), (1, _), (3, _), (4, _), (7, _)] _ _
     have hatJ := hatx J
     have hatJ1 := hatx (J + 1)
     refine run_seq <| run_seq <| run_region <| rl_v rfl rfl rfl (ov_move rfl rfl) <| rl_v rfl rfl rfl (ov_move rfl rfl) <| rl_v rfl rfl rfl (ov_index1 rfl Try.underlying23 (by kernel_rfl) rfl rfl ⟨by omega, by omega⟩ rfl) ?_
     refine rl_v rfl rfl rfl (ov_load rfl Try.underlying3 rfl rfl (by exact hO.cellI 1 rfl _ (by omega) (by omega))) ?_
     refine rl_v rfl rfl rfl (ov_lss rfl rfl rfl) <| rl_nil ?_
     first | refine run_cond_dec rfl (fun h9 => ?_) (fun h9 => ?_) | refine run_cond rfl (fun h9 => ?_) (fun h9 => ?_)
     ·have hnew : ∀ j : Nat, j < J → itr P x j ≠ itr P x J := fun j hj e => by
       have h1 := ho1 j hj
       rw [e] at h1
       have h2 := (hatx (j + 1)).1.1
       omega
      have hdis2 : ∀ i j : Nat, i < J + 1 → j < J + 1 → itr P x i = itr P x j → i = j := fun i j hi hj e => by
       by_cases c : i = J <;> by_cases c2 : j = J
       ·omega
       ·rw [c] at e; exact absurd e.symm (hnew j (by omega))
       ·rw [c2] at e; exact absurd e (hnew i (by omega))
       ·exact hdis i j (by omega) (by omega) e
      have hJ1 : J + 1 ≤ n := pigeon (n := J + 1) (m := n) (e := fun k => itr P x k.toNat) (fun k _ _ => (hatx k.toNat).1) fun a b a0 a1 b0 b1 e => by have := hdis2 a.toNat b.toNat (by omega) (by omega) e; omega
      have hlu := lft_upd (out := out2) (n := n) (a := itr P x J) (v := P (itr P x J)) hatJ.1.1 hatJ.1.2 h9 hatJ1.1.1
      have hl0 := lft_nonneg out2 n
      have hl1 := lft_le (out := out2) (n := n) (by omega)
      have hlfn := lft_nonneg (upd out2 (itr P x J) (P (itr P x J))) n
      refine run_skip <| run_block <| run_seq <| run_region <| rl_v rfl rfl rfl (ov_move rfl rfl) <| rl_v rfl rfl rfl (ov_move rfl rfl) <| rl_v rfl rfl rfl (ov_move rfl rfl) <| rl_v rfl rfl rfl (ov_move rfl rfl) <| rl_v rfl rfl rfl (ov_index1 rfl Try.underlying23 (by kernel_rfl) rfl rfl ⟨by omega, by omega⟩ rfl) ?_
      refine rl_v rfl rfl rfl (ov_load rfl Try.underlying3 rfl rfl (by exact hO.cellI 0 rfl _ (by omega) (by omega))) ?_
      refine rl_v rfl rfl rfl (ov_index1 rfl Try.underlying23 (by kernel_rfl) rfl rfl ⟨by omega, by omega⟩ rfl) ?_
      refine rl_ow rfl (ow_storeI rfl rfl (by kernel_rfl) hO 1 rfl rfl ⟨by omega, by omega⟩ rfl) ?_
      rintro _ w42 ⟨rfl, hO43, hs44⟩
      have ho1' : ∀ j : Nat, j < J + 1 → upd out2 (itr P x J) (P (itr P x J)) (itr P x j) = itr P x (j + 1) := fun j hj => by
       by_cases c : j = J
       ·rw [c, upd_same]; rfl
       ·rw [upd_ne _ _ (hnew j (by omega))]; exact ho1 j (by omega)
      have ho2' : ∀ i : Int, (∀ j : Nat, j < J + 1 → itr P x j ≠ i) → upd out2 (itr P x J) (P (itr P x J)) i = out i := fun i hi => by
       rw [upd_ne _ _ (fun e => hi J (by omega) e.symm)]
       exact ho2 i fun j hj => hi j (by omega)
      refine rl_nil <| run_seq <| run_region <| rl_v rfl rfl rfl (ov_move rfl rfl) <| rl_v rfl rfl rfl (ov_sub rfl rfl rfl (by omega)) ?_
      refine rl_v rfl rfl rfl (ov_assign rfl rfl) <| rl_nil <| run_region <| rl_v rfl rfl rfl (ov_move rfl rfl) <| rl_v rfl rfl rfl (ov_move rfl rfl) <| rl_v rfl rfl rfl (ov_index1 rfl Try.underlying23 (by kernel_rfl) rfl rfl ⟨by omega, by omega⟩ rfl) ?_
      refine rl_v rfl rfl rfl (ov_load rfl Try.underlying3 rfl rfl (by exact hO43.cellI 0 rfl _ (by omega) (by omega))) ?_
      refine rl_v rfl rfl rfl (ov_assign rfl rfl) <| rl_nil <| run_inBlock ?_
      refine Run.use (ih41 (J + 1) (lf2 - 1) (upd out2 (itr P x J) (P (itr P x J))) _ ?_ ?_) (And.intro (by exact slot_int rfl (by first | omega)) (And.intro (by rfl) (And.intro rfl (And.intro rfl (And.intro rfl (And.intro rfl trivial))))))
      ·first | omega | (dsimp only; omega)
      ·exact ⟨hJ1, ⟨by omega, by omega⟩, hdis2, ho1', ho2', hO43⟩
     ·have hex : ∃ a : Nat, a < J ∧ itr P x J = itr P x a := Classical.byContradiction fun hno => by
       have h1 := ho2 (itr P x J) fun j hj e => hno ⟨j, hj, e.symm⟩
       have h2 := gn_f.1 hatJ.2
       omega
      obtain ⟨a, haJ, hJa⟩ := hex
      have ha0 := Wish.back_zero hd1 hd haJ hJa hdis
      have hR := hPts.ring hW hx1.1.1 (by omega) hx1.2 hd1 hd haJ hJa hdis
      have hJx : itr P x J = x := by rw [hJa, ha0]; rfl
      have hst2 := hst.ring hW hR hJx ho1 ho2
      have hlf0 := lft_nonneg out2 n
      refine run_exit rfl <| run_inBlock ?_
      refine Run.use (ih13 (lf2) (out2) _ ?_ ?_) (And.intro (by exact slot_int rfl (by first | omega)) (And.intro rfl (And.intro rfl (And.intro rfl trivial))))
      ·first | omega | (dsimp only; omega)
      ·exact ⟨hlf2.2, hst2, hO.tail⟩
  ·have hall := lft_zero (out := out) (n := n) (by omega)
   obtain ⟨o, t, hC, ho⟩ := hst.cert fun i i0 i1 => hall i i0 (by omega)
   rw [hWd] at hC
   refine run_exit rfl <| run_seq <| run_region <| rl_v rfl rfl rfl (ov_move rfl rfl) <| rl_v rfl rfl rfl (ov_assign rfl rfl) <| rl_nil <| run_ret Try.func38 (res1 Try.results38 rfl) ?_
   exact ⟨ob, o, t, rfl, (hO.congrI 0 rfl fun i i0 i1 => congrArg iv (ho i i0 (by omega))).sub (.cons_cons _ (List.nil_sublist _)), hC⟩
end Go.Proofs.Ytlldeifbfpmbaaa
