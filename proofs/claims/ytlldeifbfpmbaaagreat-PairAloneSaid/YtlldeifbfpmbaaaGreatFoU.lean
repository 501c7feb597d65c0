import Derived.Test.YtlldeifbfpmbaaaGreatFoT
set_option maxRecDepth 100000
namespace Go.Proofs.YtlldeifbfpmbaaaGreat
open Go.RowKit Go.Proofs Go.MapKept
theorem row_addr {W : List (Option Blk)} {ao : Option Addr} {n : Nat} {X : Int → Int} (h : ∀ {B : Nat} {w0 w : World}, Own B w0 w W → IAt w.heap.size w ao n (fun c => iv (X c))) {B : Nat} {w0 w : World} (hO : Own B w0 w W) (hn : 0 < n) :
  ∃ b off, ao = some ⟨b, off, none⟩ ∧ ∀ {B : Nat} {w0 w : World}, Own B w0 w W → ∀ i : Int, 0 ≤ i → i < n → w.cell? ⟨b, off + i.toNat, none⟩ = some (iv (X i)) := by
 obtain ⟨b, off, e, _⟩ := (h hO).open
 have e1 := e hn
 refine ⟨b, off, e1, fun {B' w0' w'} hO' i i0 i1 => ?_⟩
 obtain ⟨b', off', e', r⟩ := (h hO').open
 have e2 := e' hn
 rw [e1] at e2
 cases e2
 exact r _ (Below.refl _ _) i i0 i1
theorem Fair.AllTo.pos {f : Fair} {N : Nat} {A : Nat → Int → Int} (hf : f.Ok) (h : f.AllTo N A ((0 + 1) * (f.m + 1) ^ f.n)) : 0 < N := by
 obtain ⟨l, hl⟩ := Fair.Best.exists hf
 obtain ⟨j, hj, _⟩ := h.all l hl.stab (by rw [Nat.zero_add, Nat.one_mul]; exact val_pow (Nat.le_refl _) hl.stab.dig)
 omega
set_option maxHeartbeats 8000000 in
theorem alone5_any (ga ba qa : Option Addr) (n gc m bc nq qc : Nat) (GL BL : Int → Nat) (GE BE : Int → Int → Int) (q : Int → Int) (w : World)
  (hG : RTab w.heap.size w ga n GL GE) (hB : RTab w.heap.size w ba m BL BE) (hQ : IAt w.heap.size w qa nq (fun i => iv (q i))) :
  Calls Tryz.prog 3 #[.agg (fairL ga ba qa n gc m bc nq qc).toArray] w fun e w' => e = .returned (.bool true) ∧ Below w.heap.size w w' := by
 refine calls_of_run (F := [(0, _)]) Tryz.func3 rfl Tryz.ntmps3 rfl rfl ?_
 have hO0 := Own.init w
 refine run_seq <| run_region <| rl_ow rfl (ow_box _ rfl rfl rfl rfl rfl hO0) ?_
 rintro _ w1 ⟨b1, rfl, hO2, hs3⟩
 refine rl_v rfl rfl rfl (ov_assign rfl rfl) <| rl_nil <| run_seq <| run_region <| rl_v rfl rfl rfl (ov_loadW rfl Tryz.underlying25 rfl (by kernel_rfl) rfl hO2 0 rfl) ?_
 refine rl_call callable_8 rfl rfl rfl rfl rfl rfl (tame5_any ga ba qa n gc m bc nq qc 7 6 GL BL GE BE q _ (by decide) (by decide) (hO2.rtab hG) (hO2.rtab hB) (hO2.iatF hQ)) (fun e4 w5 hp6 => ?_)
 obtain ⟨f, ga1, ba1, qa1, gc1, bc1, qc1, Hg, Hb, cq, rfl, hfn, hfm, hF, hO1⟩ := hp6
 refine ⟨_, rfl, ?_⟩
 have hO7 := hO2.join hO1
 have hV := hF.ok
 have hlg := hV.lg
 have hn7 : f.n ≤ 7 := by omega
 have hm6 : f.m ≤ 6 := by omega
 refine rl_ow rfl (ow_alloc _ rfl rfl rfl zero_25 rfl hO7) ?_
 rintro _ w8 ⟨b3, rfl, hO9, hs10⟩
 refine rl_ow rfl (ow_storeW rfl rfl (by kernel_rfl) hO9 0 rfl rfl (by rfl) rfl (by rfl)) ?_
 rintro _ w11 ⟨rfl, hO12, hs13⟩
 refine rl_nil <| run_seq <| run_region <| rl_v rfl rfl rfl (ov_loadW rfl Tryz.underlying25 rfl (by kernel_rfl) rfl hO12 0 rfl) ?_
 refine rl_call callable_9 rfl rfl rfl rfl rfl rfl (give5_any ga1 ba1 qa1 f.n gc1 f.m bc1 f.m qc1 _) (fun e14 w15 hp16 => ?_)
 obtain ⟨rfl, hbl1⟩ := hp16
 refine ⟨_, rfl, ?_⟩
 have hO17 := hO12.past hbl1
 refine rl_ow rfl (ow_alloc _ rfl rfl rfl zero_27 rfl hO17) ?_
 rintro _ w18 ⟨b4, rfl, hO19, hs20⟩
 refine rl_ow rfl (ow_storeW rfl rfl (by kernel_rfl) hO19 0 rfl rfl (by rfl) rfl (by rfl)) ?_
 rintro _ w21 ⟨rfl, hO22, hs23⟩
 obtain ⟨K, hK⟩ : ∃ K, K = (cq :: (Hg ++ Hb)) := ⟨_, rfl⟩
 have hSK : FSrc K ga1 ba1 qa1 f := by rw [hK]; exact hF.src
 have hRK : ∀ {B : Nat} {w0 w' : World}, Own B w0 w' K → RTab w'.heap.size w' ba1 f.m f.bl f.be := fun hO => hF.b.rtab (hO.sub (by rw [hK]; exact .cons _ (List.sublist_append_right _ _)))
 have hgK : Hg.Sublist K := by rw [hK]; exact .cons _ (List.sublist_append_left _ _)
 have hqK : K[0]? = some cq := by rw [hK]; rfl
 have hOa : Own w.heap.size w w21 (some (lch b4 27 (fairL ga1 ba1 qa1 f.n gc1 f.m bc1 f.m qc1)) :: some (lch b3 25 (fairL ga1 ba1 qa1 f.n gc1 f.m bc1 f.m qc1)) :: K) := by
  have h := hO22
  rw [← hK] at h
  exact h.sub (.cons_cons _ (.cons_cons _ (List.sublist_append_left _ _)))
 clear hK
 refine rl_nil <| run_seq <| run_region <| rl_v rfl rfl rfl (ov_loadW rfl Tryz.underlying27 rfl (by kernel_rfl) rfl hOa 0 (rfl)) ?_
 refine rl_call callable_10 rfl rfl rfl rfl rfl rfl (allX_any ga1 ba1 qa1 gc1 bc1 qc1 f 1000 _ hV (by omega) (hSK.at hOa.tail.tail) (hRK hOa.tail.tail) (by decide) (by decide)) (fun e24 w25 hp26 => ?_)
 obtain ⟨va, vc, N, A, HA, rfl, hTA, hOA, hAll⟩ := hp26
 refine ⟨_, rfl, ?_⟩
 have hO27 := hOa.join hOA
 have hOb := hO27.perm List.perm_append_comm
 have hst : ∀ i : Nat, i < N → f.Stab (A i) := by
  rcases hAll with ⟨_, h⟩ | ⟨_, V, h⟩
  ·exact h.st
  ·exact h.st
 have hpos : 0 < N := by
  rcases hAll with ⟨_, h⟩ | ⟨h, _⟩
  ·exact h.pos hV.ok
  ·omega
 have hN : N ≤ 1000 := by
  rcases hAll with ⟨h, _⟩ | ⟨h, _⟩ <;> omega
 obtain ⟨W, hW⟩ : ∃ W, W = some (lch b4 27 (fairL ga1 ba1 qa1 f.n gc1 f.m bc1 f.m qc1)) :: some (lch b3 25 (fairL ga1 ba1 qa1 f.n gc1 f.m bc1 f.m qc1)) :: (K ++ HA) := ⟨_, rfl⟩
 have hsK : K.Sublist W := by rw [hW]; exact .cons _ (.cons _ (List.sublist_append_left _ _))
 have hSW : FSrc W ga1 ba1 qa1 f := hSK.sub hsK
 have hW0 : W[0]? = some (some (lch b4 27 (fairL ga1 ba1 qa1 f.n gc1 f.m bc1 f.m qc1))) := by rw [hW]; rfl
 have hW1 : W[1]? = some (some (lch b3 25 (fairL ga1 ba1 qa1 f.n gc1 f.m bc1 f.m qc1))) := by rw [hW]; rfl
 have hsA : HA.Sublist W := by rw [hW]; exact .cons _ (.cons _ (List.sublist_append_right _ _))
 have hOW : Own w.heap.size w w25 W := by rw [hW]; exact hOb
 clear hW
 obtain ⟨RA, RC, gb, go, hga, hrd⟩ := (OTab.rown (F := fun r k => A r.toNat k) hTA).addr (hOW.sub hsA) hpos
 refine rl_v rfl rfl rfl (ov_move rfl rfl) <| rl_v rfl rfl rfl (ov_extract rfl rfl (by rfl)) ?_
 refine rl_v rfl rfl rfl (ov_extract rfl rfl (by rfl)) ?_
 refine rl_v rfl rfl rfl (ov_assign rfl rfl) <| rl_v rfl rfl rfl (ov_assign rfl rfl) <| rl_nil <| run_seq <| run_region <| rl_v rfl rfl rfl (ov_loadW rfl Tryz.underlying27 rfl (by kernel_rfl) rfl hOW 0 (hW0)) ?_
 refine rl_call callable_11 rfl rfl rfl rfl rfl rfl (growers_any ga1 ba1 qa1 gc1 bc1 qc1 f _ hV (hSW.at hOW)) (fun e28 w29 hp30 => ?_)
 obtain ⟨o1, l1, rfl, hO2, hB1⟩ := hp30
 refine ⟨_, rfl, ?_⟩
 have hO31 := hOW.join hO2
 refine rl_v rfl rfl rfl (ov_move rfl rfl) <| rl_v rfl rfl rfl (ov_extract rfl rfl (by rfl)) ?_
 refine rl_v rfl rfl rfl (ov_extract rfl rfl (by rfl)) ?_
 refine rl_v rfl rfl rfl (ov_assign rfl rfl) <| rl_v rfl rfl rfl (ov_assign rfl rfl) <| rl_nil <| run_seq <| run_region <| rl_v rfl rfl rfl (ov_loadW rfl Tryz.underlying27 rfl (by kernel_rfl) rfl hO31 1 ((show ((_ :: W)[1]? : Option (Option Blk)) = _ from hW0))) ?_
 refine rl_call callable_12 rfl rfl rfl rfl rfl rfl (brewers_any ga1 ba1 qa1 gc1 bc1 qc1 f _ hV (hSW.at hO31.tail)) (fun e32 w33 hp34 => ?_)
 obtain ⟨o2, l2, nb, rfl, hO3, hA2, hD2⟩ := hp34
 refine ⟨_, rfl, ?_⟩
 have hO35 := hO31.join hO3
 have hst2 := hA2.stab hD2
 obtain ⟨V, hV1⟩ : ∃ V, V = some (vch o2 3 f.n (fun g => iv (l2 g))) :: some (vch o1 3 f.n (fun g => iv (l1 g))) :: W := ⟨_, rfl⟩
 have hsW : W.Sublist V := by rw [hV1]; exact .cons _ (.cons _ (.refl _))
 have hV0 : V[0]? = some (some (vch o2 3 f.n (fun g => iv (l2 g)))) := by rw [hV1]; rfl
 have hV2 : V[1]? = some (some (vch o1 3 f.n (fun g => iv (l1 g)))) := by rw [hV1]; rfl
 have hV3 : V[3]? = some (some (lch b3 25 (fairL ga1 ba1 qa1 f.n gc1 f.m bc1 f.m qc1))) := by rw [hV1]; exact hW1
 have hOV : Own w.heap.size w w33 V := by rw [hV1]; exact hO35
 have hSV : FSrc V ga1 ba1 qa1 f := hSW.sub hsW
 clear hV1
 refine rl_v rfl rfl rfl (ov_move rfl rfl) <| rl_v rfl rfl rfl (ov_extract rfl rfl (by rfl)) ?_
 refine rl_v rfl rfl rfl (ov_extract rfl rfl (by rfl)) ?_
 refine rl_v rfl rfl rfl (ov_assign rfl rfl) <| rl_v rfl rfl rfl (ov_assign rfl rfl) <| rl_nil <| run_seq <| run_seq <| run_region <| rl_v rfl rfl rfl (ov_move rfl rfl) <| rl_v rfl rfl rfl (ov_neq rfl rfl rfl) <| rl_v rfl rfl rfl (ov_move rfl rfl) ?_
 first | refine rl_noD 40 rfl (fun h => h rfl) ?_ | refine rl_no 40 rfl (fun h => h rfl) ?_
 refine rl_gv rfl rfl rfl rfl rfl (ov_move rfl rfl) <| rl_gv rfl rfl rfl rfl rfl (ov_neq rfl rfl rfl) <| rl_v rfl rfl rfl (ov_pick_f rfl rfl rfl) <| rl_v rfl rfl rfl (ov_move rfl rfl) ?_
 first | refine rl_noD 44 rfl (fun h => h rfl) ?_ | refine rl_no 44 rfl (fun h => h rfl) ?_
 refine rl_gv rfl rfl rfl rfl rfl (ov_move rfl rfl) <| rl_gv rfl rfl rfl rfl rfl (ov_neq rfl rfl rfl) <| rl_v rfl rfl rfl (ov_pick_f rfl rfl rfl) <| rl_v rfl rfl rfl (ov_move rfl rfl) ?_
 first | refine rl_noD 48 rfl (fun h => h rfl) ?_ | refine rl_no 48 rfl (fun h => h rfl) ?_
 refine rl_gv rfl rfl rfl rfl rfl (ov_move rfl rfl) <| rl_gv rfl rfl rfl rfl rfl (ov_len rfl Tryz.underlying22 rfl) <| rl_gv rfl rfl rfl rfl rfl (ov_eql rfl rfl rfl) <| rl_v rfl rfl rfl (ov_pick_f rfl rfl rfl) <| rl_nil ?_
 first | refine run_cond_dec rfl (fun bad => ?_) (fun bad => ?_) | refine run_cond rfl (fun bad => ?_) (fun bad => ?_)
 ·exfalso; omega
 ·refine run_skip <| run_seq <| run_seq <| run_region <| rl_v rfl rfl rfl (ov_assign rfl rfl) <| rl_nil <| run_block <| Run.keep [3, 5, 7, 9, 11] (F' := [(3, _), (5, _), (7, _), (9, _), (11, _)]) rfl <| run_loop1 (fun (i : Int) => [(11, .int .i64 i)]) [3, 5, 7, 9] (fun (i : Int) (w36 : World) => 0 ≤ i ∧ Own w.heap.size w w36 V) (fun (i : Int) => (N - i).toNat) (0) ?_ (And.intro (by exact slot_int rfl (by first | omega)) (And.intro rfl (And.intro rfl (And.intro rfl (And.intro rfl trivial))))) ?_
  ·exact ⟨by omega, hOV⟩
  intro i w36 hIw36 ih37
  obtain ⟨hi0, hO4⟩ := hIw36
  show Run _ _ _ _ [(11, _), (3, _), (5, _), (7, _), (9, _)] _ _
  refine run_seq <| run_seq <| run_region <| rl_v rfl rfl rfl (ov_move rfl rfl) <| rl_v rfl rfl rfl (ov_move rfl rfl) <| rl_v rfl rfl rfl (ov_len rfl Tryz.underlying22 rfl) <| rl_v rfl rfl rfl (ov_lss rfl rfl rfl) <| rl_nil ?_
  first | refine run_cond_dec rfl (fun c1 => ?_) (fun c1 => ?_) | refine run_cond rfl (fun c1 => ?_) (fun c1 => ?_)
  ·obtain ⟨s, hs⟩ : ∃ s, s = A i.toNat := ⟨_, rfl⟩
   have hss : f.Stab s := by rw [hs]; exact hst _ (by omega)
   have hsh := hB1.share hss
   have hrs : ∀ {B : Nat} {w0 w' : World}, Own B w0 w' V → IAt w'.heap.size w' (RA i) f.n (fun c => iv (s c)) := fun h => by rw [hs]; exact (hrd (h.sub (hsA.trans hsW))).2 i hi0 (by omega)
   refine run_skip <| run_seq <| run_block <| run_seq <| run_region <| rl_v rfl rfl rfl (ov_move rfl rfl) <| rl_v rfl rfl rfl (ov_move rfl rfl) <| rl_v rfl rfl rfl (ov_index1 rfl Tryz.underlying22 (by kernel_rfl) rfl rfl ⟨by omega, by omega⟩ (by exact (id hga))) ?_
   refine rl_v rfl rfl rfl (ov_load rfl Tryz.underlying23 rfl rfl (by exact (hrd (hO4.sub (hsA.trans hsW))).1 i hi0 (by omega))) ?_
   refine rl_v rfl rfl rfl (ov_assign rfl rfl) <| rl_nil <| run_seq <| run_seq <| run_region <| rl_v rfl rfl rfl (ov_loadW rfl Tryz.underlying25 rfl (by kernel_rfl) rfl hO4 3 (hV3)) ?_
   refine rl_v rfl rfl rfl (ov_move rfl rfl) ?_
   refine rl_call callable_13 rfl rfl rfl rfl rfl rfl (refStable_any ga1 ba1 qa1 (RA i) gc1 bc1 qc1 f.n (RC i) f s _ hV (hSV.at hO4) hlg.n (hrs hO4)) (fun e38 w39 hp40 => ?_)
   obtain ⟨⟨y1, rfl, hy1⟩, hbl3⟩ := hp40
   refine ⟨_, rfl, ?_⟩
   have hO41 := hO4.past hbl3
   have hz1 : y1 = true := hy1.2 ⟨rfl, hss⟩
   subst hz1
   refine rl_v rfl rfl rfl (ov_not rfl rfl) <| rl_nil ?_
   first | refine run_cond_dec rfl (fun bad => ?_) (fun bad => ?_) | refine run_cond rfl (fun bad => ?_) (fun bad => ?_)
   ·exfalso; exact Bool.noConfusion bad
   ·refine run_skip <| run_seq <| run_seq <| run_region <| rl_v rfl rfl rfl (ov_assign rfl rfl) <| rl_nil <| run_block <| Run.keep [3, 5, 7, 9, 11, 12, 13] (F' := [(3, _), (5, _), (7, _), (9, _), (11, _), (12, _), (13, _)]) rfl <| run_loop1 (fun (k : Int) => [(13, .int .i64 k)]) [3, 5, 7, 9, 11, 12] (fun (k : Int) (w42 : World) => 0 ≤ k ∧ Own w.heap.size w w42 V) (fun (k : Int) => (f.n - k).toNat) (0) ?_ (And.intro (by exact slot_int rfl (by first | omega)) (And.intro rfl (And.intro rfl (And.intro rfl (And.intro rfl (And.intro rfl (And.intro rfl trivial))))))) ?_
    ·exact ⟨by omega, hO41⟩
    intro k w42 hIw42 ih43
    obtain ⟨hk0, hO5⟩ := hIw42
    show Run _ _ _ _ [(13, _), (3, _), (5, _), (7, _), (9, _), (11, _), (12, _)] _ _
    refine run_seq <| run_seq <| run_region <| rl_v rfl rfl rfl (ov_move rfl rfl) <| rl_v rfl rfl rfl (ov_move rfl rfl) <| rl_v rfl rfl rfl (ov_len rfl Tryz.underlying23 rfl) <| rl_v rfl rfl rfl (ov_lss rfl rfl rfl) <| rl_nil ?_
    first | refine run_cond_dec rfl (fun c2 => ?_) (fun c2 => ?_) | refine run_cond rfl (fun c2 => ?_) (fun c2 => ?_)
    ·obtain ⟨rb, ro, hra, hrc⟩ := row_addr hrs hO5 (by omega)
     obtain ⟨GA, GC, gb2, go2, hga2, hrd2⟩ := (OTab.rown hF.g).addr (hO5.sub (hgK.trans (hsK.trans hsW))) (by omega)
     have hwho := hsh.who k hk0 (by omega)
     have hr1 := hB1.stab.rng k hk0 (by omega)
     have hr2 := hss.rng k hk0 (by omega)
     have hiff : (0 ≤ s k) = (0 ≤ l1 k) := propext (by omega)
     have hb1 : 0 ≤ s k → f.rg k (l1 k) ≤ f.rg k (s k) := fun h => (hB1.best s hss k hk0 (by omega) (by omega)).2
     have hb2 : 0 ≤ s k → f.rg k (s k) ≤ f.rg k (l2 k) := fun h => (hA2.worst hss hk0 (by omega) (fun e => by have := ((Fair.share_any hV.ok hst2 hss).who k hk0 (by omega)).1 e; omega)).2
     refine run_skip <| run_seq <| run_block <| run_seq <| run_class (Cl5 w.heap.size w V) (⟨hO5.drew⟩) mixed (by kernel_rfl) ?_
     refine rk_v rfl rfl rfl (fun wq hQ => ov_move rfl rfl) ?_
     refine rk_v rfl rfl rfl (fun wq hQ => ov_move rfl rfl) ?_
     refine rk_v rfl rfl rfl (fun wq hQ => ov_index1 rfl Tryz.underlying23 (by kernel_rfl) rfl rfl ⟨by omega, by omega⟩ (by exact (id hra))) ?_
     refine rk_v rfl rfl rfl (fun wq hQ => ov_load rfl Tryz.underlying3 rfl rfl (by exact hrc (hQ.own) k hk0 (by omega))) ?_
     refine rk_v rfl rfl rfl (fun wq hQ => ov_geq rfl rfl rfl) ?_
     refine rk_v rfl rfl rfl (fun wq hQ => ov_move rfl rfl) ?_
     refine rk_v rfl rfl rfl (fun wq hQ => ov_move rfl rfl) ?_
     refine rk_v rfl rfl rfl (fun wq hQ => ov_index1 rfl Tryz.underlying23 (by kernel_rfl) rfl rfl ⟨by omega, by omega⟩ (by rfl)) ?_
     refine rk_v rfl rfl rfl (fun wq hQ => ov_load rfl Tryz.underlying3 rfl rfl (by exact (hQ.own).cellI 1 hV2 k hk0 (by omega))) ?_
     refine rk_v rfl rfl rfl (fun wq hQ => ov_geq rfl rfl rfl) ?_
     refine rk_v rfl rfl rfl (fun wq hQ => ov_neqB5 rfl Tryz.underlying4 rfl rfl) ?_
     refine rk_v rfl rfl rfl (fun wq hQ => ov_move rfl rfl) ?_
     first | refine rk_noD 84 rfl ((show ¬ (decide (0 ≤ s k) ≠ decide (0 ≤ l1 k)) from fun h => h (by simp only [hiff]))) ?_ | refine rk_no 84 rfl ((show ¬ (decide (0 ≤ s k) ≠ decide (0 ≤ l1 k)) from fun h => h (by simp only [hiff]))) ?_
     refine rk_gv rfl rfl rfl rfl rfl (fun wq hQ => ov_move rfl rfl) ?_
     refine rk_gv rfl rfl rfl rfl rfl (fun wq hQ => ov_move rfl rfl) ?_
     refine rk_gv rfl rfl rfl rfl rfl (fun wq hQ => ov_index1 rfl Tryz.underlying23 (by kernel_rfl) rfl rfl ⟨by omega, by omega⟩ (by exact (id hra))) ?_
     refine rk_gv rfl rfl rfl rfl rfl (fun wq hQ => ov_load rfl Tryz.underlying3 rfl rfl (by exact hrc (hQ.own) k hk0 (by omega))) ?_
     refine rk_gv rfl rfl rfl rfl rfl (fun wq hQ => ov_geq rfl rfl rfl) ?_
     refine rk_gv rfl rfl rfl rfl rfl (fun wq hQ => ov_move rfl rfl) ?_
     first | refine rk_split_dec 90 rfl (fun g1 => ?_) (fun g1 => ?_) | refine rk_split 90 rfl (fun g1 => ?_) (fun g1 => ?_)
     ·refine rk_gv rfl rfl rfl rfl rfl (fun wq hQ => ov_fieldS rfl Tryz.underlying25 rfl (fo := 0) rfl (by kernel_rfl) rfl) ?_
      refine rk_gv rfl rfl rfl rfl rfl (fun wq hQ => ov_load rfl Tryz.underlying22 rfl rfl (by exact (hQ.own).cellL 3 hV3 (off := 0) rfl)) ?_
      refine rk_gv rfl rfl rfl rfl rfl (fun wq hQ => ov_move rfl rfl) ?_
      refine rk_gv rfl rfl rfl rfl rfl (fun wq hQ => ov_index1 rfl Tryz.underlying22 (by kernel_rfl) rfl rfl ⟨by omega, by omega⟩ (by exact (id hga2))) ?_
      refine rk_gv rfl rfl rfl rfl rfl (fun wq hQ => ov_load rfl Tryz.underlying23 rfl rfl (by exact (hrd2 ((hQ.own).sub (hgK.trans (hsK.trans hsW)))).1 k hk0 (by omega))) ?_
      refine rk_gv rfl rfl rfl rfl rfl (fun wq hQ => ov_move rfl rfl) ?_
      refine rk_gv rfl rfl rfl rfl rfl (fun wq hQ => ov_move rfl rfl) ?_
      refine rk_gv rfl rfl rfl rfl rfl (fun wq hQ => ov_index1 rfl Tryz.underlying23 (by kernel_rfl) rfl rfl ⟨by omega, by omega⟩ (by exact (id hra))) ?_
      refine rk_gv rfl rfl rfl rfl rfl (fun wq hQ => ov_load rfl Tryz.underlying3 rfl rfl (by exact hrc (hQ.own) k hk0 (by omega))) ?_
      refine rk_gcall callable_14 rfl rfl rfl rfl rfl rfl rfl rfl (fun wq hQ => (rank5_any (GA k) (f.gl k) (GC k) (f.ge k) (s k) _ (hlg.gl k hk0 (by omega)) ((hrd2 ((hQ.own).sub (hgK.trans (hsK.trans hsW)))).2 k hk0 (by omega))).mono fun _ _ h => ⟨h.1, ⟨(hQ.own).past h.2⟩⟩) ?_
      refine rk_gv rfl rfl rfl rfl rfl (fun wq hQ => ov_fieldS rfl Tryz.underlying25 rfl (fo := 0) rfl (by kernel_rfl) rfl) ?_
      refine rk_gv rfl rfl rfl rfl rfl (fun wq hQ => ov_load rfl Tryz.underlying22 rfl rfl (by exact (hQ.own).cellL 3 hV3 (off := 0) rfl)) ?_
      refine rk_gv rfl rfl rfl rfl rfl (fun wq hQ => ov_move rfl rfl) ?_
      refine rk_gv rfl rfl rfl rfl rfl (fun wq hQ => ov_index1 rfl Tryz.underlying22 (by kernel_rfl) rfl rfl ⟨by omega, by omega⟩ (by exact (id hga2))) ?_
      refine rk_gv rfl rfl rfl rfl rfl (fun wq hQ => ov_load rfl Tryz.underlying23 rfl rfl (by exact (hrd2 ((hQ.own).sub (hgK.trans (hsK.trans hsW)))).1 k hk0 (by omega))) ?_
      refine rk_gv rfl rfl rfl rfl rfl (fun wq hQ => ov_move rfl rfl) ?_
      refine rk_gv rfl rfl rfl rfl rfl (fun wq hQ => ov_move rfl rfl) ?_
      refine rk_gv rfl rfl rfl rfl rfl (fun wq hQ => ov_index1 rfl Tryz.underlying23 (by kernel_rfl) rfl rfl ⟨by omega, by omega⟩ (by rfl)) ?_
      refine rk_gv rfl rfl rfl rfl rfl (fun wq hQ => ov_load rfl Tryz.underlying3 rfl rfl (by exact (hQ.own).cellI 1 hV2 k hk0 (by omega))) ?_
      refine rk_gcall callable_14 rfl rfl rfl rfl rfl rfl rfl rfl (fun wq hQ => (rank5_any (GA k) (f.gl k) (GC k) (f.ge k) (l1 k) _ (hlg.gl k hk0 (by omega)) ((hrd2 ((hQ.own).sub (hgK.trans (hsK.trans hsW)))).2 k hk0 (by omega))).mono fun _ _ h => ⟨h.1, ⟨(hQ.own).past h.2⟩⟩) ?_
      refine rk_gv rfl rfl rfl rfl rfl (fun wq hQ => ov_lss rfl rfl rfl) ?_
      refine rk_gv rfl rfl rfl rfl rfl (fun wq hQ => ov_move rfl rfl) ?_
      first | refine rk_noD 112 rfl ((show ¬ f.rg k (s k) < f.rg k (l1 k) from by have := hb1 g1; omega)) ?_ | refine rk_no 112 rfl ((show ¬ f.rg k (s k) < f.rg k (l1 k) from by have := hb1 g1; omega)) ?_
      refine rk_gv rfl rfl rfl rfl rfl (fun wq hQ => ov_fieldS rfl Tryz.underlying25 rfl (fo := 0) rfl (by kernel_rfl) rfl) ?_
      refine rk_gv rfl rfl rfl rfl rfl (fun wq hQ => ov_load rfl Tryz.underlying22 rfl rfl (by exact (hQ.own).cellL 3 hV3 (off := 0) rfl)) ?_
      refine rk_gv rfl rfl rfl rfl rfl (fun wq hQ => ov_move rfl rfl) ?_
      refine rk_gv rfl rfl rfl rfl rfl (fun wq hQ => ov_index1 rfl Tryz.underlying22 (by kernel_rfl) rfl rfl ⟨by omega, by omega⟩ (by exact (id hga2))) ?_
      refine rk_gv rfl rfl rfl rfl rfl (fun wq hQ => ov_load rfl Tryz.underlying23 rfl rfl (by exact (hrd2 ((hQ.own).sub (hgK.trans (hsK.trans hsW)))).1 k hk0 (by omega))) ?_
      refine rk_gv rfl rfl rfl rfl rfl (fun wq hQ => ov_move rfl rfl) ?_
      refine rk_gv rfl rfl rfl rfl rfl (fun wq hQ => ov_move rfl rfl) ?_
      refine rk_gv rfl rfl rfl rfl rfl (fun wq hQ => ov_index1 rfl Tryz.underlying23 (by kernel_rfl) rfl rfl ⟨by omega, by omega⟩ (by exact (id hra))) ?_
      refine rk_gv rfl rfl rfl rfl rfl (fun wq hQ => ov_load rfl Tryz.underlying3 rfl rfl (by exact hrc (hQ.own) k hk0 (by omega))) ?_
      refine rk_gcall callable_14 rfl rfl rfl rfl rfl rfl rfl rfl (fun wq hQ => (rank5_any (GA k) (f.gl k) (GC k) (f.ge k) (s k) _ (hlg.gl k hk0 (by omega)) ((hrd2 ((hQ.own).sub (hgK.trans (hsK.trans hsW)))).2 k hk0 (by omega))).mono fun _ _ h => ⟨h.1, ⟨(hQ.own).past h.2⟩⟩) ?_
      refine rk_gv rfl rfl rfl rfl rfl (fun wq hQ => ov_fieldS rfl Tryz.underlying25 rfl (fo := 0) rfl (by kernel_rfl) rfl) ?_
      refine rk_gv rfl rfl rfl rfl rfl (fun wq hQ => ov_load rfl Tryz.underlying22 rfl rfl (by exact (hQ.own).cellL 3 hV3 (off := 0) rfl)) ?_
      refine rk_gv rfl rfl rfl rfl rfl (fun wq hQ => ov_move rfl rfl) ?_
      refine rk_gv rfl rfl rfl rfl rfl (fun wq hQ => ov_index1 rfl Tryz.underlying22 (by kernel_rfl) rfl rfl ⟨by omega, by omega⟩ (by exact (id hga2))) ?_
      refine rk_gv rfl rfl rfl rfl rfl (fun wq hQ => ov_load rfl Tryz.underlying23 rfl rfl (by exact (hrd2 ((hQ.own).sub (hgK.trans (hsK.trans hsW)))).1 k hk0 (by omega))) ?_
      refine rk_gv rfl rfl rfl rfl rfl (fun wq hQ => ov_move rfl rfl) ?_
      refine rk_gv rfl rfl rfl rfl rfl (fun wq hQ => ov_move rfl rfl) ?_
      refine rk_gv rfl rfl rfl rfl rfl (fun wq hQ => ov_index1 rfl Tryz.underlying23 (by kernel_rfl) rfl rfl ⟨by omega, by omega⟩ (by rfl)) ?_
      refine rk_gv rfl rfl rfl rfl rfl (fun wq hQ => ov_load rfl Tryz.underlying3 rfl rfl (by exact (hQ.own).cellI 0 hV0 k hk0 (by omega))) ?_
      refine rk_gcall callable_14 rfl rfl rfl rfl rfl rfl rfl rfl (fun wq hQ => (rank5_any (GA k) (f.gl k) (GC k) (f.ge k) (l2 k) _ (hlg.gl k hk0 (by omega)) ((hrd2 ((hQ.own).sub (hgK.trans (hsK.trans hsW)))).2 k hk0 (by omega))).mono fun _ _ h => ⟨h.1, ⟨(hQ.own).past h.2⟩⟩) ?_
      refine rk_gv rfl rfl rfl rfl rfl (fun wq hQ => ov_gtr rfl rfl rfl) ?_
      refine rk_gv rfl rfl rfl rfl rfl (fun wq hQ => ov_pick_f rfl rfl rfl) ?_
      refine rk_gv rfl rfl rfl rfl rfl (fun wq hQ => ov_pick_t rfl rfl rfl) ?_
      refine rk_v rfl rfl rfl (fun wq hQ => ov_pick_f rfl rfl rfl) ?_
      refine rk_nil (fun w57 hQ => ?_)
      first | refine run_cond_dec rfl (fun bad => ?_) (fun bad => ?_) | refine run_cond rfl (fun bad => ?_) (fun bad => ?_)
      ·exfalso; have := hb2 g1; have bad2 : f.rg k (l2 k) < f.rg k (s k) := bad; omega
      ·refine run_skip <| run_inBlock <| run_region <| rl_v rfl rfl rfl (ov_move rfl rfl) <| rl_v rfl rfl rfl (ov_add rfl rfl rfl (by omega)) ?_
       refine rl_v rfl rfl rfl (ov_assign rfl rfl) <| rl_nil ?_
       refine Run.use (ih43 (k + 1) _ ?_ ?_) (And.intro (by exact slot_int rfl (by first | omega)) (And.intro rfl (And.intro rfl (And.intro rfl (And.intro rfl (And.intro rfl (And.intro rfl trivial)))))))
       ·first | omega | (dsimp only; omega)
       ·exact ⟨by omega, (hQ.own)⟩
     ·refine rk_gskip rfl rfl rfl rfl rfl rfl <| rk_gskip rfl rfl rfl rfl rfl rfl <| rk_gskip rfl rfl rfl rfl rfl rfl <| rk_gskip rfl rfl rfl rfl rfl rfl <| rk_gskip rfl rfl rfl rfl rfl rfl <| rk_gskip rfl rfl rfl rfl rfl rfl <| rk_gskip rfl rfl rfl rfl rfl rfl <| rk_gskip rfl rfl rfl rfl rfl rfl <| rk_gskip rfl rfl rfl rfl rfl rfl <| rk_gskip rfl rfl rfl rfl rfl rfl <| rk_gskip rfl rfl rfl rfl rfl rfl <| rk_gskip rfl rfl rfl rfl rfl rfl <| rk_gskip rfl rfl rfl rfl rfl rfl <| rk_gskip rfl rfl rfl rfl rfl rfl <| rk_gskip rfl rfl rfl rfl rfl rfl <| rk_gskip rfl rfl rfl rfl rfl rfl <| rk_gskip rfl rfl rfl rfl rfl rfl <| rk_gskip rfl rfl rfl rfl rfl rfl <| rk_gskip rfl rfl rfl rfl rfl rfl <| rk_gskip rfl rfl rfl rfl rfl rfl <| rk_gskip rfl rfl rfl rfl rfl rfl <| rk_gskip rfl rfl rfl rfl rfl rfl <| rk_gundef rfl rfl rfl rfl rfl <| rk_gundef rfl rfl rfl rfl rfl <| rk_gundef rfl rfl rfl rfl rfl ?_
      refine rk_gundef rfl rfl rfl rfl rfl <| rk_gundef rfl rfl rfl rfl rfl <| rk_gundef rfl rfl rfl rfl rfl <| rk_gundef rfl rfl rfl rfl rfl <| rk_gundef rfl rfl rfl rfl rfl <| rk_gundef rfl rfl rfl rfl rfl <| rk_gundef rfl rfl rfl rfl rfl <| rk_gundef rfl rfl rfl rfl rfl <| rk_gundef rfl rfl rfl rfl rfl <| rk_gundef rfl rfl rfl rfl rfl <| rk_gundef rfl rfl rfl rfl rfl <| rk_gundef rfl rfl rfl rfl rfl <| rk_gundef rfl rfl rfl rfl rfl <| rk_gundef rfl rfl rfl rfl rfl <| rk_gundef rfl rfl rfl rfl rfl <| rk_gundef rfl rfl rfl rfl rfl <| rk_gundef rfl rfl rfl rfl rfl <| rk_gundef rfl rfl rfl rfl rfl <| rk_gskip rfl rfl rfl rfl rfl rfl <| rk_gv rfl rfl rfl rfl rfl (fun wq hQ => ov_pick_f rfl rfl rfl) ?_
      refine rk_v rfl rfl rfl (fun wq hQ => ov_pick_f rfl rfl rfl) ?_
      refine rk_nil (fun w58 hQ => ?_)
      refine run_cond_f rfl <| run_skip <| run_inBlock <| run_region <| rl_v rfl rfl rfl (ov_move rfl rfl) <| rl_v rfl rfl rfl (ov_add rfl rfl rfl (by omega)) ?_
      refine rl_v rfl rfl rfl (ov_assign rfl rfl) <| rl_nil ?_
      refine Run.use (ih43 (k + 1) _ ?_ ?_) (And.intro (by exact slot_int rfl (by first | omega)) (And.intro rfl (And.intro rfl (And.intro rfl (And.intro rfl (And.intro rfl (And.intro rfl trivial)))))))
      ·first | omega | (dsimp only; omega)
      ·exact ⟨by omega, (hQ.own)⟩
    ·refine run_exit rfl <| run_seq <| run_region <| rl_v rfl rfl rfl (ov_assign rfl rfl) <| rl_nil <| run_block <| Run.keep [3, 5, 7, 9, 11, 12, 14] (F' := [(3, _), (5, _), (7, _), (9, _), (11, _), (12, _), (14, _)]) rfl <| run_loop1 (fun (b : Int) => [(14, .int .i64 b)]) [3, 5, 7, 9, 11, 12] (fun (b : Int) (w59 : World) => 0 ≤ b ∧ Own w.heap.size w w59 V) (fun (b : Int) => (f.m - b).toNat) (0) ?_ (And.intro (by exact slot_int rfl (by first | omega)) (And.intro rfl (And.intro rfl (And.intro rfl (And.intro rfl (And.intro rfl (And.intro rfl trivial))))))) ?_
     ·exact ⟨by omega, hO5⟩
     intro b w59 hIw59 ih60
     obtain ⟨hb0, hO6⟩ := hIw59
     show Run _ _ _ _ [(14, _), (3, _), (5, _), (7, _), (9, _), (11, _), (12, _)] _ _
     refine run_seq <| run_seq <| run_region <| rl_v rfl rfl rfl (ov_move rfl rfl) <| rl_v rfl rfl rfl (ov_fieldS rfl Tryz.underlying25 rfl (fo := 1) rfl (by kernel_rfl) rfl) ?_
     refine rl_v rfl rfl rfl (ov_load rfl Tryz.underlying22 rfl rfl (by exact hO6.cellL 3 hV3 (off := 1) rfl)) ?_
     refine rl_v rfl rfl rfl (ov_len rfl Tryz.underlying22 rfl) <| rl_v rfl rfl rfl (ov_lss rfl rfl rfl) <| rl_nil ?_
     first | refine run_cond_dec rfl (fun c3 => ?_) (fun c3 => ?_) | refine run_cond rfl (fun c3 => ?_) (fun c3 => ?_)
     ·refine run_skip <| run_seq <| run_block <| run_seq <| run_region <| rl_v rfl rfl rfl (ov_assign rfl rfl) <| rl_v rfl rfl rfl (ov_assign rfl rfl) <| rl_v rfl rfl rfl (ov_assign rfl rfl) <| rl_nil <| run_seq <| run_seq <| run_region <| rl_v rfl rfl rfl (ov_assign rfl rfl) <| rl_nil <| run_block <| Run.keep [3, 5, 7, 9, 11, 12, 14, 15, 16, 17, 18] (F' := [(3, _), (5, _), (7, _), (9, _), (11, _), (12, _), (14, _), (15, _), (16, _), (17, _), (18, _)]) rfl <| run_loop4 (fun (k : Int) (x : Int) (y : Int) (z : Bool) => [(18, .int .i64 k), (15, .int .i64 x), (16, .int .i64 y), (17, .bool z)]) [3, 5, 7, 9, 11, 12, 14] (fun (k : Int) (x : Int) (y : Int) (z : Bool) (w61 : World) => 0 ≤ k ∧ k ≤ f.n ∧ x = sm (fun g => if s g = b then 1 else 0) k ∧ y = sm (fun g => if l1 g = b then 1 else 0) k ∧ (z = true ↔ ∀ g : Int, 0 ≤ g → g < k → (s g = b ↔ l1 g = b)) ∧ Own w.heap.size w w61 V) (fun (k : Int) (x : Int) (y : Int) (z : Bool) => ((f.n : Int) - k).toNat) (0) (0) (0) (true) ?_ (And.intro (by exact slot_int rfl (by first | omega)) (And.intro (by exact slot_int rfl (by first | omega)) (And.intro (by exact slot_int rfl (by first | omega)) (And.intro (by rfl) (And.intro rfl (And.intro rfl (And.intro rfl (And.intro rfl (And.intro rfl (And.intro rfl (And.intro rfl trivial))))))))))) ?_
      ·exact ⟨by omega, by omega, rfl, rfl, ⟨fun _ g g0 g1 => by omega, fun _ => rfl⟩, hO6⟩
      intro k x y z w61 hIw61 ih62
      obtain ⟨hk0, hk1, hx, hy, hz, hO7⟩ := hIw61
      show Run _ _ _ _ [(18, _), (15, _), (16, _), (17, _), (3, _), (5, _), (7, _), (9, _), (11, _), (12, _), (14, _)] _ _
      refine run_seq <| run_seq <| run_region <| rl_v rfl rfl rfl (ov_move rfl rfl) <| rl_v rfl rfl rfl (ov_move rfl rfl) <| rl_v rfl rfl rfl (ov_len rfl Tryz.underlying23 rfl) <| rl_v rfl rfl rfl (ov_lss rfl rfl rfl) <| rl_nil ?_
      first | refine run_cond_dec rfl (fun c4 => ?_) (fun c4 => ?_) | refine run_cond rfl (fun c4 => ?_) (fun c4 => ?_)
      ·have hx1 : x ≤ k * 1 := by rw [hx]; exact sm_bound 1 hk0 fun i _ _ => by split <;> omega
       have hx0 : 0 ≤ x := by rw [hx]; exact sm_nonneg fun i _ _ => by split <;> omega
       have hy1 : y ≤ k * 1 := by rw [hy]; exact sm_bound 1 hk0 fun i _ _ => by split <;> omega
       have hy0 : 0 ≤ y := by rw [hy]; exact sm_nonneg fun i _ _ => by split <;> omega
       obtain ⟨rb, ro, hra, hrc⟩ := row_addr hrs hO7 (by omega)
       refine run_skip <| run_seq <| run_block <| run_seq <| run_seq <| run_region <| rl_v rfl rfl rfl (ov_move rfl rfl) <| rl_v rfl rfl rfl (ov_move rfl rfl) <| rl_v rfl rfl rfl (ov_index1 rfl Tryz.underlying23 (by kernel_rfl) rfl rfl ⟨by omega, by omega⟩ (by exact (id hra))) ?_
       refine rl_v rfl rfl rfl (ov_load rfl Tryz.underlying3 rfl rfl (by exact hrc hO7 k hk0 (by omega))) ?_
       refine rl_v rfl rfl rfl (ov_move rfl rfl) <| rl_v rfl rfl rfl (ov_eql rfl rfl rfl) <| rl_nil <| Run.keep [3, 5, 7, 9, 11, 12, 14, 15, 16, 17, 18, 155] (F' := [(3, _), (5, _), (7, _), (9, _), (11, _), (12, _), (14, _), (15, _), (16, _), (17, _), (18, _), (155, _)]) rfl <| run_join1 (fun (x2 : Int) => [(15, .int .i64 x2)]) [3, 5, 7, 9, 11, 12, 14, 16, 17, 18] (fun (x2 : Int) (w63 : World) => x2 = x + (if s k = b then 1 else 0) ∧ Own w.heap.size w w63 V) (fun hk64 => ?_) ?_
       ·first | refine run_cond_dec rfl (fun c5 => ?_) (fun c5 => ?_) | refine run_cond rfl (fun c5 => ?_) (fun c5 => ?_)
        ·refine run_region <| rl_v rfl rfl rfl (ov_move rfl rfl) <| rl_v rfl rfl rfl (ov_add rfl rfl rfl (by omega)) ?_
         refine rl_v rfl rfl rfl (ov_assign rfl rfl) <| rl_nil ?_
         refine Run.use (hk64 (x + 1) _ ?_) (And.intro (by exact slot_int rfl (by first | omega)) (And.intro rfl (And.intro rfl (And.intro rfl (And.intro rfl (And.intro rfl (And.intro rfl (And.intro rfl (And.intro rfl (And.intro rfl (And.intro rfl trivial)))))))))))
         exact ⟨by rw [if_pos c5], hO7⟩
        ·refine run_skip ?_
         refine Run.use (hk64 (x) _ ?_) (And.intro (by exact slot_int rfl (by first | omega)) (And.intro rfl (And.intro rfl (And.intro rfl (And.intro rfl (And.intro rfl (And.intro rfl (And.intro rfl (And.intro rfl (And.intro rfl (And.intro rfl trivial)))))))))))
         exact ⟨by rw [if_neg c5]; omega, hO7⟩
       ·intro x2 w63 hJw63
        obtain ⟨hx2, hO8⟩ := hJw63
        show Run _ _ _ _ [(15, _), (3, _), (5, _), (7, _), (9, _), (11, _), (12, _), (14, _), (16, _), (17, _), (18, _)] _ _
        refine run_seq <| run_seq <| run_region <| rl_v rfl rfl rfl (ov_move rfl rfl) <| rl_v rfl rfl rfl (ov_move rfl rfl) <| rl_v rfl rfl rfl (ov_index1 rfl Tryz.underlying23 (by kernel_rfl) rfl rfl ⟨by omega, by omega⟩ (by rfl)) ?_
        refine rl_v rfl rfl rfl (ov_load rfl Tryz.underlying3 rfl rfl (by exact hO8.cellI 1 hV2 k hk0 (by omega))) ?_
        refine rl_v rfl rfl rfl (ov_move rfl rfl) <| rl_v rfl rfl rfl (ov_eql rfl rfl rfl) <| rl_nil <| Run.keep [3, 5, 7, 9, 11, 12, 14, 15, 16, 17, 18, 163] (F' := [(3, _), (5, _), (7, _), (9, _), (11, _), (12, _), (14, _), (15, _), (16, _), (17, _), (18, _), (163, _)]) rfl <| run_join1 (fun (y2 : Int) => [(16, .int .i64 y2)]) [3, 5, 7, 9, 11, 12, 14, 15, 17, 18] (fun (y2 : Int) (w65 : World) => y2 = y + (if l1 k = b then 1 else 0) ∧ Own w.heap.size w w65 V) (fun hk66 => ?_) ?_
        ·first | refine run_cond_dec rfl (fun c6 => ?_) (fun c6 => ?_) | refine run_cond rfl (fun c6 => ?_) (fun c6 => ?_)
         ·refine run_region <| rl_v rfl rfl rfl (ov_move rfl rfl) <| rl_v rfl rfl rfl (ov_add rfl rfl rfl (by omega)) ?_
          refine rl_v rfl rfl rfl (ov_assign rfl rfl) <| rl_nil ?_
          refine Run.use (hk66 (y + 1) _ ?_) (And.intro (by exact slot_int rfl (by first | omega)) (And.intro rfl (And.intro rfl (And.intro rfl (And.intro rfl (And.intro rfl (And.intro rfl (And.intro rfl (And.intro rfl (And.intro rfl (And.intro rfl trivial)))))))))))
          exact ⟨by rw [if_pos c6], hO8⟩
         ·refine run_skip ?_
          refine Run.use (hk66 (y) _ ?_) (And.intro (by exact slot_int rfl (by first | omega)) (And.intro rfl (And.intro rfl (And.intro rfl (And.intro rfl (And.intro rfl (And.intro rfl (And.intro rfl (And.intro rfl (And.intro rfl (And.intro rfl trivial)))))))))))
          exact ⟨by rw [if_neg c6]; omega, hO8⟩
        ·intro y2 w65 hJw65
         obtain ⟨hy2, hO9⟩ := hJw65
         show Run _ _ _ _ [(16, _), (3, _), (5, _), (7, _), (9, _), (11, _), (12, _), (14, _), (15, _), (17, _), (18, _)] _ _
         have hx3 : x2 = sm (fun g => if s g = b then 1 else 0) (k + 1) := by rw [sm_succ _ hk0, ← hx]; exact hx2
         have hy3 : y2 = sm (fun g => if l1 g = b then 1 else 0) (k + 1) := by rw [sm_succ _ hk0, ← hy]; exact hy2
         refine run_quiet mixed (by kernel_rfl) ?_
         refine rq_v rfl rfl rfl (fun _ => ov_move rfl rfl) ?_
         refine rq_v rfl rfl rfl (fun _ => ov_move rfl rfl) ?_
         first | refine rq_split_dec 167 rfl (fun q1 => ?_) (fun q1 => ?_) | refine rq_split 167 rfl (fun q1 => ?_) (fun q1 => ?_)
         ·refine rq_gv rfl rfl rfl rfl rfl (fun _ => ov_move rfl rfl) ?_
          refine rq_gv rfl rfl rfl rfl rfl (fun _ => ov_move rfl rfl) ?_
          refine rq_gv rfl rfl rfl rfl rfl (fun _ => ov_index1 rfl Tryz.underlying23 (by kernel_rfl) rfl rfl ⟨by omega, by omega⟩ (by exact (id hra))) ?_
          refine rq_gv rfl rfl rfl rfl rfl (fun _ => ov_load rfl Tryz.underlying3 rfl rfl (by show World.cell? w65 _ = _; first | exact hrc hO9 k hk0 (by omega))) ?_
          refine rq_gv rfl rfl rfl rfl rfl (fun _ => ov_move rfl rfl) ?_
          refine rq_gv rfl rfl rfl rfl rfl (fun _ => ov_eql rfl rfl rfl) ?_
          refine rq_gv rfl rfl rfl rfl rfl (fun _ => ov_move rfl rfl) ?_
          refine rq_gv rfl rfl rfl rfl rfl (fun _ => ov_move rfl rfl) ?_
          refine rq_gv rfl rfl rfl rfl rfl (fun _ => ov_index1 rfl Tryz.underlying23 (by kernel_rfl) rfl rfl ⟨by omega, by omega⟩ (by rfl)) ?_
          refine rq_gv rfl rfl rfl rfl rfl (fun _ => ov_load rfl Tryz.underlying3 rfl rfl (by show World.cell? w65 _ = _; first | exact hO9.cellI 1 hV2 k hk0 (by omega))) ?_
          refine rq_gv rfl rfl rfl rfl rfl (fun _ => ov_move rfl rfl) ?_
          refine rq_gv rfl rfl rfl rfl rfl (fun _ => ov_eql rfl rfl rfl) ?_
          refine rq_gv rfl rfl rfl rfl rfl (fun _ => ov_eqlB5 rfl Tryz.underlying4 rfl rfl) ?_
          refine rq_v rfl rfl rfl (fun _ => ov_pick_t rfl rfl rfl) ?_
          refine rq_v rfl rfl rfl (fun _ => ov_assign rfl rfl) ?_
          refine rq_nil (fun n68 => ?_)
          have hO70 := hO9.drewN n68
          generalize World.drewN w65 n68 = w69 at hO70 ⊢
          refine run_inBlock <| run_region <| rl_v rfl rfl rfl (ov_move rfl rfl) <| rl_v rfl rfl rfl (ov_add rfl rfl rfl (by omega)) ?_
          refine rl_v rfl rfl rfl (ov_assign rfl rfl) <| rl_nil ?_
          refine Run.use (ih62 (k + 1) (x2) (y2) (decide (decide (s k = b) = decide (l1 k = b))) _ ?_ ?_) (And.intro (by exact slot_int rfl (by first | omega)) (And.intro (by exact slot_int rfl (by first | omega)) (And.intro (by exact slot_int rfl (by first | omega)) (And.intro (by rfl) (And.intro rfl (And.intro rfl (And.intro rfl (And.intro rfl (And.intro rfl (And.intro rfl (And.intro rfl trivial)))))))))))
          ·first | omega | (dsimp only; omega)
          ·exact ⟨by omega, by omega, hx3, hy3, (by rw [decide_eq_true_iff, decide_eq_decide]; exact ⟨fun h g g0 g1 => by by_cases e : g = k; (rw [e]; exact h); (exact hz.1 q1 g g0 (by omega)), fun h => h k hk0 (by omega)⟩), hO70⟩
         ·refine rq_gskip rfl rfl rfl rfl rfl rfl <| rq_gskip rfl rfl rfl rfl rfl rfl <| rq_gskip rfl rfl rfl rfl rfl rfl <| rq_gskip rfl rfl rfl rfl rfl rfl <| rq_gskip rfl rfl rfl rfl rfl rfl <| rq_gskip rfl rfl rfl rfl rfl rfl <| rq_gskip rfl rfl rfl rfl rfl rfl <| rq_gskip rfl rfl rfl rfl rfl rfl <| rq_gskip rfl rfl rfl rfl rfl rfl <| rq_gskip rfl rfl rfl rfl rfl rfl <| rq_gskip rfl rfl rfl rfl rfl rfl <| rq_gskip rfl rfl rfl rfl rfl rfl <| rq_gskip rfl rfl rfl rfl rfl rfl <| rq_v rfl rfl rfl (fun _ => ov_pick_f rfl rfl rfl) ?_
          refine rq_v rfl rfl rfl (fun _ => ov_assign rfl rfl) ?_
          refine rq_nil (fun n71 => ?_)
          have hO73 := hO9.drewN n71
          generalize World.drewN w65 n71 = w72 at hO73 ⊢
          refine run_inBlock <| run_region <| rl_v rfl rfl rfl (ov_move rfl rfl) <| rl_v rfl rfl rfl (ov_add rfl rfl rfl (by omega)) ?_
          refine rl_v rfl rfl rfl (ov_assign rfl rfl) <| rl_nil ?_
          refine Run.use (ih62 (k + 1) (x2) (y2) (false) _ ?_ ?_) (And.intro (by exact slot_int rfl (by first | omega)) (And.intro (by exact slot_int rfl (by first | omega)) (And.intro (by exact slot_int rfl (by first | omega)) (And.intro (by rfl) (And.intro rfl (And.intro rfl (And.intro rfl (And.intro rfl (And.intro rfl (And.intro rfl (And.intro rfl trivial)))))))))))
          ·first | omega | (dsimp only; omega)
          ·exact ⟨by omega, by omega, hx3, hy3, ⟨fun h => Bool.noConfusion h, fun h => by rw [hz.2 fun g g0 g1 => h g g0 (by omega)] at q1; exact Bool.noConfusion q1⟩, hO73⟩
      ·obtain rfl : k = f.n := by omega
       have hxy : x = y := by rw [hx, hy]; exact (hsh.cnt b hb0 (by omega)).symm
       obtain ⟨qb, hqb⟩ := hF.q.addr
       have hqb' := hqb (by omega)
       refine run_exit rfl <| run_seq <| run_region <| rl_v rfl rfl rfl (ov_move rfl rfl) <| rl_v rfl rfl rfl (ov_move rfl rfl) <| rl_v rfl rfl rfl (ov_neq rfl rfl rfl) <| rl_v rfl rfl rfl (ov_move rfl rfl) ?_
       first | refine rl_noD 185 rfl ((show ¬ x ≠ y from fun h => h hxy)) ?_ | refine rl_no 185 rfl ((show ¬ x ≠ y from fun h => h hxy)) ?_
       refine rl_gv rfl rfl rfl rfl rfl (ov_move rfl rfl) <| rl_gv rfl rfl rfl rfl rfl (ov_fieldS rfl Tryz.underlying25 rfl (fo := 2) rfl (by kernel_rfl) rfl) ?_
       refine rl_gv rfl rfl rfl rfl rfl (ov_load rfl Tryz.underlying23 rfl rfl (by exact hO7.cellL 3 hV3 (off := 2) rfl)) ?_
       refine rl_gv rfl rfl rfl rfl rfl (ov_move rfl rfl) <| rl_gv rfl rfl rfl rfl rfl (ov_index1 rfl Tryz.underlying23 (by kernel_rfl) rfl rfl ⟨by omega, by omega⟩ (by exact (id hqb'))) ?_
       refine rl_gv rfl rfl rfl rfl rfl (ov_load rfl Tryz.underlying3 rfl rfl (by exact IRow.cellA hF.q (hO7.sub (hsK.trans hsW)) 0 hqK hqb' (i := b) hb0 (by omega))) ?_
       refine rl_gv rfl rfl rfl rfl rfl (ov_lss rfl rfl rfl) <| rl_gv rfl rfl rfl rfl rfl (ov_move rfl rfl) ?_
       first | refine rl_split_dec 193 rfl (fun q2 => ?_) (fun q2 => ?_) | refine rl_split 193 rfl (fun q2 => ?_) (fun q2 => ?_)
       ·refine rl_gv rfl rfl rfl rfl rfl (ov_move rfl rfl) <| rl_gv rfl rfl rfl rfl rfl (ov_not rfl rfl) <| rl_gv rfl rfl rfl rfl rfl (ov_pick_t rfl rfl rfl) <| rl_v rfl rfl rfl (ov_pick_f rfl rfl rfl) <| rl_nil ?_
        first | refine run_cond_dec rfl (fun bad => ?_) (fun bad => ?_) | refine run_cond rfl (fun bad => ?_) (fun bad => ?_)
        ·exfalso; have q3 : x < f.q b := q2; have h5 := hz.2 (fun g g0 g1 => (hsh.low b hb0 (by omega) (by rw [show f.cnt l1 b = x from hy.symm.trans hxy.symm]; exact q3) g g0 g1).symm); rw [h5] at bad; exact Bool.noConfusion bad
        ·refine run_skip <| run_inBlock <| run_region <| rl_v rfl rfl rfl (ov_move rfl rfl) <| rl_v rfl rfl rfl (ov_add rfl rfl rfl (by omega)) ?_
         refine rl_v rfl rfl rfl (ov_assign rfl rfl) <| rl_nil ?_
         refine Run.use (ih60 (b + 1) _ ?_ ?_) (And.intro (by exact slot_int rfl (by first | omega)) (And.intro rfl (And.intro rfl (And.intro rfl (And.intro rfl (And.intro rfl (And.intro rfl trivial)))))))
         ·first | omega | (dsimp only; omega)
         ·exact ⟨by omega, hO7⟩
       ·refine rl_gskip rfl rfl rfl rfl rfl rfl <| rl_gskip rfl rfl rfl rfl rfl rfl <| rl_gv rfl rfl rfl rfl rfl (ov_pick_f rfl rfl rfl) <| rl_v rfl rfl rfl (ov_pick_f rfl rfl rfl) <| rl_nil <| run_cond_f rfl <| run_skip <| run_inBlock <| run_region <| rl_v rfl rfl rfl (ov_move rfl rfl) <| rl_v rfl rfl rfl (ov_add rfl rfl rfl (by omega)) ?_
        refine rl_v rfl rfl rfl (ov_assign rfl rfl) <| rl_nil ?_
        refine Run.use (ih60 (b + 1) _ ?_ ?_) (And.intro (by exact slot_int rfl (by first | omega)) (And.intro rfl (And.intro rfl (And.intro rfl (And.intro rfl (And.intro rfl (And.intro rfl trivial)))))))
        ·first | omega | (dsimp only; omega)
        ·exact ⟨by omega, hO7⟩
     ·refine run_exit rfl <| run_inBlock <| run_region <| rl_v rfl rfl rfl (ov_move rfl rfl) <| rl_v rfl rfl rfl (ov_add rfl rfl rfl (by omega)) ?_
      refine rl_v rfl rfl rfl (ov_assign rfl rfl) <| rl_nil ?_
      refine Run.use (ih37 (i + 1) _ ?_ ?_) (And.intro (by exact slot_int rfl (by first | omega)) (And.intro rfl (And.intro rfl (And.intro rfl (And.intro rfl trivial)))))
      ·first | omega | (dsimp only; omega)
      ·exact ⟨by omega, hO6⟩
  ·refine run_exit rfl <| run_seq <| run_region ?_
   refine rl_call callable_15 rfl rfl rfl rfl rfl rfl (awake5_any sortRows_all _) (fun e75 w76 hp77 => ?_)
   obtain ⟨rfl, hb9⟩ := hp77
   refine ⟨_, rfl, ?_⟩
   have hO78 := hO4.past hb9
   refine rl_v rfl rfl rfl (ov_assign rfl rfl) <| rl_nil <| run_ret Tryz.func3 (res1 Tryz.results3 rfl) ?_
   exact ⟨rfl, hO78.below⟩
end Go.Proofs.YtlldeifbfpmbaaaGreat
