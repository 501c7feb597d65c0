import Derived.Test.YtlldeifbfpmbaaaGreatFoS
import Derived.Test.YtlldeifbfpmbaaaGreatFkF
set_option maxRecDepth 100000
namespace Go.Proofs.YtlldeifbfpmbaaaGreat
open Go.RowKit Go.Proofs Go.MapKept
theorem cer_same {f : Fair} {N : Nat} {A : Nat → Int → Int} {l1 l2 nb : Int → Int} (hf : f.Ok) (hA : f.AllS N A) (hB : f.Best l1) (hW : f.AS l2 nb) (hst : f.Stab l2) :
  cerL (fun g => 0 ≤ l1 g ∧ l2 g = l1 g) l1 f.n = cerL (fun g => 0 ≤ A (0 : Int).toNat g ∧ ∀ r : Int, 1 ≤ r → r < N → A r.toNat g = A (0 : Int).toNat g) (A (0 : Int).toNat) f.n := cerL_congr fun g g0 g1 => by
 have h := certain_iff hf hA hB hW hst g0 g1
 have e0 : (0 : Int).toNat = 0 := rfl
 rw [e0]
 refine ⟨h.trans ⟨fun ⟨h1, h2⟩ => ⟨h1, fun r r0 r1 => h2 r.toNat (by omega) (by omega)⟩, fun ⟨h1, h2⟩ => ⟨h1, fun r r0 r1 => by have := h2 r (by omega) (by omega); rw [Int.toNat_natCast] at this; exact this⟩⟩, fun hp => ?_⟩
 obtain ⟨j, hj, e⟩ := hA.all l1 hB.stab
 rw [← e g g0 g1]
 by_cases c : j = 0
 ·rw [c]
 ·exact (h.1 hp).2 j (by omega) hj
theorem most4 (z : Int) : 1 ≤ 1 + IntKind.i64.wrap (IntKind.u64.wrap z % 4) ∧ 1 + IntKind.i64.wrap (IntKind.u64.wrap z % 4) ≤ 4 := by
 have h1 : 0 ≤ IntKind.u64.wrap z % 4 := Int.emod_nonneg _ (by decide)
 have h2 : IntKind.u64.wrap z % 4 < 4 := Int.emod_lt_of_pos _ (by decide)
 rw [IntWalk.i64_in _ (by omega)]
 omega
theorem all2_any (ga ba qa : Option Addr) (gc bc qc : Nat) (f : Fair) (z : Int) (N : Nat) (A : Nat → Int → Int) (w : World) (hV : Valid5 f f.m) (hm12 : f.m ≤ 12) (hF : FAg w.heap.size w ga ba qa f f.m) (hR : RTab w.heap.size w ba f.m f.bl f.be) (hAS : f.AllS N A) :
  Calls Tryz.prog 10 #[.agg #[.slice ga f.n gc, .slice ba f.m bc, .slice qa f.m qc], iv z] w fun e w' => ∃ (va : Option Addr) (vc N1 : Nat) (A1 : Nat → Int → Int) (H : List (Option Blk)) (er : Int), e = .returned (.tuple #[.slice va N1 vc, iv er]) ∧ OTab (.slice va N1 vc) 23 3 N1 (fun _ => f.n) (fun r k => iv (A1 r.toNat k)) H ∧ Own w.heap.size w w' H ∧
   ((z < 1 ∨ 1000 < z) ∧ er = 1 ∧ N1 = 0 ∨ (1 ≤ z ∧ z ≤ 1000) ∧ er = 0 ∧ (N1 : Int) = min z N ∧ ∀ i : Nat, i < N1 → ∀ g : Int, 0 ≤ g → g < f.n → A1 i g = A i g) := by
 by_cases hz : z < 1 ∨ 1000 < z
 ·exact (allArg_any ga ba qa gc bc qc f w z hV hF hz).mono fun e w' ⟨h1, h2⟩ => ⟨none, 0, 0, fun _ _ => 0, [none], 1, h1, OTab.nil _ _ _ _, ((Own.init w).past h2).nil_cons, .inl ⟨hz, rfl, rfl⟩⟩
 ·obtain ⟨most, rfl⟩ := Int.eq_ofNat_of_zero_le (show 0 ≤ z by omega)
  refine (allX_any ga ba qa gc bc qc f most w hV hm12 hF hR (by omega) (by omega)).mono fun e w' ⟨va, vc, N1, A1, H, h1, h2, h3, h4⟩ => ⟨va, vc, N1, A1, H, 0, h1, h2, h3, .inr ⟨by omega, rfl, ?_⟩⟩
  rcases h4 with ⟨h4, h5⟩ | ⟨h4, V, h5⟩
  ·exact ⟨by have := h5.len_eq hAS; omega, fun i hi => h5.eqs hAS i hi⟩
  ·exact ⟨by have := h5.len_le hAS; omega, fun i hi => h5.eqs hAS i hi⟩
set_option maxHeartbeats 8000000 in
theorem ends5_any (ga ba qa : Option Addr) (n gc m bc nq qc : Nat) (GL BL : Int → Nat) (GE BE : Int → Int → Int) (q : Int → Int) (z : Int) (w : World)
  (hG : RTab w.heap.size w ga n GL GE) (hB : RTab w.heap.size w ba m BL BE) (hQ : IAt w.heap.size w qa nq (fun i => iv (q i))) :
  Calls Tryz.prog 4 #[.agg (fairL ga ba qa n gc m bc nq qc).toArray, iv z] w fun e w' => e = .returned (.bool true) ∧ Below w.heap.size w w' := by
 refine calls_of_run (F := [(0, _), (1, _)]) Tryz.func4 rfl Tryz.ntmps4 rfl rfl ?_
 have hO0 := Own.init w
 refine run_seq <| run_region <| rl_ow rfl (ow_box _ rfl rfl rfl rfl rfl hO0) ?_
 rintro _ w1 ⟨b3, rfl, hO2, hs3⟩
 refine rl_v rfl rfl rfl (ov_assign rfl rfl) <| rl_nil <| run_seq <| run_region <| rl_v rfl rfl rfl (ov_loadW rfl Tryz.underlying25 rfl (by kernel_rfl) rfl hO2 0 rfl) ?_
 refine rl_call callable_8 rfl rfl rfl rfl rfl rfl (tame5_any ga ba qa n gc m bc nq qc 4 3 GL BL GE BE q _ (by decide) (by decide) (hO2.rtab hG) (hO2.rtab hB) (hO2.iatF hQ)) (fun e4 w5 hp6 => ?_)
 obtain ⟨f, ga1, ba1, qa1, gc1, bc1, qc1, Hg, Hb, cq, rfl, hfn, hfm, hF, hO1⟩ := hp6
 refine ⟨_, rfl, ?_⟩
 have hO7 := hO2.join hO1
 have hV := hF.ok
 have hlg := hV.lg
 have hn4 : f.n ≤ 4 := by omega
 have hm4 : f.m ≤ 4 := by omega
 refine rl_ow rfl (ow_alloc _ rfl rfl rfl zero_25 rfl hO7) ?_
 rintro _ w8 ⟨b5, rfl, hO9, hs10⟩
 refine rl_ow rfl (ow_storeW rfl rfl (by kernel_rfl) hO9 0 rfl rfl (by rfl) rfl (by rfl)) ?_
 rintro _ w11 ⟨rfl, hO12, hs13⟩
 refine rl_nil <| run_seq <| run_region <| rl_v rfl rfl rfl (ov_loadW rfl Tryz.underlying25 rfl (by kernel_rfl) rfl hO12 0 rfl) ?_
 refine rl_call callable_9 rfl rfl rfl rfl rfl rfl (give5_any ga1 ba1 qa1 f.n gc1 f.m bc1 f.m qc1 _) (fun e14 w15 hp16 => ?_)
 obtain ⟨rfl, hbl1⟩ := hp16
 refine ⟨_, rfl, ?_⟩
 have hO17 := hO12.past hbl1
 refine rl_ow rfl (ow_alloc _ rfl rfl rfl zero_27 rfl hO17) ?_
 rintro _ w18 ⟨b6, rfl, hO19, hs20⟩
 refine rl_ow rfl (ow_storeW rfl rfl (by kernel_rfl) hO19 0 rfl rfl (by rfl) rfl (by rfl)) ?_
 rintro _ w21 ⟨rfl, hO22, hs23⟩
 obtain ⟨K, hK⟩ : ∃ K, K = (cq :: (Hg ++ Hb)) := ⟨_, rfl⟩
 have hSK : FSrc K ga1 ba1 qa1 f := by rw [hK]; exact hF.src
 have hRK : ∀ {B : Nat} {w0 w' : World}, Own B w0 w' K → RTab w'.heap.size w' ba1 f.m f.bl f.be := fun hO => hF.b.rtab (hO.sub (by rw [hK]; exact .cons _ (List.sublist_append_right _ _)))
 have hOa : Own w.heap.size w w21 (some (lch b6 27 (fairL ga1 ba1 qa1 f.n gc1 f.m bc1 f.m qc1)) :: some (lch b5 25 (fairL ga1 ba1 qa1 f.n gc1 f.m bc1 f.m qc1)) :: K) := by
  have h := hO22
  rw [← hK] at h
  exact h.sub (.cons_cons _ (.cons_cons _ (List.sublist_append_left _ _)))
 clear hK
 refine rl_nil <| run_seq <| run_region <| rl_v rfl rfl rfl (ov_loadW rfl Tryz.underlying25 rfl (by kernel_rfl) rfl hOa 1 rfl) ?_
 refine rl_call callable_16 rfl rfl rfl rfl rfl rfl (refAll_any ga1 ba1 qa1 gc1 bc1 qc1 f _ hV hn4 hm4 (hSK.at hOa.tail.tail)) (fun e24 w25 hp26 => ?_)
 obtain ⟨va, vc, N, A, HA, rfl, hN, hTA, hOA, hAS⟩ := hp26
 refine ⟨_, rfl, ?_⟩
 have hO27 := hOa.join hOA
 have hOb := hO27.perm List.perm_append_comm
 have hpos := hAS.pos hV.ok
 refine rl_v rfl rfl rfl (ov_assign rfl rfl) <| rl_nil <| run_seq <| run_seq <| run_region <| rl_v rfl rfl rfl (ov_move rfl rfl) <| rl_v rfl rfl rfl (ov_len rfl Tryz.underlying22 rfl) <| rl_v rfl rfl rfl (ov_eql rfl rfl rfl) <| rl_nil ?_
 first | refine run_cond_dec rfl (fun bad => ?_) (fun bad => ?_) | refine run_cond rfl (fun bad => ?_) (fun bad => ?_)
 ·exfalso; omega
 ·obtain ⟨W, hW⟩ : ∃ W, W = some (lch b6 27 (fairL ga1 ba1 qa1 f.n gc1 f.m bc1 f.m qc1)) :: some (lch b5 25 (fairL ga1 ba1 qa1 f.n gc1 f.m bc1 f.m qc1)) :: (K ++ HA) := ⟨_, rfl⟩
  have hSW : FSrc W ga1 ba1 qa1 f := by rw [hW]; exact hSK.sub (.cons _ (.cons _ (List.sublist_append_left _ _)))
  have hRW : ∀ {B : Nat} {w0 w' : World}, Own B w0 w' W → RTab w'.heap.size w' ba1 f.m f.bl f.be := fun hO => hRK (hO.sub (by rw [hW]; exact .cons _ (.cons _ (List.sublist_append_left _ _))))
  have hW0 : W[0]? = some (some (lch b6 27 (fairL ga1 ba1 qa1 f.n gc1 f.m bc1 f.m qc1))) := by rw [hW]; rfl
  have hW1 : W[1]? = some (some (lch b5 25 (fairL ga1 ba1 qa1 f.n gc1 f.m bc1 f.m qc1))) := by rw [hW]; rfl
  have hsA : HA.Sublist W := by rw [hW]; exact .cons _ (.cons _ (List.sublist_append_right _ _))
  have hOW : Own w.heap.size w w25 W := by rw [hW]; exact hOb
  clear hW
  have hTab : ∀ {B : Nat} {w0 w' : World}, Own B w0 w' W → ITab w'.heap.size w' va N (fun _ => f.n) (fun r c => iv (A r.toNat c)) := fun h => hTA.reads (H' := []) (by rw [List.append_nil]; exact h.sub hsA)
  obtain ⟨RA, RC, gb, go, hga, hrd⟩ := (OTab.rown (F := fun r k => A r.toNat k) hTA).addr (hOW.sub hsA) hpos
  refine run_skip <| run_seq <| run_region <| rl_v rfl rfl rfl (ov_loadW rfl Tryz.underlying27 rfl (by kernel_rfl) rfl hOW 0 (hW0)) ?_
  refine rl_call callable_11 rfl rfl rfl rfl rfl rfl (growers_any ga1 ba1 qa1 gc1 bc1 qc1 f _ hV (hSW.at hOW)) (fun e28 w29 hp30 => ?_)
  obtain ⟨o1, l1, rfl, hO2, hB1⟩ := hp30
  refine ⟨_, rfl, ?_⟩
  have hO31 := hOW.join hO2
  refine rl_v rfl rfl rfl (ov_move rfl rfl) <| rl_v rfl rfl rfl (ov_extract rfl rfl (by rfl)) ?_
  refine rl_v rfl rfl rfl (ov_extract rfl rfl (by rfl)) ?_
  refine rl_v rfl rfl rfl (ov_assign rfl rfl) <| rl_v rfl rfl rfl (ov_assign rfl rfl) <| rl_nil <| run_seq <| run_region <| rl_v rfl rfl rfl (ov_loadW rfl Tryz.underlying27 rfl (by kernel_rfl) rfl hO31 1 ((show ((_ :: W)[1]? : Option (Option Blk)) = _ from hW0))) ?_
  refine rl_call callable_12 rfl rfl rfl rfl rfl rfl (brewers_any ga1 ba1 qa1 gc1 bc1 qc1 f _ hV (hSW.at hO31.tail)) (fun e32 w33 hp34 => ?_)
  obtain ⟨o2, l2, nb, rfl, hO3, hA2, hD2⟩ := hp34
  refine ⟨_, rfl, ?_⟩
  have hO35 := hO31.join hO3
  have hst2 := hA2.stab hD2
  refine rl_v rfl rfl rfl (ov_move rfl rfl) <| rl_v rfl rfl rfl (ov_extract rfl rfl (by rfl)) ?_
  refine rl_v rfl rfl rfl (ov_extract rfl rfl (by rfl)) ?_
  refine rl_v rfl rfl rfl (ov_assign rfl rfl) <| rl_v rfl rfl rfl (ov_assign rfl rfl) <| rl_nil <| run_seq <| run_seq <| run_region <| rl_v rfl rfl rfl (ov_move rfl rfl) <| rl_v rfl rfl rfl (ov_neq rfl rfl rfl) <| rl_v rfl rfl rfl (ov_move rfl rfl) ?_
  first | refine rl_noD 41 rfl (fun h => h rfl) ?_ | refine rl_no 41 rfl (fun h => h rfl) ?_
  refine rl_gv rfl rfl rfl rfl rfl (ov_move rfl rfl) <| rl_gv rfl rfl rfl rfl rfl (ov_neq rfl rfl rfl) <| rl_v rfl rfl rfl (ov_pick_f rfl rfl rfl) <| rl_v rfl rfl rfl (ov_move rfl rfl) ?_
  first | refine rl_noD 45 rfl (fun h => h rfl) ?_ | refine rl_no 45 rfl (fun h => h rfl) ?_
  refine rl_gv rfl rfl rfl rfl rfl (ov_move rfl rfl) <| rl_gv rfl rfl rfl rfl rfl (ov_loadW rfl Tryz.underlying25 rfl (by kernel_rfl) rfl hO35 3 ((show ((_ :: _ :: W)[3]? : Option (Option Blk)) = _ from hW1))) ?_
  refine rl_gv rfl rfl rfl rfl rfl (ov_move rfl rfl) ?_
  refine rl_gcall callable_18 rfl rfl rfl rfl rfl rfl rfl rfl (refBest_any ga1 ba1 qa1 va gc1 bc1 qc1 f.m N vc f (fun r c => A r.toNat c) _ hlg (hSW.at hO35.tail.tail) hpos (by omega) (hTab hO35.tail.tail)) (fun e36 w37 hp38 => ?_)
  obtain ⟨v1, vc1, c3, s1, rfl, hr1, hO4, hBL⟩ := hp38
  refine ⟨_, rfl, ?_⟩
  have hO39 := hO35.join hO4
  refine rl_gcall callable_17 rfl rfl rfl rfl rfl rfl rfl rfl (ints5_any (some ⟨o1, 0, none⟩) v1 f.n f.n f.n vc1 l1 s1 _ hlg.n (hO39.readsI 2 rfl) (hr1.reads hO39 0 rfl)) (fun e40 w41 hp42 => ?_)
  obtain ⟨⟨y1, rfl, hy1⟩, hbl3⟩ := hp42
  refine ⟨_, rfl, ?_⟩
  have hO43 := hO39.past hbl3
  have hz1 : y1 = true := hy1.2 ⟨rfl, bestL_all hAS hB1 hBL⟩
  subst hz1
  refine rl_gv rfl rfl rfl rfl rfl (ov_not rfl rfl) <| rl_v rfl rfl rfl (ov_pick_f rfl rfl rfl) <| rl_v rfl rfl rfl (ov_move rfl rfl) ?_
  first | refine rl_noD 53 rfl (rfl) ?_ | refine rl_no 53 rfl (rfl) ?_
  refine rl_gv rfl rfl rfl rfl rfl (ov_move rfl rfl) <| rl_gv rfl rfl rfl rfl rfl (ov_loadW rfl Tryz.underlying25 rfl (by kernel_rfl) rfl hO43 4 ((show ((_ :: _ :: _ :: W)[4]? : Option (Option Blk)) = _ from hW1))) ?_
  refine rl_gv rfl rfl rfl rfl rfl (ov_move rfl rfl) ?_
  refine rl_gcall callable_18 rfl rfl rfl rfl rfl rfl rfl rfl (refWorst_any ga1 ba1 qa1 va gc1 bc1 qc1 f.m N vc f (fun r c => A r.toNat c) _ hlg (hSW.at hO43.tail.tail.tail) hpos (by omega) (hTab hO43.tail.tail.tail)) (fun e44 w45 hp46 => ?_)
  obtain ⟨v2, vc2, c4, s2, rfl, hr2, hO5, hWL⟩ := hp46
  refine ⟨_, rfl, ?_⟩
  have hO47 := hO43.join hO5
  refine rl_gcall callable_17 rfl rfl rfl rfl rfl rfl rfl rfl (ints5_any (some ⟨o2, 0, none⟩) v2 f.n f.n f.n vc2 l2 s2 _ hlg.n (hO47.readsI 2 rfl) (hr2.reads hO47 0 rfl)) (fun e48 w49 hp50 => ?_)
  obtain ⟨⟨y2, rfl, hy2⟩, hbl4⟩ := hp50
  refine ⟨_, rfl, ?_⟩
  have hO51 := hO47.past hbl4
  have hz2 : y2 = true := hy2.2 ⟨rfl, worstL_all hV.ok hAS hA2 hst2 hWL⟩
  subst hz2
  refine rl_gv rfl rfl rfl rfl rfl (ov_not rfl rfl) <| rl_v rfl rfl rfl (ov_pick_f rfl rfl rfl) <| rl_nil ?_
  first | refine run_cond_dec rfl (fun bad => ?_) (fun bad => ?_) | refine run_cond rfl (fun bad => ?_) (fun bad => ?_)
  ·exfalso; exact Bool.noConfusion bad
  ·have hOc := hO51.tail.tail.tail.tail
   refine run_skip <| run_seq <| run_region <| rl_v rfl rfl rfl (ov_loadW rfl Tryz.underlying27 rfl (by kernel_rfl) rfl hOc 0 (hW0)) ?_
   refine rl_call callable_19 rfl rfl rfl rfl rfl rfl (certain_any ga1 ba1 qa1 gc1 bc1 qc1 f _ hV (hSW.at hOc)) (fun e52 w53 hp54 => ?_)
   obtain ⟨v3, c5, l3, l4, nb3, rfl, hB3, hA4, hD4, hr3, hO6⟩ := hp54
   refine ⟨_, rfl, ?_⟩
   have hO55 := hOc.join hO6
   rw [cer_same hV.ok hAS hB3 hA4 (hA4.stab hD4)] at hr3
   refine rl_v rfl rfl rfl (ov_move rfl rfl) <| rl_v rfl rfl rfl (ov_extract rfl rfl (by rfl)) ?_
   refine rl_v rfl rfl rfl (ov_extract rfl rfl (by rfl)) ?_
   refine rl_v rfl rfl rfl (ov_assign rfl rfl) <| rl_v rfl rfl rfl (ov_assign rfl rfl) <| rl_nil <| run_seq <| run_region <| rl_v rfl rfl rfl (ov_move rfl rfl) ?_
   refine rl_call callable_20 rfl rfl rfl rfl rfl rfl (refCertain_any va N vc f.n (fun r c => A r.toNat c) _ hpos (by omega) (by omega) (hTab hO55.tail)) (fun e56 w57 hp58 => ?_)
   obtain ⟨v4, c6, rfl, hr4, hO7⟩ := hp58
   refine ⟨_, rfl, ?_⟩
   have hO59 := hO55.join hO7
   obtain ⟨L, hL⟩ : ∃ L, L = cerL (fun g => 0 ≤ A (0 : Int).toNat g ∧ ∀ r : Int, 1 ≤ r → r < N → A r.toNat g = A (0 : Int).toNat g) (A (0 : Int).toNat) f.n := ⟨_, rfl⟩
   rw [← hL] at hr3
   have hr4' : SRow v4 47 2 L.length (prG L) c6 := by rw [hL]; exact hr4
   have hlL : L.length ≤ f.n := by rw [hL]; exact cerL_len _ _ _
   obtain ⟨a3, p3, rfl⟩ := Row.val hr3
   obtain ⟨a4, p4, rfl⟩ := Row.val hr4'
   refine rl_v rfl rfl rfl (ov_assign rfl rfl) <| rl_nil <| run_seq <| run_seq <| run_region <| rl_v rfl rfl rfl (ov_move rfl rfl) <| rl_v rfl rfl rfl (ov_neq rfl rfl rfl) <| rl_v rfl rfl rfl (ov_move rfl rfl) ?_
   first | refine rl_noD 70 rfl (fun h => h rfl) ?_ | refine rl_no 70 rfl (fun h => h rfl) ?_
   refine rl_gv rfl rfl rfl rfl rfl (ov_move rfl rfl) <| rl_gv rfl rfl rfl rfl rfl (ov_len rfl Tryz.underlying41 rfl) <| rl_gv rfl rfl rfl rfl rfl (ov_move rfl rfl) <| rl_gv rfl rfl rfl rfl rfl (ov_len rfl Tryz.underlying44 rfl) <| rl_gv rfl rfl rfl rfl rfl (ov_neq rfl rfl rfl) <| rl_v rfl rfl rfl (ov_pick_f rfl rfl rfl) <| rl_nil ?_
   first | refine run_cond_dec rfl (fun bad => ?_) (fun bad => ?_) | refine run_cond rfl (fun bad => ?_) (fun bad => ?_)
   ·exfalso; exact bad rfl
   ·refine run_skip <| run_seq <| run_seq <| run_region <| rl_v rfl rfl rfl (ov_assign rfl rfl) <| rl_nil <| run_block <| Run.keep [1, 6, 7, 12, 14, 15] (F' := [(1, _), (6, _), (7, _), (12, _), (14, _), (15, _)]) rfl <| run_loop1 (fun (i : Int) => [(15, .int .i64 i)]) [1, 6, 7, 12, 14] (fun (i : Int) (w60 : World) => 0 ≤ i ∧ Own w.heap.size w w60 (c6 :: c5 :: W)) (fun (i : Int) => (L.length - i).toNat) (0) ?_ (And.intro (by exact slot_int rfl (by first | omega)) (And.intro rfl (And.intro rfl (And.intro rfl (And.intro rfl (And.intro rfl trivial)))))) ?_
    ·exact ⟨by omega, hO59⟩
    intro i w60 hIw60 ih61
    obtain ⟨hi0, hO8⟩ := hIw60
    show Run _ _ _ _ [(15, _), (1, _), (6, _), (7, _), (12, _), (14, _)] _ _
    refine run_seq <| run_seq <| run_region <| rl_v rfl rfl rfl (ov_move rfl rfl) <| rl_v rfl rfl rfl (ov_move rfl rfl) <| rl_v rfl rfl rfl (ov_len rfl Tryz.underlying41 rfl) <| rl_v rfl rfl rfl (ov_lss rfl rfl rfl) <| rl_nil ?_
    first | refine run_cond_dec rfl (fun c7 => ?_) (fun c7 => ?_) | refine run_cond rfl (fun c7 => ?_) (fun c7 => ?_)
    ·obtain ⟨bL, hbL⟩ := hr3.addr
     have hbL' := hbL (by omega)
     obtain ⟨bw, hbw⟩ := hr4'.addr
     have hbw' := hbw (by omega)
     refine run_skip <| run_seq <| run_block <| run_seq <| run_class (Cl5 w.heap.size w (c6 :: c5 :: W)) (⟨hO8.drew⟩) mixed (by kernel_rfl) ?_
     refine rk_v rfl rfl rfl (fun wq hQ => ov_move rfl rfl) ?_
     refine rk_v rfl rfl rfl (fun wq hQ => ov_move rfl rfl) ?_
     refine rk_v rfl rfl rfl (fun wq hQ => ov_index rfl Tryz.underlying41 (by kernel_rfl) (s := 2) rfl rfl ⟨by omega, by omega⟩ (by exact (id hbL'))) ?_
     refine rk_v rfl rfl rfl (fun wq hQ => ov_loadE rfl Tryz.underlying48 rfl (by kernel_rfl) rfl ⟨by omega, by omega⟩ rfl (hr3.cellsE (hQ.own) 1 rfl hbL')) ?_
     refine rk_v rfl rfl rfl (fun wq hQ => ov_move rfl rfl) ?_
     refine rk_v rfl rfl rfl (fun wq hQ => ov_move rfl rfl) ?_
     refine rk_v rfl rfl rfl (fun wq hQ => ov_index rfl Tryz.underlying44 (by kernel_rfl) (s := 2) rfl rfl ⟨by omega, by omega⟩ (by exact (id hbw'))) ?_
     refine rk_v rfl rfl rfl (fun wq hQ => ov_loadE rfl Tryz.underlying47 rfl (by kernel_rfl) rfl ⟨by omega, by omega⟩ rfl (hr4'.cellsE (hQ.own) 0 rfl hbw')) ?_
     refine rk_v rfl rfl rfl (fun wq hQ => ov_neqPr rfl rfl rfl) ?_
     refine rk_nil (fun w62 hQ3 => ?_)
     refine run_cond_f rfl <| run_skip <| run_inBlock <| run_region <| rl_v rfl rfl rfl (ov_move rfl rfl) <| rl_v rfl rfl rfl (ov_add rfl rfl rfl (by omega)) ?_
     refine rl_v rfl rfl rfl (ov_assign rfl rfl) <| rl_nil ?_
     refine Run.use (ih61 (i + 1) _ ?_ ?_) (And.intro (by exact slot_int rfl (by first | omega)) (And.intro rfl (And.intro rfl (And.intro rfl (And.intro rfl (And.intro rfl trivial))))))
     ·first | omega | (dsimp only; omega)
     ·exact ⟨by omega, (hQ3.own)⟩
    ·have hOd := hO8.tail.tail
     refine run_exit rfl <| run_seq <| run_seq <| run_region <| rl_v rfl rfl rfl (ov_assign rfl rfl) <| rl_nil <| run_block <| Run.keep [1, 6, 7, 16] (F' := [(1, _), (6, _), (7, _), (16, _)]) rfl <| run_loop2 (fun (k : Int) (z : Int) => [(16, .int .i64 k), (1, .int .i64 z)]) [6, 7] (fun (k : Int) (z : Int) (w63 : World) => 0 ≤ k ∧ Own w.heap.size w w63 W) (fun (k : Int) (z : Int) => (2 - k).toNat) (0) (z) ?_ (And.intro (by exact slot_int rfl (by first | omega)) (And.intro (by exact slot_int rfl (by first | omega)) (And.intro rfl (And.intro rfl trivial)))) ?_
     ·exact ⟨by omega, hOd⟩
     intro k z w63 hIw63 ih64
     obtain ⟨hk0, hO9⟩ := hIw63
     show Run _ _ _ _ [(16, _), (1, _), (6, _), (7, _)] _ _
     refine run_seq <| run_seq <| run_region <| rl_v rfl rfl rfl (ov_move rfl rfl) <| rl_v rfl rfl rfl (ov_lss rfl rfl rfl) <| rl_nil ?_
     first | refine run_cond_dec rfl (fun c8 => ?_) (fun c8 => ?_) | refine run_cond rfl (fun c8 => ?_) (fun c8 => ?_)
     ·refine run_skip <| run_seq <| run_block <| run_seq <| run_region <| rl_v rfl rfl rfl (ov_loadW rfl Tryz.underlying27 rfl (by kernel_rfl) rfl hO9 0 (hW0)) ?_
      refine rl_v rfl rfl rfl (ov_move rfl rfl) ?_
      refine rl_call callable_10 rfl rfl rfl rfl rfl rfl (all2_any ga1 ba1 qa1 gc1 bc1 qc1 f z N A _ hV (by omega) (hSW.at hO9) (hRW hO9) hAS) (fun e65 w66 hp67 => ?_)
      obtain ⟨v5, p5, N5, A5, H5, er, rfl, hT5, hO10, hcs⟩ := hp67
      refine ⟨_, rfl, ?_⟩
      have hO68 := hO9.join hO10
      have hm4 := most4 z
      refine rl_v rfl rfl rfl (ov_move rfl rfl) <| rl_v rfl rfl rfl (ov_extract rfl rfl (by rfl)) ?_
      refine rl_v rfl rfl rfl (ov_extract rfl rfl (by rfl)) ?_
      refine rl_v rfl rfl rfl (ov_assign rfl rfl) <| rl_v rfl rfl rfl (ov_assign rfl rfl) <| rl_nil <| run_seq <| run_seq <| run_region_join 107 (.bool (decide (z < 1 ∨ 1000 < z))) [1, 6, 7, 16, 17, 18] (fun hk69 => ?_) ?_
      ·refine rl_v rfl rfl rfl (ov_move rfl rfl) <| rl_v rfl rfl rfl (ov_lss rfl rfl rfl) <| rl_v rfl rfl rfl (ov_move rfl rfl) ?_
       first | refine rl_split_dec 104 rfl (fun hg70 => ?_) (fun hg70 => ?_) | refine rl_split 104 rfl (fun hg70 => ?_) (fun hg70 => ?_)
       ·refine rl_gskip rfl rfl rfl rfl rfl rfl <| rl_gskip rfl rfl rfl rfl rfl rfl <| rl_v rfl rfl rfl (ov_pick_t rfl rfl rfl) ?_
        refine rl_nil (hk69 _ (jbt rfl (by omega)) (And.intro rfl (And.intro rfl (And.intro rfl (And.intro rfl (And.intro rfl (And.intro rfl trivial)))))))
       ·refine rl_gv rfl rfl rfl rfl rfl (ov_move rfl rfl) <| rl_gv rfl rfl rfl rfl rfl (ov_gtr rfl rfl rfl) <| rl_v rfl rfl rfl (ov_pick_f rfl rfl rfl) ?_
        refine rl_nil (hk69 _ (jbd rfl (by omega)) (And.intro rfl (And.intro rfl (And.intro rfl (And.intro rfl (And.intro rfl (And.intro rfl trivial)))))))
      ·show Run _ _ _ _ [(107, _), (1, _), (6, _), (7, _), (16, _), (17, _), (18, _)] _ _
       refine Run.keep [1, 6, 7, 16, 17, 18, 107] (F' := [(1, _), (6, _), (7, _), (16, _), (17, _), (18, _), (107, _)]) rfl <| run_join1 (fun (u : Nat) => []) [1, 6, 7, 16] (fun (u : Nat) (w71 : World) => Own w.heap.size w w71 (H5 ++ W)) (fun hk72 => ?_) ?_
       ·first | refine run_cond_dec rfl (fun c9 => ?_) (fun c9 => ?_) | refine run_cond rfl (fun c9 => ?_) (fun c9 => ?_)
        ·obtain ⟨rfl, rfl⟩ : er = 1 ∧ N5 = 0 := by rcases hcs with ⟨_, h1, h2⟩ | ⟨h1, _⟩; (exact ⟨h1, h2⟩); omega
         refine run_seq <| run_region <| rl_v rfl rfl rfl (ov_move rfl rfl) <| rl_v rfl rfl rfl (ov_neq rfl rfl rfl) <| rl_v rfl rfl rfl (ov_move rfl rfl) ?_
         first | refine rl_noD 110 rfl (fun h => h rfl) ?_ | refine rl_no 110 rfl (fun h => h rfl) ?_
         refine rl_gv rfl rfl rfl rfl rfl (ov_move rfl rfl) <| rl_gv rfl rfl rfl rfl rfl (ov_len rfl Tryz.underlying22 rfl) <| rl_gv rfl rfl rfl rfl rfl (ov_neq rfl rfl rfl) <| rl_v rfl rfl rfl (ov_pick_f rfl rfl rfl) <| rl_nil ?_
         first | refine run_cond_dec rfl (fun bad => ?_) (fun bad => ?_) | refine run_cond rfl (fun bad => ?_) (fun bad => ?_)
         ·exfalso; exact bad rfl
         ·refine run_skip ?_
          refine Run.use (hk72 (0) _ ?_) (And.intro rfl (And.intro rfl (And.intro rfl (And.intro rfl trivial))))
          exact hO68
        ·obtain ⟨rfl, hN5, hA5⟩ : er = 0 ∧ (N5 : Int) = min z N ∧ ∀ i : Nat, i < N5 → ∀ g : Int, 0 ≤ g → g < f.n → A5 i g = A i g := by rcases hcs with ⟨h1, _⟩ | ⟨_, h1⟩; omega; exact h1
         refine run_seq <| run_seq <| run_region <| rl_v rfl rfl rfl (ov_move rfl rfl) <| rl_v rfl rfl rfl (ov_neq rfl rfl rfl) <| rl_v rfl rfl rfl (ov_move rfl rfl) ?_
         first | refine rl_noD 117 rfl (fun h => h rfl) ?_ | refine rl_no 117 rfl (fun h => h rfl) ?_
         refine rl_gv rfl rfl rfl rfl rfl (ov_move rfl rfl) <| rl_gv rfl rfl rfl rfl rfl (ov_len rfl Tryz.underlying22 rfl) <| rl_gv rfl rfl rfl rfl rfl (ov_move rfl rfl) <| rl_gv rfl rfl rfl rfl rfl (ov_move rfl rfl) <| rl_gv rfl rfl rfl rfl rfl (ov_len rfl Tryz.underlying22 rfl) <| rl_gv rfl rfl rfl rfl rfl (ov_min rfl rfl rfl) <| rl_gv rfl rfl rfl rfl rfl (ov_neq rfl rfl rfl) <| rl_v rfl rfl rfl (ov_pick_f rfl rfl rfl) <| rl_nil ?_
         first | refine run_cond_dec rfl (fun bad => ?_) (fun bad => ?_) | refine run_cond rfl (fun bad => ?_) (fun bad => ?_)
         ·exfalso; exact bad hN5
         ·refine run_skip <| run_seq <| run_region <| rl_v rfl rfl rfl (ov_assign rfl rfl) <| rl_nil <| run_block <| Run.keep [1, 6, 7, 16, 17, 19] (F' := [(1, _), (6, _), (7, _), (16, _), (17, _), (19, _)]) rfl <| run_loop1 (fun (j : Int) => [(19, .int .i64 j)]) [1, 6, 7, 16, 17] (fun (j : Int) (w73 : World) => 0 ≤ j ∧ Own w.heap.size w w73 (H5 ++ W)) (fun (j : Int) => (N5 - j).toNat) (0) ?_ (And.intro (by exact slot_int rfl (by first | omega)) (And.intro rfl (And.intro rfl (And.intro rfl (And.intro rfl (And.intro rfl trivial)))))) ?_
          ·exact ⟨by omega, hO68⟩
          intro j w73 hIw73 ih74
          obtain ⟨hj0, hO12⟩ := hIw73
          show Run _ _ _ _ [(19, _), (1, _), (6, _), (7, _), (16, _), (17, _)] _ _
          refine run_seq <| run_seq <| run_region <| rl_v rfl rfl rfl (ov_move rfl rfl) <| rl_v rfl rfl rfl (ov_move rfl rfl) <| rl_v rfl rfl rfl (ov_len rfl Tryz.underlying22 rfl) <| rl_v rfl rfl rfl (ov_lss rfl rfl rfl) <| rl_nil ?_
          first | refine run_cond_dec rfl (fun c10 => ?_) (fun c10 => ?_) | refine run_cond rfl (fun c10 => ?_) (fun c10 => ?_)
          ·obtain ⟨RA5, RC5, gb5, go5, hga5, hrd5⟩ := (OTab.rown (F := fun r k => A5 r.toNat k) hT5).addr (hO12.sub (List.sublist_append_left _ _)) (by omega)
           refine run_skip <| run_seq <| run_block <| run_seq <| run_class (Cl5 w.heap.size w (H5 ++ W)) (⟨hO12.drew⟩) mixed (by kernel_rfl) ?_
           refine rk_v rfl rfl rfl (fun wq hQ => ov_move rfl rfl) ?_
           refine rk_v rfl rfl rfl (fun wq hQ => ov_move rfl rfl) ?_
           refine rk_v rfl rfl rfl (fun wq hQ => ov_index1 rfl Tryz.underlying22 (by kernel_rfl) rfl rfl ⟨by omega, by omega⟩ (by exact (id hga5))) ?_
           refine rk_v rfl rfl rfl (fun wq hQ => ov_load rfl Tryz.underlying23 rfl rfl (by exact (hrd5 ((hQ.own).sub (List.sublist_append_left _ _))).1 j hj0 (by omega))) ?_
           refine rk_v rfl rfl rfl (fun wq hQ => ov_move rfl rfl) ?_
           refine rk_v rfl rfl rfl (fun wq hQ => ov_move rfl rfl) ?_
           refine rk_v rfl rfl rfl (fun wq hQ => ov_index1 rfl Tryz.underlying22 (by kernel_rfl) rfl rfl ⟨by omega, by omega⟩ (by exact (id hga))) ?_
           refine rk_v rfl rfl rfl (fun wq hQ => ov_load rfl Tryz.underlying23 rfl rfl (by exact (hrd ((hQ.own).sub (hsA.trans (List.sublist_append_right _ _)))).1 j hj0 (by omega))) ?_
           refine rk_call callable_17 rfl rfl rfl rfl rfl rfl (fun wq hQ => (callsDB (ints5_any (RA5 j) (RA j) f.n (RC5 j) f.n (RC j) (A5 j.toNat) (A j.toNat) _ hlg.n ((hrd5 ((hQ.own).sub (List.sublist_append_left _ _))).2 j hj0 (by omega)) ((hrd ((hQ.own).sub (hsA.trans (List.sublist_append_right _ _)))).2 j hj0 (by omega)))).mono fun _ _ h => ⟨h.1, ⟨(hQ.own).past h.2⟩⟩) ?_
           refine rk_v rfl rfl rfl (fun wq hQ => ov_not rfl rfl) ?_
           refine rk_nil (fun w78 hQ5 => ?_)
           first | refine run_cond_dec rfl (fun bad => ?_) (fun bad => ?_) | refine run_cond rfl (fun bad => ?_) (fun bad => ?_)
           ·exfalso; rw [dB_iff.2 ⟨rfl, hA5 j.toNat (by omega)⟩] at bad; exact Bool.noConfusion bad
           ·refine run_skip <| run_inBlock <| run_region <| rl_v rfl rfl rfl (ov_move rfl rfl) <| rl_v rfl rfl rfl (ov_add rfl rfl rfl (by omega)) ?_
            refine rl_v rfl rfl rfl (ov_assign rfl rfl) <| rl_nil ?_
            refine Run.use (ih74 (j + 1) _ ?_ ?_) (And.intro (by exact slot_int rfl (by first | omega)) (And.intro rfl (And.intro rfl (And.intro rfl (And.intro rfl (And.intro rfl trivial))))))
            ·first | omega | (dsimp only; omega)
            ·exact ⟨by omega, (hQ5.own)⟩
          ·refine run_exit rfl ?_
           refine Run.use (hk72 (0) _ ?_) (And.intro rfl (And.intro rfl (And.intro rfl (And.intro rfl trivial))))
           exact hO12
       ·intro u w71 hJw71
        have hO11 := hJw71
        show Run _ _ _ _ [(1, _), (6, _), (7, _), (16, _)] _ _
        have hOe := hO11.sub (List.sublist_append_right _ _)
        refine run_region <| rl_v rfl rfl rfl (ov_move rfl rfl) <| rl_v rfl rfl rfl (ov_conv rfl Tryz.underlying3 Tryz.underlying49 rfl) <| rl_v rfl rfl rfl (ov_rem rfl rfl rfl (u64_nn5 _) (by omega)) ?_
        refine rl_v rfl rfl rfl (ov_conv rfl Tryz.underlying49 Tryz.underlying3 rfl) <| rl_v rfl rfl rfl (ov_add rfl rfl rfl (by omega)) ?_
        refine rl_v rfl rfl rfl (ov_assign rfl rfl) <| rl_nil <| run_inBlock <| run_region <| rl_v rfl rfl rfl (ov_move rfl rfl) <| rl_v rfl rfl rfl (ov_add rfl rfl rfl (by omega)) ?_
        refine rl_v rfl rfl rfl (ov_assign rfl rfl) <| rl_nil ?_
        refine Run.use (ih64 (k + 1) (1 + IntKind.i64.wrap (IntKind.u64.wrap z % 4)) _ ?_ ?_) (And.intro (by exact slot_int rfl (by first | omega)) (And.intro (by exact slot_int rfl (by first | omega)) (And.intro rfl (And.intro rfl trivial))))
        ·first | omega | (dsimp only; omega)
        ·exact ⟨by omega, hOe⟩
     ·refine run_exit rfl <| run_seq <| run_region ?_
      refine rl_call callable_15 rfl rfl rfl rfl rfl rfl (awake5_any sortRows_all _) (fun e79 w80 hp81 => ?_)
      obtain ⟨rfl, hb9⟩ := hp81
      refine ⟨_, rfl, ?_⟩
      have hO82 := hO9.past hb9
      refine rl_v rfl rfl rfl (ov_assign rfl rfl) <| rl_nil <| run_ret Tryz.func4 (res1 Tryz.results4 rfl) ?_
      exact ⟨rfl, hO82.below⟩
end Go.Proofs.YtlldeifbfpmbaaaGreat
