import Derived.Test.YtfbbagnpdfafjaaHdF
import Derived.Test.YtfbbagnpdfafjaaHcV
set_option maxRecDepth 100000
namespace Go.Proofs.Ytfbbagnpdfafjaa
open Go.RowKit Go.Proofs
theorem copiedO_any (mm mn : Int) (pa ma : Option Addr) (pn pc mk mc : Nat) (rt cp : Int) (P : Int → Int) (L : Int → Nat) (F : Int → Int → Int) (B : Nat) (H : List (Option Blk)) (w0 w : World) (hO : Own B w0 w H) (hR : CfRd B w0 H pa pn pc ma mk P L F) :
  Calls Try.prog 43 #[.agg (cfL mm mn pa pn pc ma mk mc rt cp).toArray] w fun e w' => ∃ pa' ma' pc' mc' cb Hm, e = .returned (.agg (cfL mm mn pa' (min pn 20) pc' ma' (min mk 66) mc' rt cp).toArray) ∧ (min pn 20 ≤ pc' ∧ IRow (.slice pa' (min pn 20) pc') 2 (min pn 20) (fun i => iv (P i)) cb ∧ OTab (.slice ma' (min mk 66) mc') 22 2 (min mk 66) (fun r => min (L r) 20) (fun r c => iv (F r c)) Hm) ∧ Own B w0 w' (cb :: (Hm ++ H)) := by
 obtain ⟨hpc, hP, A, C, hT1, hT2, hLC⟩ := hR
 refine calls_of_run (F := [(0, _)]) Try.func43 rfl Try.ntmps43 rfl rfl <| run_seq <| run_region <| rl_ow rfl (ow_box _ rfl rfl rfl rfl rfl hO) ?_
 rintro _ w1 ⟨b1, rfl, hO2, hs3⟩
 refine rl_ow rfl (ow_alloc _ rfl rfl rfl zero_25 rfl hO2) ?_
 rintro _ w4 ⟨b2, rfl, hO5, hs6⟩
 refine rl_nil <| run_seq <| run_region <| rl_v rfl rfl rfl (ov_fieldS rfl Try.underlying25 rfl (fo := 0) rfl (by kernel_rfl) rfl) ?_
 refine rl_v rfl rfl rfl (ov_load rfl Try.underlying3 rfl rfl (by exact (show _ = some (iv mm) from hO5.cellL 1 rfl (off := 0) rfl))) ?_
 refine rl_v rfl rfl rfl (ov_fieldS rfl Try.underlying25 rfl (fo := 1) rfl (by kernel_rfl) rfl) ?_
 refine rl_v rfl rfl rfl (ov_load rfl Try.underlying3 rfl rfl (by exact (show _ = some (iv mn) from hO5.cellL 1 rfl (off := 1) rfl))) ?_
 refine rl_v rfl rfl rfl (ov_fieldS rfl Try.underlying25 rfl (fo := 4) rfl (by kernel_rfl) rfl) ?_
 refine rl_v rfl rfl rfl (ov_load rfl Try.underlying2 rfl rfl (by exact (show _ = some (iv rt) from hO5.cellL 1 rfl (off := 4) rfl))) ?_
 refine rl_v rfl rfl rfl (ov_fieldS rfl Try.underlying25 rfl (fo := 5) rfl (by kernel_rfl) rfl) ?_
 refine rl_v rfl rfl rfl (ov_load rfl Try.underlying2 rfl rfl (by exact (show _ = some (iv cp) from hO5.cellL 1 rfl (off := 5) rfl))) ?_
 refine rl_v rfl rfl rfl (ov_buildL rfl lay_25 rfl (us := [_, _, _, _, _, _]) rfl) <| rl_ow rfl (ow_alloc _ rfl rfl rfl zero_25 rfl hO5) ?_
 rintro _ w7 ⟨b3, rfl, hO8, hs9⟩
 refine rl_ow rfl (ow_storeW rfl rfl (by kernel_rfl) hO8 0 rfl rfl (by rfl) rfl (by rfl)) ?_
 rintro _ w10 ⟨rfl, hO11, hs12⟩
 have hOn := hO11.nil_cons
 refine rl_nil <| run_seq <| run_region <| rl_v rfl rfl rfl (ov_assign rfl rfl) <| rl_nil <| run_seq <| run_region <| rl_v rfl rfl rfl (ov_move rfl rfl) <| rl_v rfl rfl rfl (ov_fieldS rfl Try.underlying25 rfl (fo := 2) rfl (by kernel_rfl) rfl) ?_
 refine rl_v rfl rfl rfl (ov_load rfl Try.underlying22 rfl rfl (by exact hOn.cellL 3 rfl (off := 2) rfl)) ?_
 refine rl_v rfl rfl rfl (ov_fieldS rfl Try.underlying25 rfl (fo := 2) rfl (by kernel_rfl) rfl) ?_
 refine rl_v rfl rfl rfl (ov_load rfl Try.underlying22 rfl rfl (by exact hOn.cellL 3 rfl (off := 2) rfl)) ?_
 refine rl_v rfl rfl rfl (ov_len rfl Try.underlying22 rfl) <| rl_v rfl rfl rfl (ov_min rfl rfl rfl) <| rl_v rfl rfl rfl (ov_sliceH (min pn 20) (s := 1) rfl Try.underlying22 (by kernel_rfl) rfl rfl (by omega) (by omega)) ?_
 refine rl_ow rfl (ow_appS rfl rfl rfl Try.underlying22 info_2 rfl hOn 0 (IRow.nil 2 (fun _ => iv 0)) rfl rfl rfl (((hP _ (hOn.sub (.cons _ (.cons _ (.cons _ (.cons _ (.refl _))))))).take (by omega))) (fun _ => rfl) ⟨by omega, by omega⟩) ?_
 rintro _ w13 ⟨v25, c25, rfl, hO14, hr25, hs15⟩
 obtain ⟨a25, cp25, rfl, hcp25⟩ := Row.valC hr25
 refine rl_v rfl rfl rfl (ov_assign rfl rfl) <| rl_nil <| run_seq <| run_region <| rl_v rfl rfl rfl (ov_move rfl rfl) <| rl_v rfl rfl rfl (ov_fieldS rfl Try.underlying25 rfl (fo := 2) rfl (by kernel_rfl) rfl) ?_
 refine rl_ow rfl (ow_storeL rfl rfl (by kernel_rfl) hO14 1 rfl rfl rfl rfl rfl) ?_
 rintro _ w16 ⟨rfl, hO17, hs18⟩
 rw [Nat.zero_add] at hr25 hcp25
 have hO2 : Own B w0 w16 (some (lch b3 25 (cfL mm mn a25 (min pn 20) cp25 none 0 0 rt cp)) :: c25 :: some (lch b2 25 (cfL 0 0 none 0 0 none 0 0 0 0)) :: some (lch b1 25 (cfL mm mn pa pn pc ma mk mc rt cp)) :: H) := by
  have h := hO17.swap
  simp only [Nat.zero_add] at h
  exact h
 have hrP : IRow (.slice a25 (min pn 20) cp25) 2 (min pn 20) (fun i => iv (P i)) c25 := hr25.congr fun i i0 i1 => by unfold joinF; rw [if_neg (by omega)]; exact congrArg (fun j => iv (P j)) (by omega)
 refine rl_nil <| run_seq <| run_seq <| run_region <| rl_v rfl rfl rfl (ov_assign rfl rfl) <| rl_nil <| run_block <| Run.keep [1, 2, 3, 5] (F' := [(1, _), (2, _), (3, _), (5, _)]) rfl <| run_loop2 (fun (i : Int) (q : Nat) => [(5, .int .i64 i)]) [1, 2, 3] (fun (i : Int) (q : Nat) (w19 : World) => i = q ∧ q ≤ min mk 66 ∧ ∃ (v : Option Addr) (cq : Nat) (Hm : List (Option Blk)), OTab (.slice v q cq) 22 2 q (fun r => min (L r) 20) (fun r c => iv (F r c)) Hm ∧ q ≤ cq ∧ Own B w0 w19 (some (lch b3 25 (cfL mm mn a25 (min pn 20) cp25 v q cq rt cp)) :: (Hm ++ (c25 :: some (lch b2 25 (cfL 0 0 none 0 0 none 0 0 0 0)) :: some (lch b1 25 (cfL mm mn pa pn pc ma mk mc rt cp)) :: H)))) (fun (i : Int) (q : Nat) => min mk 66 - q) (0) (0) ?_ (And.intro (by exact slot_int rfl (by first | omega)) (And.intro rfl (And.intro rfl (And.intro rfl trivial)))) ?_
 ·exact ⟨rfl, by omega, none, 0, [none], OTab.nil _ _ _ _, Nat.le_refl 0, hO2.nil_cons.swap⟩
 intro i q w19 hIw19 ih20
 obtain ⟨hiq, hqm, v, cq, Hm, hTb, hcq, hO3⟩ := hIw19
 show Run _ _ _ _ [(5, _), (1, _), (2, _), (3, _)] _ _
 refine run_seq <| run_seq <| run_region_join 36 (.bool (decide (i < min mk 66))) [1, 2, 3, 5] (fun hk21 => ?_) ?_
 ·refine rl_v rfl rfl rfl (ov_move rfl rfl) <| rl_v rfl rfl rfl (ov_fieldS rfl Try.underlying25 rfl (fo := 3) rfl (by kernel_rfl) rfl) ?_
  refine rl_v rfl rfl rfl (ov_load rfl Try.underlying23 rfl rfl (by exact hO3.cellL (Hm.length + 1 + 2) at_pick (off := 3) rfl)) ?_
  refine rl_v rfl rfl rfl (ov_len rfl Try.underlying23 rfl) <| rl_v rfl rfl rfl (ov_lss rfl rfl rfl) <| rl_v rfl rfl rfl (ov_move rfl rfl) ?_
  first | refine rl_split_dec 33 rfl (fun hg22 => ?_) (fun hg22 => ?_) | refine rl_split 33 rfl (fun hg22 => ?_) (fun hg22 => ?_)
  ·refine rl_gv rfl rfl rfl rfl rfl (ov_move rfl rfl) <| rl_gv rfl rfl rfl rfl rfl (ov_lss rfl rfl rfl) <| rl_v rfl rfl rfl (ov_pick_t rfl rfl rfl) ?_
   refine rl_nil (hk21 _ (jbd rfl (by omega)) (And.intro rfl (And.intro rfl (And.intro rfl (And.intro rfl trivial)))))
  ·refine rl_gskip rfl rfl rfl rfl rfl rfl <| rl_gskip rfl rfl rfl rfl rfl rfl <| rl_v rfl rfl rfl (ov_pick_f rfl rfl rfl) ?_
   refine rl_nil (hk21 _ (jbf rfl (by omega)) (And.intro rfl (And.intro rfl (And.intro rfl (And.intro rfl trivial)))))
 ·show Run _ _ _ _ [(36, _), (1, _), (2, _), (3, _), (5, _)] _ _
  first | refine run_cond_dec rfl (fun h1 => ?_) (fun h1 => ?_) | refine run_cond rfl (fun h1 => ?_) (fun h1 => ?_)
  ·have hi0 : 0 ≤ i := by omega
   have hLi := hLC i hi0 (by omega)
   obtain ⟨gb, go, hga, hrow⟩ := (hT1 _ (hO3.sub sub_pick)).open
   have hma : ma = some ⟨gb, go, none⟩ := hga (by omega)
   have hrd : ∀ {w' : World}, Own B w0 w' H → w'.cell? ⟨gb, go + i.toNat, none⟩ = some (.slice (A i) (L i) (C i)) := fun h => by
    obtain ⟨gb', go', e1, e2⟩ := (hT1 _ h).open
    have e := e1 (by omega)
    rw [hma] at e
    cases e
    exact e2 _ (Below.refl _ _) i hi0 (by omega)
   have hOn2 := hO3.nil_cons
   refine run_skip <| run_seq <| run_block <| run_seq <| run_region <| rl_v rfl rfl rfl (ov_assign rfl rfl) <| rl_nil <| run_seq <| run_tail 14 mixed (by kernel_rfl) ?_
   have hO24 := hOn2.drew
   generalize World.drew w19 = w23 at hO24 ⊢
   refine rt_v rfl rfl rfl (ov_move rfl rfl) <| rt_v rfl rfl rfl (ov_fieldS rfl Try.underlying25 rfl (fo := 3) rfl (by kernel_rfl) rfl) ?_
   refine rt_v rfl rfl rfl (ov_load rfl Try.underlying23 rfl rfl (by exact hO24.cellL (Hm.length + 1 + 3) at_pick2 (off := 3) rfl)) ?_
   refine rt_v rfl rfl rfl (ov_move rfl rfl) <| rt_v rfl rfl rfl (ov_index1 rfl Try.underlying23 (by kernel_rfl) rfl rfl ⟨by omega, by omega⟩ (by exact (id hma))) ?_
   refine rt_v rfl rfl rfl (ov_load rfl Try.underlying22 rfl rfl (by exact hrd (hO24.sub (.cons _ sub_pick)))) ?_
   refine rt_v rfl rfl rfl (ov_fieldS rfl Try.underlying25 rfl (fo := 3) rfl (by kernel_rfl) rfl) ?_
   refine rt_v rfl rfl rfl (ov_load rfl Try.underlying23 rfl rfl (by exact hO24.cellL (Hm.length + 1 + 3) at_pick2 (off := 3) rfl)) ?_
   refine rt_v rfl rfl rfl (ov_move rfl rfl) <| rt_v rfl rfl rfl (ov_index1 rfl Try.underlying23 (by kernel_rfl) rfl rfl ⟨by omega, by omega⟩ (by exact (id hma))) ?_
   refine rt_v rfl rfl rfl (ov_load rfl Try.underlying22 rfl rfl (by exact hrd (hO24.sub (.cons _ sub_pick)))) ?_
   refine rt_v rfl rfl rfl (ov_len rfl Try.underlying22 rfl) <| rt_v rfl rfl rfl (ov_min rfl rfl rfl) <| rt_v rfl rfl rfl (ov_sliceH (min (L i) 20) (s := 1) rfl Try.underlying22 (by kernel_rfl) rfl rfl (by omega) (by omega)) ?_
   refine rt_nil <| rl_ow rfl (ow_appS rfl rfl rfl Try.underlying22 info_2 rfl hO24 0 (IRow.nil 2 (fun _ => iv 0)) rfl rfl rfl (((hT2 i hi0 (by omega) _ (hO24.sub (.cons _ sub_pick))).take (by omega))) (fun _ => rfl) ⟨by omega, by omega⟩) ?_
   rintro _ w25 ⟨v53, c53, rfl, hO26, hr53, hs27⟩
   obtain ⟨a53, cp53, rfl⟩ := hr53.val
   obtain ⟨co, rv, ch, rfl, hv, h3t⟩ := hTb
   refine rl_v rfl rfl rfl (ov_assign rfl rfl) <| rl_nil <| run_seq <| run_region <| rl_v rfl rfl rfl (ov_fieldS rfl Try.underlying25 rfl (fo := 3) rfl (by kernel_rfl) rfl) ?_
   refine rl_v rfl rfl rfl (ov_load rfl Try.underlying23 rfl rfl (by exact hO26.cellL 1 rfl (off := 3) rfl)) ?_
   refine rl_v rfl rfl rfl (ov_assign rfl rfl) <| rl_nil <| run_seq <| run_region <| rl_v rfl rfl rfl (ov_move rfl rfl) <| rl_v rfl rfl rfl (ov_move rfl rfl) ?_
   refine rl_appV rfl rfl rfl rfl rfl rfl rfl rfl Try.underlying23 info_22 rfl hO26 2 hv rfl rfl rfl rfl ⟨by omega, by omega⟩ (fun v59 c59 w28 hO29 hv59 hs30 => ?_)
   obtain ⟨a59, cp59, rfl, hcp59⟩ := Row.valC hv59
   refine rl_v rfl rfl rfl (ov_assign rfl rfl) <| rl_nil <| run_region <| rl_v rfl rfl rfl (ov_move rfl rfl) <| rl_v rfl rfl rfl (ov_fieldS rfl Try.underlying25 rfl (fo := 3) rfl (by kernel_rfl) rfl) ?_
   refine rl_ow rfl (ow_storeL rfl rfl (by kernel_rfl) hO29 1 rfl rfl rfl rfl rfl) ?_
   rintro _ w31 ⟨rfl, hO32, hs33⟩
   have hO6 : Own B w0 w31 (c53 :: some (lch b3 25 (cfL mm mn a25 (min pn 20) cp25 a59 (q + 1) cp59 rt cp)) :: c59 :: ((List.range q).map ch ++ (c25 :: some (lch b2 25 (cfL 0 0 none 0 0 none 0 0 0 0)) :: some (lch b1 25 (cfL mm mn pa pn pc ma mk mc rt cp)) :: H))) := hO32
   have hO7 := hO6.perm (.cons _ ((List.Perm.swap _ _ _).trans (.cons _ List.perm_middle.symm)))
   obtain ⟨H', hT', hO8⟩ := OTab.snoc (L := fun r => min (L r) 20) (F := fun r c => iv (F r c)) h3t hr53 hv59 hO7 (by rw [← hiq, Nat.zero_add]) (fun j _ _ => by unfold joinF; rw [if_neg (by omega), ← hiq]; exact congrArg (fun k => iv (F i k)) (by omega))
   refine rl_nil <| run_inBlock <| run_region <| rl_v rfl rfl rfl (ov_move rfl rfl) <| rl_v rfl rfl rfl (ov_add rfl rfl rfl (by omega)) ?_
   refine rl_v rfl rfl rfl (ov_assign rfl rfl) <| rl_nil ?_
   refine Run.use (ih20 (i + 1) (q + 1) _ ?_ ?_) (And.intro (by exact slot_int rfl (by first | omega)) (And.intro rfl (And.intro rfl (And.intro rfl trivial))))
   ·first | omega | (dsimp only; omega)
   ·exact ⟨by omega, by omega, a59, cp59, H', hT', hcp59, hO8.perm List.perm_middle⟩
  ·obtain rfl : q = min mk 66 := by omega
   have hO9 := hO3.perm perm_pick2
   refine run_exit rfl <| run_seq <| run_region <| rl_v rfl rfl rfl (ov_loadW rfl Try.underlying25 rfl (by kernel_rfl) rfl hO9 1 rfl) ?_
   refine rl_ow rfl (ow_storeW rfl rfl (by kernel_rfl) hO9 0 rfl rfl (by rfl) rfl (by rfl)) ?_
   rintro _ w34 ⟨rfl, hO35, hs36⟩
   have hO10 := hO35.tail.tail.sub (List.Sublist.append_left (.cons_cons _ (.cons _ (.refl _))) Hm)
   refine rl_nil <| run_ret Try.func43 (resW Try.results43 rfl Try.underlying25 rfl (by kernel_rfl) hO35 0 rfl) ?_
   exact ⟨a25, v, cp25, cq, c25, Hm, rfl, ⟨hcp25, hrP, hTb⟩, hO10.perm List.perm_middle⟩
theorem giveO_any (mm mn : Int) (pa ma : Option Addr) (pn pc mk mc : Nat) (rt cp : Int) (P : Int → Int) (L : Int → Nat) (F : Int → Int → Int) (B : Nat) (H : List (Option Blk)) (w0 w : World) (hO : Own B w0 w H) (hR : CfRd B w0 H pa pn pc ma mk P L F) :
  Calls Try.prog 18 #[.agg (cfL mm mn pa pn pc ma mk mc rt cp).toArray] w fun e w' => ∃ pa' ma' pc' mc' cb Hm, e = .returned (.agg (cfL mm mn pa' (min pn 20) pc' ma' (min mk 66) mc' rt cp).toArray) ∧ (min pn 20 ≤ pc' ∧ IRow (.slice pa' (min pn 20) pc') 2 (min pn 20) (fun i => iv (P i)) cb ∧ OTab (.slice ma' (min mk 66) mc') 22 2 (min mk 66) (fun r => min (L r) 20) (fun r c => iv (F r c)) Hm) ∧ Own B w0 w' (cb :: (Hm ++ H)) := by
 have hR2 : ∀ {x y : Option Blk}, CfRd B w0 (x :: y :: H) pa pn pc ma mk P L F := fun {x y} => by
  obtain ⟨hpc, hP, A, C, hT1, hT2, hLC⟩ := hR
  exact ⟨hpc, fun w h => hP w h.tail.tail, A, C, fun w h => hT1 w h.tail.tail, fun r r0 r1 w h => hT2 r r0 r1 w h.tail.tail, hLC⟩
 refine calls_of_run (F := [(0, _)]) Try.func18 rfl Try.ntmps18 rfl rfl <| run_seq <| run_region <| rl_ow rfl (ow_box _ rfl rfl rfl rfl rfl hO) ?_
 rintro _ w1 ⟨b1, rfl, hO2, hs3⟩
 refine rl_ow rfl (ow_alloc _ rfl rfl rfl zero_40 rfl hO2) ?_
 rintro _ w4 ⟨b2, rfl, hO5, hs6⟩
 refine rl_nil <| run_seq <| run_region <| rl_v rfl rfl rfl (ov_loadW rfl Try.underlying25 rfl (by kernel_rfl) rfl hO5 1 rfl) ?_
 refine rl_call callable_43 rfl rfl rfl rfl rfl rfl (copiedO_any mm mn pa ma pn pc mk mc rt cp P L F B _ w0 w4 hO5 hR2) (fun e7 w8 hp9 => ?_)
 obtain ⟨pa', ma', pc', mc', cb, Hm, rfl, hN, hO2⟩ := hp9
 refine ⟨_, rfl, ?_⟩
 refine rl_ow rfl (ow_alloc _ rfl rfl rfl zero_25 rfl hO2) ?_
 rintro _ w10 ⟨b3, rfl, hO11, hs12⟩
 refine rl_ow rfl (ow_storeW rfl rfl (by kernel_rfl) hO11 0 rfl rfl (by rfl) rfl (by rfl)) ?_
 rintro _ w13 ⟨rfl, hO14, hs15⟩
 have hO3 : Own B w0 w13 (some (lch b2 40 (cfL 0 0 none 0 0 none 0 0 0 0)) :: some (lch b3 25 (cfL mm mn pa' (min pn 20) pc' ma' (min mk 66) mc' rt cp)) :: cb :: (Hm ++ (some (lch b1 25 (cfL mm mn pa pn pc ma mk mc rt cp)) :: H))) := hO14.perm ((List.Perm.cons _ (List.Perm.cons _ List.perm_middle)).trans ((List.Perm.cons _ (List.Perm.swap _ _ _)).trans (List.Perm.swap _ _ _)))
 refine rl_nil <| run_seq <| run_region <| rl_v rfl rfl rfl (ov_fieldS rfl Try.underlying25 rfl (fo := 0) rfl (by kernel_rfl) rfl) ?_
 refine rl_v rfl rfl rfl (ov_load rfl Try.underlying3 rfl rfl (by exact (show _ = some (iv mm) from hO3.cellL 1 rfl (off := 0) rfl))) ?_
 refine rl_v rfl rfl rfl (ov_fieldS rfl Try.underlying25 rfl (fo := 1) rfl (by kernel_rfl) rfl) ?_
 refine rl_v rfl rfl rfl (ov_load rfl Try.underlying3 rfl rfl (by exact (show _ = some (iv mn) from hO3.cellL 1 rfl (off := 1) rfl))) ?_
 refine rl_v rfl rfl rfl (ov_fieldS rfl Try.underlying25 rfl (fo := 2) rfl (by kernel_rfl) rfl) ?_
 refine rl_v rfl rfl rfl (ov_load rfl Try.underlying22 rfl rfl (by exact hO3.cellL 1 rfl (off := 2) rfl)) ?_
 refine rl_v rfl rfl rfl (ov_fieldS rfl Try.underlying25 rfl (fo := 3) rfl (by kernel_rfl) rfl) ?_
 refine rl_v rfl rfl rfl (ov_load rfl Try.underlying23 rfl rfl (by exact hO3.cellL 1 rfl (off := 3) rfl)) ?_
 refine rl_v rfl rfl rfl (ov_fieldS rfl Try.underlying25 rfl (fo := 4) rfl (by kernel_rfl) rfl) ?_
 refine rl_v rfl rfl rfl (ov_load rfl Try.underlying2 rfl rfl (by exact (show _ = some (iv rt) from hO3.cellL 1 rfl (off := 4) rfl))) ?_
 refine rl_v rfl rfl rfl (ov_fieldS rfl Try.underlying25 rfl (fo := 5) rfl (by kernel_rfl) rfl) ?_
 refine rl_v rfl rfl rfl (ov_load rfl Try.underlying2 rfl rfl (by exact (show _ = some (iv cp) from hO3.cellL 1 rfl (off := 5) rfl))) ?_
 refine rl_v rfl rfl rfl (ov_buildL rfl lay_40 rfl (us := [_, _, _, _, _, _]) rfl) <| rl_ow rfl (ow_storeW rfl rfl (by kernel_rfl) hO3 0 rfl rfl (by rfl) rfl (by rfl)) ?_
 rintro _ w16 ⟨rfl, hO17, hs18⟩
 refine rl_nil <| run_ret Try.func18 (resW Try.results18 rfl Try.underlying40 rfl (by kernel_rfl) hO17 0 rfl) ?_
 exact ⟨pa', ma', pc', mc', cb, Hm, rfl, hN, hO17.tail.tail.sub (.cons_cons _ (List.Sublist.append_left (.cons _ (.refl _)) Hm))⟩
theorem OTab.get9 {B : Nat} {w0 w : World} {v : Value} {T1 T2 : TypeId} {n : Nat} {L : Int → Nat} {F : Int → Int → Value} {H R : List (Option Blk)} (h : OTab v T1 T2 n L F H) (ho : Own B w0 w (H ++ R)) (i : Nat) (hi : i < n) :
  ∃ (c : Option Blk) (rv : Int → Value) (ch : Nat → Option Blk), IRow v T1 n rv c ∧ (∀ r : Nat, r < n → IRow (rv r) T2 (L r) (F r) (ch r)) ∧ Own B w0 w (ch i :: c :: (((List.range n).erase i).map ch ++ R)) := by
 obtain ⟨c, rv, ch, rfl, h2, h3⟩ := h
 refine ⟨c, rv, ch, h2, h3, ho.perm ?_⟩
 have p := (List.perm_cons_erase (List.mem_range.2 hi)).map ch
 exact ((p.append_right R).cons c).trans (List.Perm.swap _ _ _)
theorem OTab.put9 {B : Nat} {w0 w : World} {v x : Value} {T1 T2 : TypeId} {n m : Nat} {L : Int → Nat} {F : Int → Int → Value} {G : Int → Value} {R : List (Option Blk)} {c cr : Option Blk} {rv : Int → Value} {ch : Nat → Option Blk} (i : Nat) (hi : i < n)
  (hv : IRow v T1 n (upd rv i x) c) (h3 : ∀ r : Nat, r < n → IRow (rv r) T2 (L r) (F r) (ch r)) (hx : IRow x T2 m G cr) (ho : Own B w0 w (cr :: c :: (((List.range n).erase i).map ch ++ R))) :
  ∃ H, OTab v T1 T2 n (upd L i m) (upd F i G) H ∧ Own B w0 w (H ++ R) := by
 refine ⟨_, ⟨c, _, fun r => if r = i then cr else ch r, rfl, hv, fun r hr => ?_⟩, ho.perm ?_⟩
 ·show IRow _ _ _ _ (if r = i then cr else ch r)
  by_cases e : r = i
  ·subst e; rw [upd_same, upd_same, upd_same, if_pos rfl]; exact hx
  ·rw [upd_ne _ _ (by omega), upd_ne _ _ (by omega), upd_ne _ _ (by omega), if_neg e]; exact h3 r hr
 ·have p := (List.perm_cons_erase (List.mem_range.2 hi)).map (fun r => if r = i then cr else ch r)
  have e : ((List.range n).erase i).map (fun r => if r = i then cr else ch r) = ((List.range n).erase i).map ch := List.map_congr_left fun r hr => by
   have : r ≠ i := fun e => by rw [e] at hr; exact (List.Nodup.not_mem_erase List.nodup_range) hr
   exact if_neg this
  simp only [List.map_cons, if_true, e] at p
  exact (List.Perm.swap _ _ _).trans ((p.symm.append_right R).cons c)
theorem OTab.set9 {B : Nat} {w0 w : World} {v x : Value} {T1 T2 : TypeId} {n : Nat} {L : Int → Nat} {F : Int → Int → Value} {G : Int → Value} {R : List (Option Blk)} {c cr : Option Blk} {rv : Int → Value} {ch : Nat → Option Blk} (i : Nat) (hi : i < n)
  (hv : IRow v T1 n rv c) (h3 : ∀ r : Nat, r < n → IRow (rv r) T2 (L r) (F r) (ch r)) (ex : rv i = x) (hx : IRow x T2 (L i) G cr) (ho : Own B w0 w (cr :: c :: (((List.range n).erase i).map ch ++ R))) :
  ∃ H, OTab v T1 T2 n L (upd F i G) H ∧ Own B w0 w (H ++ R) := by
 have e1 : upd rv (i : Int) x = rv := by
  funext j
  unfold upd
  split
  ·rename_i e; rw [e, ex]
  ·rfl
 have e2 : upd L (i : Int) (L i) = L := by
  funext j
  unfold upd
  split
  ·rename_i e; rw [e]
  ·rfl
 have h := OTab.put9 (x := x) (m := L i) i hi (by rw [e1]; exact hv) h3 hx ho
 rw [e2] at h
 exact h
theorem newE_A {mem mon : Int} {pn mn : Nat} {P : Int → Int} {L : Int → Nat} {F : Int → Int → Int} {rate cap : Int} (h : BadA mem mon rate cap) : newE mem mon pn mn P L F rate cap = 1 := if_pos h
theorem newE_B {mem mon : Int} {pn mn : Nat} {P : Int → Int} {L : Int → Nat} {F : Int → Int → Int} {rate cap : Int} (h : ¬ BadA mem mon rate cap) (h2 : BadB mon pn mn L) : newE mem mon pn mn P L F rate cap = 7 := (if_neg h).trans (if_pos h2)
theorem newE_C {mem mon : Int} {pn mn : Nat} {P : Int → Int} {L : Int → Nat} {F : Int → Int → Int} {rate cap : Int} (h : ¬ BadA mem mon rate cap) (h2 : ¬ BadB mon pn mn L) (h3 : BadC pn P ∨ BadD mn L F) : newE mem mon pn mn P L F rate cap = 1 := (if_neg h).trans ((if_neg h2).trans (if_pos h3))
theorem gCheck_any (mem mon : Int) (pa ma : Option Addr) (pn pc mn mc : Nat) (rate cap : Int) (P : Int → Int) (L : Int → Nat) (F : Int → Int → Int) (B : Nat) (H : List (Option Blk)) (w0 w : World) (hO : Own B w0 w H) (hP : SrcI H pa pn P) (hT : TSrc H ma mn L F) (hmn : mn ≤ 1000000) :
  Calls Try.prog 44 #[.agg (cfL mem mon pa pn pc ma mn mc rate cap).toArray] w fun e w' => e = .returned (iv (newE mem mon pn mn P L F rate cap)) ∧ Own B w0 w' H := by
 obtain ⟨A, C, hT1, hT2, hT3⟩ := hT
 refine calls_of_run (F := [(0, _)]) Try.func44 rfl Try.ntmps44 rfl rfl <| run_seq <| run_region <| rl_ow rfl (ow_box _ rfl rfl rfl rfl rfl hO) ?_
 rintro _ w1 ⟨b1, rfl, hO2, hs3⟩
 refine rl_v rfl rfl rfl (ov_assign rfl rfl) <| rl_nil <| run_seq <| run_seq <| run_region_join 43 (.bool (decide (¬ (2 ≤ mem ∧ mem ≤ 64) ∨ ¬ (1 ≤ mon ∧ mon ≤ 12) ∨ ¬ (0 ≤ rate ∧ rate ≤ 1000) ∨ ¬ (0 ≤ cap ∧ cap ≤ 1000000000000)))) [1] (fun hk4 => ?_) ?_
 ·refine rl_v rfl rfl rfl (ov_fieldS rfl Try.underlying25 rfl (fo := 0) rfl (by kernel_rfl) rfl) ?_
  refine rl_v rfl rfl rfl (ov_load rfl Try.underlying3 rfl rfl (by exact (show _ = some (iv mem) from hO2.cellL 0 rfl (off := 0) rfl))) ?_
  refine rl_v rfl rfl rfl (ov_lss rfl rfl rfl) <| rl_v rfl rfl rfl (ov_move rfl rfl) ?_
  first | refine rl_split_dec 9 rfl (fun a1 => ?_) (fun a1 => ?_) | refine rl_split 9 rfl (fun a1 => ?_) (fun a1 => ?_)
  ·refine rl_gskip rfl rfl rfl rfl rfl rfl <| rl_gskip rfl rfl rfl rfl rfl rfl <| rl_gskip rfl rfl rfl rfl rfl rfl <| rl_v rfl rfl rfl (ov_pick_t rfl rfl rfl) <| rl_v rfl rfl rfl (ov_move rfl rfl) <| rl_gskip rfl rfl rfl rfl rfl rfl <| rl_gskip rfl rfl rfl rfl rfl rfl <| rl_gskip rfl rfl rfl rfl rfl rfl <| rl_v rfl rfl rfl (ov_pick_t rfl rfl rfl) <| rl_v rfl rfl rfl (ov_move rfl rfl) <| rl_gskip rfl rfl rfl rfl rfl rfl <| rl_gskip rfl rfl rfl rfl rfl rfl <| rl_gskip rfl rfl rfl rfl rfl rfl <| rl_v rfl rfl rfl (ov_pick_t rfl rfl rfl) <| rl_v rfl rfl rfl (ov_move rfl rfl) <| rl_gskip rfl rfl rfl rfl rfl rfl <| rl_gskip rfl rfl rfl rfl rfl rfl <| rl_gskip rfl rfl rfl rfl rfl rfl <| rl_v rfl rfl rfl (ov_pick_t rfl rfl rfl) <| rl_v rfl rfl rfl (ov_move rfl rfl) <| rl_gskip rfl rfl rfl rfl rfl rfl <| rl_gskip rfl rfl rfl rfl rfl rfl <| rl_gskip rfl rfl rfl rfl rfl rfl <| rl_v rfl rfl rfl (ov_pick_t rfl rfl rfl) ?_
   refine rl_v rfl rfl rfl (ov_move rfl rfl) <| rl_gskip rfl rfl rfl rfl rfl rfl <| rl_gskip rfl rfl rfl rfl rfl rfl <| rl_gskip rfl rfl rfl rfl rfl rfl <| rl_v rfl rfl rfl (ov_pick_t rfl rfl rfl) <| rl_v rfl rfl rfl (ov_move rfl rfl) <| rl_gskip rfl rfl rfl rfl rfl rfl <| rl_gskip rfl rfl rfl rfl rfl rfl <| rl_gskip rfl rfl rfl rfl rfl rfl <| rl_v rfl rfl rfl (ov_pick_t rfl rfl rfl) ?_
   refine rl_nil (hk4 _ (jbt rfl (by omega)) (And.intro rfl trivial))
  ·refine rl_gv rfl rfl rfl rfl rfl (ov_fieldS rfl Try.underlying25 rfl (fo := 0) rfl (by kernel_rfl) rfl) ?_
   refine rl_gv rfl rfl rfl rfl rfl (ov_load rfl Try.underlying3 rfl rfl (by exact (show _ = some (iv mem) from hO2.cellL 0 rfl (off := 0) rfl))) ?_
   refine rl_gv rfl rfl rfl rfl rfl (ov_gtr rfl rfl rfl) <| rl_v rfl rfl rfl (ov_pick_f rfl rfl rfl) <| rl_v rfl rfl rfl (ov_move rfl rfl) ?_
   first | refine rl_split_dec 14 rfl (fun a2 => ?_) (fun a2 => ?_) | refine rl_split 14 rfl (fun a2 => ?_) (fun a2 => ?_)
   ·refine rl_gskip rfl rfl rfl rfl rfl rfl <| rl_gskip rfl rfl rfl rfl rfl rfl <| rl_gskip rfl rfl rfl rfl rfl rfl <| rl_v rfl rfl rfl (ov_pick_t rfl rfl rfl) <| rl_v rfl rfl rfl (ov_move rfl rfl) <| rl_gskip rfl rfl rfl rfl rfl rfl <| rl_gskip rfl rfl rfl rfl rfl rfl <| rl_gskip rfl rfl rfl rfl rfl rfl <| rl_v rfl rfl rfl (ov_pick_t rfl rfl rfl) <| rl_v rfl rfl rfl (ov_move rfl rfl) <| rl_gskip rfl rfl rfl rfl rfl rfl <| rl_gskip rfl rfl rfl rfl rfl rfl <| rl_gskip rfl rfl rfl rfl rfl rfl <| rl_v rfl rfl rfl (ov_pick_t rfl rfl rfl) <| rl_v rfl rfl rfl (ov_move rfl rfl) <| rl_gskip rfl rfl rfl rfl rfl rfl <| rl_gskip rfl rfl rfl rfl rfl rfl <| rl_gskip rfl rfl rfl rfl rfl rfl <| rl_v rfl rfl rfl (ov_pick_t rfl rfl rfl) <| rl_v rfl rfl rfl (ov_move rfl rfl) <| rl_gskip rfl rfl rfl rfl rfl rfl <| rl_gskip rfl rfl rfl rfl rfl rfl <| rl_gskip rfl rfl rfl rfl rfl rfl <| rl_v rfl rfl rfl (ov_pick_t rfl rfl rfl) ?_
    refine rl_v rfl rfl rfl (ov_move rfl rfl) <| rl_gskip rfl rfl rfl rfl rfl rfl <| rl_gskip rfl rfl rfl rfl rfl rfl <| rl_gskip rfl rfl rfl rfl rfl rfl <| rl_v rfl rfl rfl (ov_pick_t rfl rfl rfl) ?_
    refine rl_nil (hk4 _ (jbt rfl (by omega)) (And.intro rfl trivial))
   ·refine rl_gv rfl rfl rfl rfl rfl (ov_fieldS rfl Try.underlying25 rfl (fo := 1) rfl (by kernel_rfl) rfl) ?_
    refine rl_gv rfl rfl rfl rfl rfl (ov_load rfl Try.underlying3 rfl rfl (by exact (show _ = some (iv mon) from hO2.cellL 0 rfl (off := 1) rfl))) ?_
    refine rl_gv rfl rfl rfl rfl rfl (ov_lss rfl rfl rfl) <| rl_v rfl rfl rfl (ov_pick_f rfl rfl rfl) <| rl_v rfl rfl rfl (ov_move rfl rfl) ?_
    first | refine rl_split_dec 19 rfl (fun a3 => ?_) (fun a3 => ?_) | refine rl_split 19 rfl (fun a3 => ?_) (fun a3 => ?_)
    ·refine rl_gskip rfl rfl rfl rfl rfl rfl <| rl_gskip rfl rfl rfl rfl rfl rfl <| rl_gskip rfl rfl rfl rfl rfl rfl <| rl_v rfl rfl rfl (ov_pick_t rfl rfl rfl) <| rl_v rfl rfl rfl (ov_move rfl rfl) <| rl_gskip rfl rfl rfl rfl rfl rfl <| rl_gskip rfl rfl rfl rfl rfl rfl <| rl_gskip rfl rfl rfl rfl rfl rfl <| rl_v rfl rfl rfl (ov_pick_t rfl rfl rfl) <| rl_v rfl rfl rfl (ov_move rfl rfl) <| rl_gskip rfl rfl rfl rfl rfl rfl <| rl_gskip rfl rfl rfl rfl rfl rfl <| rl_gskip rfl rfl rfl rfl rfl rfl <| rl_v rfl rfl rfl (ov_pick_t rfl rfl rfl) <| rl_v rfl rfl rfl (ov_move rfl rfl) <| rl_gskip rfl rfl rfl rfl rfl rfl <| rl_gskip rfl rfl rfl rfl rfl rfl <| rl_gskip rfl rfl rfl rfl rfl rfl <| rl_v rfl rfl rfl (ov_pick_t rfl rfl rfl) <| rl_v rfl rfl rfl (ov_move rfl rfl) <| rl_gskip rfl rfl rfl rfl rfl rfl <| rl_gskip rfl rfl rfl rfl rfl rfl <| rl_gskip rfl rfl rfl rfl rfl rfl <| rl_v rfl rfl rfl (ov_pick_t rfl rfl rfl) ?_
     refine rl_nil (hk4 _ (jbt rfl (by omega)) (And.intro rfl trivial))
    ·refine rl_gv rfl rfl rfl rfl rfl (ov_fieldS rfl Try.underlying25 rfl (fo := 1) rfl (by kernel_rfl) rfl) ?_
     refine rl_gv rfl rfl rfl rfl rfl (ov_load rfl Try.underlying3 rfl rfl (by exact (show _ = some (iv mon) from hO2.cellL 0 rfl (off := 1) rfl))) ?_
     refine rl_gv rfl rfl rfl rfl rfl (ov_gtr rfl rfl rfl) <| rl_v rfl rfl rfl (ov_pick_f rfl rfl rfl) <| rl_v rfl rfl rfl (ov_move rfl rfl) ?_
     first | refine rl_split_dec 24 rfl (fun a4 => ?_) (fun a4 => ?_) | refine rl_split 24 rfl (fun a4 => ?_) (fun a4 => ?_)
     ·refine rl_gskip rfl rfl rfl rfl rfl rfl <| rl_gskip rfl rfl rfl rfl rfl rfl <| rl_gskip rfl rfl rfl rfl rfl rfl <| rl_v rfl rfl rfl (ov_pick_t rfl rfl rfl) <| rl_v rfl rfl rfl (ov_move rfl rfl) <| rl_gskip rfl rfl rfl rfl rfl rfl <| rl_gskip rfl rfl rfl rfl rfl rfl <| rl_gskip rfl rfl rfl rfl rfl rfl <| rl_v rfl rfl rfl (ov_pick_t rfl rfl rfl) <| rl_v rfl rfl rfl (ov_move rfl rfl) <| rl_gskip rfl rfl rfl rfl rfl rfl <| rl_gskip rfl rfl rfl rfl rfl rfl <| rl_gskip rfl rfl rfl rfl rfl rfl <| rl_v rfl rfl rfl (ov_pick_t rfl rfl rfl) <| rl_v rfl rfl rfl (ov_move rfl rfl) <| rl_gskip rfl rfl rfl rfl rfl rfl <| rl_gskip rfl rfl rfl rfl rfl rfl <| rl_gskip rfl rfl rfl rfl rfl rfl <| rl_v rfl rfl rfl (ov_pick_t rfl rfl rfl) ?_
      refine rl_nil (hk4 _ (jbt rfl (by omega)) (And.intro rfl trivial))
     ·refine rl_gv rfl rfl rfl rfl rfl (ov_fieldS rfl Try.underlying25 rfl (fo := 4) rfl (by kernel_rfl) rfl) ?_
      refine rl_gv rfl rfl rfl rfl rfl (ov_load rfl Try.underlying2 rfl rfl (by exact (show _ = some (iv rate) from hO2.cellL 0 rfl (off := 4) rfl))) ?_
      refine rl_gv rfl rfl rfl rfl rfl (ov_lss rfl rfl rfl) <| rl_v rfl rfl rfl (ov_pick_f rfl rfl rfl) <| rl_v rfl rfl rfl (ov_move rfl rfl) ?_
      first | refine rl_split_dec 29 rfl (fun a5 => ?_) (fun a5 => ?_) | refine rl_split 29 rfl (fun a5 => ?_) (fun a5 => ?_)
      ·refine rl_gskip rfl rfl rfl rfl rfl rfl <| rl_gskip rfl rfl rfl rfl rfl rfl <| rl_gskip rfl rfl rfl rfl rfl rfl <| rl_v rfl rfl rfl (ov_pick_t rfl rfl rfl) <| rl_v rfl rfl rfl (ov_move rfl rfl) <| rl_gskip rfl rfl rfl rfl rfl rfl <| rl_gskip rfl rfl rfl rfl rfl rfl <| rl_gskip rfl rfl rfl rfl rfl rfl <| rl_v rfl rfl rfl (ov_pick_t rfl rfl rfl) <| rl_v rfl rfl rfl (ov_move rfl rfl) <| rl_gskip rfl rfl rfl rfl rfl rfl <| rl_gskip rfl rfl rfl rfl rfl rfl <| rl_gskip rfl rfl rfl rfl rfl rfl <| rl_v rfl rfl rfl (ov_pick_t rfl rfl rfl) ?_
       refine rl_nil (hk4 _ (jbt rfl (by omega)) (And.intro rfl trivial))
      ·refine rl_gv rfl rfl rfl rfl rfl (ov_fieldS rfl Try.underlying25 rfl (fo := 4) rfl (by kernel_rfl) rfl) ?_
       refine rl_gv rfl rfl rfl rfl rfl (ov_load rfl Try.underlying2 rfl rfl (by exact (show _ = some (iv rate) from hO2.cellL 0 rfl (off := 4) rfl))) ?_
       refine rl_gv rfl rfl rfl rfl rfl (ov_gtr rfl rfl rfl) <| rl_v rfl rfl rfl (ov_pick_f rfl rfl rfl) <| rl_v rfl rfl rfl (ov_move rfl rfl) ?_
       first | refine rl_split_dec 34 rfl (fun a6 => ?_) (fun a6 => ?_) | refine rl_split 34 rfl (fun a6 => ?_) (fun a6 => ?_)
       ·refine rl_gskip rfl rfl rfl rfl rfl rfl <| rl_gskip rfl rfl rfl rfl rfl rfl <| rl_gskip rfl rfl rfl rfl rfl rfl <| rl_v rfl rfl rfl (ov_pick_t rfl rfl rfl) <| rl_v rfl rfl rfl (ov_move rfl rfl) <| rl_gskip rfl rfl rfl rfl rfl rfl <| rl_gskip rfl rfl rfl rfl rfl rfl <| rl_gskip rfl rfl rfl rfl rfl rfl <| rl_v rfl rfl rfl (ov_pick_t rfl rfl rfl) ?_
        refine rl_nil (hk4 _ (jbt rfl (by omega)) (And.intro rfl trivial))
       ·refine rl_gv rfl rfl rfl rfl rfl (ov_fieldS rfl Try.underlying25 rfl (fo := 5) rfl (by kernel_rfl) rfl) ?_
        refine rl_gv rfl rfl rfl rfl rfl (ov_load rfl Try.underlying2 rfl rfl (by exact (show _ = some (iv cap) from hO2.cellL 0 rfl (off := 5) rfl))) ?_
        refine rl_gv rfl rfl rfl rfl rfl (ov_lss rfl rfl rfl) <| rl_v rfl rfl rfl (ov_pick_f rfl rfl rfl) <| rl_v rfl rfl rfl (ov_move rfl rfl) ?_
        first | refine rl_split_dec 39 rfl (fun a7 => ?_) (fun a7 => ?_) | refine rl_split 39 rfl (fun a7 => ?_) (fun a7 => ?_)
        ·refine rl_gskip rfl rfl rfl rfl rfl rfl <| rl_gskip rfl rfl rfl rfl rfl rfl <| rl_gskip rfl rfl rfl rfl rfl rfl <| rl_v rfl rfl rfl (ov_pick_t rfl rfl rfl) ?_
         refine rl_nil (hk4 _ (jbt rfl (by omega)) (And.intro rfl trivial))
        ·refine rl_gv rfl rfl rfl rfl rfl (ov_fieldS rfl Try.underlying25 rfl (fo := 5) rfl (by kernel_rfl) rfl) ?_
         refine rl_gv rfl rfl rfl rfl rfl (ov_load rfl Try.underlying2 rfl rfl (by exact (show _ = some (iv cap) from hO2.cellL 0 rfl (off := 5) rfl))) ?_
         refine rl_gv rfl rfl rfl rfl rfl (ov_gtr rfl rfl rfl) <| rl_v rfl rfl rfl (ov_pick_f rfl rfl rfl) ?_
         refine rl_nil (hk4 _ (jbd rfl (by omega)) (And.intro rfl trivial))
 ·show Run _ _ _ _ [(43, _), (1, _)] _ _
  first | refine run_cond_dec rfl (fun hA => ?_) (fun hA => ?_) | refine run_cond rfl (fun hA => ?_) (fun hA => ?_)
  ·refine run_seq <| run_region <| rl_v rfl rfl rfl (ov_assign rfl rfl) <| rl_nil <| run_ret Try.func44 (res1 Try.results44 rfl) ?_
   exact ⟨by rw [newE_A hA], hO2.tail⟩
  ·have hA' : (2 ≤ mem ∧ mem ≤ 64) ∧ (1 ≤ mon ∧ mon ≤ 12) := ⟨Classical.byContradiction fun h => hA (.inl h), Classical.byContradiction fun h => hA (.inr (.inl h))⟩
   refine run_skip <| run_seq <| run_seq <| run_region_join 55 (.bool (decide ((pn : Int) ≠ mon ∨ 64 < mn))) [1] (fun hk12 => ?_) ?_
   ·refine rl_v rfl rfl rfl (ov_fieldS rfl Try.underlying25 rfl (fo := 2) rfl (by kernel_rfl) rfl) ?_
    refine rl_v rfl rfl rfl (ov_load rfl Try.underlying22 rfl rfl (by exact hO2.cellL 0 rfl (off := 2) rfl)) ?_
    refine rl_v rfl rfl rfl (ov_len rfl Try.underlying22 rfl) <| rl_v rfl rfl rfl (ov_fieldS rfl Try.underlying25 rfl (fo := 1) rfl (by kernel_rfl) rfl) ?_
    refine rl_v rfl rfl rfl (ov_load rfl Try.underlying3 rfl rfl (by exact (show _ = some (iv mon) from hO2.cellL 0 rfl (off := 1) rfl))) ?_
    refine rl_v rfl rfl rfl (ov_neq rfl rfl rfl) <| rl_v rfl rfl rfl (ov_move rfl rfl) ?_
    first | refine rl_split_dec 50 rfl (fun b2 => ?_) (fun b2 => ?_) | refine rl_split 50 rfl (fun b2 => ?_) (fun b2 => ?_)
    ·refine rl_gskip rfl rfl rfl rfl rfl rfl <| rl_gskip rfl rfl rfl rfl rfl rfl <| rl_gskip rfl rfl rfl rfl rfl rfl <| rl_gskip rfl rfl rfl rfl rfl rfl <| rl_v rfl rfl rfl (ov_pick_t rfl rfl rfl) ?_
     refine rl_nil (hk12 _ (jbt rfl (by omega)) (And.intro rfl trivial))
    ·refine rl_gv rfl rfl rfl rfl rfl (ov_fieldS rfl Try.underlying25 rfl (fo := 3) rfl (by kernel_rfl) rfl) ?_
     refine rl_gv rfl rfl rfl rfl rfl (ov_load rfl Try.underlying23 rfl rfl (by exact hO2.cellL 0 rfl (off := 3) rfl)) ?_
     refine rl_gv rfl rfl rfl rfl rfl (ov_len rfl Try.underlying23 rfl) <| rl_gv rfl rfl rfl rfl rfl (ov_gtr rfl rfl rfl) <| rl_v rfl rfl rfl (ov_pick_f rfl rfl rfl) ?_
     refine rl_nil (hk12 _ (jbd rfl (by omega)) (And.intro rfl trivial))
   ·show Run _ _ _ _ [(55, _), (1, _)] _ _
    first | refine run_cond_dec rfl (fun hB1 => ?_) (fun hB1 => ?_) | refine run_cond rfl (fun hB1 => ?_) (fun hB1 => ?_)
    ·refine run_seq <| run_region <| rl_v rfl rfl rfl (ov_assign rfl rfl) <| rl_nil <| run_ret Try.func44 (res1 Try.results44 rfl) ?_
     exact ⟨by rw [newE_B hA (hB1.elim .inl fun h => .inr (.inl h))], hO2.tail⟩
    ·refine run_skip <| run_seq <| run_seq <| run_region <| rl_v rfl rfl rfl (ov_assign rfl rfl) <| rl_nil <| run_block <| Run.keep [1, 3] (F' := [(1, _), (3, _)]) rfl <| run_loop1 (fun (i : Int) => [(3, .int .i64 i)]) [1] (fun (i : Int) (w14 : World) => (0 ≤ i ∧ i ≤ mn) ∧ (∀ r : Int, 0 ≤ r → r < i → (L r : Int) = mon) ∧ Own B w0 w14 (some (lch b1 25 (cfL mem mon pa pn pc ma mn mc rate cap)) :: H)) (fun (i : Int) => ((mn : Int) - i).toNat) (0) ?_ (And.intro (by exact slot_int rfl (by first | omega)) (And.intro rfl trivial)) ?_
     ·exact ⟨by omega, fun r r0 r1 => by omega, hO2⟩
     intro i w14 hIw14 ih15
     obtain ⟨hi, hall, hO2⟩ := hIw14
     show Run _ _ _ _ [(3, _), (1, _)] _ _
     refine run_seq <| run_seq <| run_region <| rl_v rfl rfl rfl (ov_move rfl rfl) <| rl_v rfl rfl rfl (ov_fieldS rfl Try.underlying25 rfl (fo := 3) rfl (by kernel_rfl) rfl) ?_
     refine rl_v rfl rfl rfl (ov_load rfl Try.underlying23 rfl rfl (by exact hO2.cellL 0 rfl (off := 3) rfl)) ?_
     refine rl_v rfl rfl rfl (ov_len rfl Try.underlying23 rfl) <| rl_v rfl rfl rfl (ov_lss rfl rfl rfl) <| rl_nil ?_
     first | refine run_cond_dec rfl (fun h1 => ?_) (fun h1 => ?_) | refine run_cond rfl (fun h1 => ?_) (fun h1 => ?_)
     ·obtain ⟨tb, to, et, rt⟩ := SrcV.at hT1 hO2.tail (by omega)
      refine run_skip <| run_seq <| run_block <| run_seq <| run_quiet mixed (by kernel_rfl) ?_
      refine rq_v rfl rfl rfl (fun _ => ov_fieldS rfl Try.underlying25 rfl (fo := 3) rfl (by kernel_rfl) rfl) ?_
      refine rq_v rfl rfl rfl (fun _ => ov_load rfl Try.underlying23 rfl rfl (by show World.cell? w14 _ = _; first | exact hO2.cellL 0 rfl (off := 3) rfl)) ?_
      refine rq_v rfl rfl rfl (fun _ => ov_move rfl rfl) ?_
      refine rq_v rfl rfl rfl (fun _ => ov_index1 rfl Try.underlying23 (by kernel_rfl) rfl rfl ⟨by omega, by omega⟩ (by exact (id et))) ?_
      refine rq_v rfl rfl rfl (fun _ => ov_load rfl Try.underlying22 rfl rfl (by show World.cell? w14 _ = _; first | exact (show _ = some (Value.slice (A i) (L i) (C i)) from rt hO2.tail i hi.1 (by omega)))) ?_
      refine rq_v rfl rfl rfl (fun _ => ov_len rfl Try.underlying22 rfl) ?_
      refine rq_v rfl rfl rfl (fun _ => ov_fieldS rfl Try.underlying25 rfl (fo := 1) rfl (by kernel_rfl) rfl) ?_
      refine rq_v rfl rfl rfl (fun _ => ov_load rfl Try.underlying3 rfl rfl (by show World.cell? w14 _ = _; first | exact (show _ = some (iv mon) from hO2.cellL 0 rfl (off := 1) rfl))) ?_
      refine rq_v rfl rfl rfl (fun _ => ov_neq rfl rfl rfl) ?_
      refine rq_nil (fun n16 => ?_)
      have hO18 := hO2.drewN n16
      generalize World.drewN w14 n16 = w17 at hO18 ⊢
      first | refine run_cond_dec rfl (fun h2 => ?_) (fun h2 => ?_) | refine run_cond rfl (fun h2 => ?_) (fun h2 => ?_)
      ·refine run_seq <| run_region <| rl_v rfl rfl rfl (ov_assign rfl rfl) <| rl_nil <| run_ret Try.func44 (res1 Try.results44 rfl) ?_
       exact ⟨by rw [newE_B hA (.inr (.inr ⟨i, hi.1, by omega, h2⟩))], hO18.tail⟩
      ·refine run_skip <| run_inBlock <| run_region <| rl_v rfl rfl rfl (ov_move rfl rfl) <| rl_v rfl rfl rfl (ov_add rfl rfl rfl (by omega)) ?_
       refine rl_v rfl rfl rfl (ov_assign rfl rfl) <| rl_nil ?_
       refine Run.use (ih15 (i + 1) _ ?_ ?_) (And.intro (by exact slot_int rfl (by first | omega)) (And.intro rfl trivial))
       ·first | omega | (dsimp only; omega)
       ·exact ⟨by omega, fun r r0 r1 => (by rcases Int.lt_or_eq_of_le (show r ≤ i by omega) with h | rfl; exact hall r r0 h; exact Classical.byContradiction h2), hO18⟩
     ·have hB : ¬ BadB mon pn mn L := fun h => h.elim (fun h => hB1 (.inl h)) fun h => h.elim (fun h => hB1 (.inr h)) fun ⟨r, r0, r1, h⟩ => h (hall r r0 (by omega))
      have hL : ∀ r : Int, 0 ≤ r → r < mn → (L r : Int) = mon := fun r r0 r1 => hall r r0 (by omega)
      have hpn : (pn : Int) = mon := Classical.byContradiction fun h => hB1 (.inl h)
      refine run_exit rfl <| run_seq <| run_seq <| run_region <| rl_v rfl rfl rfl (ov_assign rfl rfl) <| rl_nil <| run_block <| Run.keep [1, 4] (F' := [(1, _), (4, _)]) rfl <| run_loop1 (fun (m : Int) => [(4, .int .i64 m)]) [1] (fun (m : Int) (w19 : World) => (0 ≤ m ∧ m ≤ mon) ∧ (∀ k : Int, 0 ≤ k → k < m → 1 ≤ P k ∧ P k ≤ 1000000) ∧ (∀ r : Int, 0 ≤ r → r < mn → ∀ k : Int, 0 ≤ k → k < m → -1000000 ≤ F r k ∧ F r k ≤ 1000000) ∧ Own B w0 w19 (some (lch b1 25 (cfL mem mon pa pn pc ma mn mc rate cap)) :: H)) (fun (m : Int) => (mon - m).toNat) (0) ?_ (And.intro (by exact slot_int rfl (by first | omega)) (And.intro rfl trivial)) ?_
      ·exact ⟨by omega, fun k k0 k1 => by omega, fun r r0 r1 k k0 k1 => by omega, hO2⟩
      intro m w19 hIw19 ih20
      obtain ⟨hm, hokP, hokF, hO3⟩ := hIw19
      show Run _ _ _ _ [(4, _), (1, _)] _ _
      refine run_seq <| run_seq <| run_region <| rl_v rfl rfl rfl (ov_move rfl rfl) <| rl_v rfl rfl rfl (ov_fieldS rfl Try.underlying25 rfl (fo := 1) rfl (by kernel_rfl) rfl) ?_
      refine rl_v rfl rfl rfl (ov_load rfl Try.underlying3 rfl rfl (by exact hO3.cellL 0 rfl rfl)) ?_
      refine rl_v rfl rfl rfl (ov_lss rfl rfl rfl) <| rl_nil ?_
      first | refine run_cond_dec rfl (fun h3 => ?_) (fun h3 => ?_) | refine run_cond rfl (fun h3 => ?_) (fun h3 => ?_)
      ·obtain ⟨pb, po, ep, rp⟩ := hP.at hO3.tail (by omega)
       refine run_skip <| run_seq <| run_block <| run_seq <| run_seq <| run_region_join 91 (.bool (decide (¬ (1 ≤ P m ∧ P m ≤ 1000000)))) [1, 4] (fun hk21 => ?_) ?_
       ·refine rl_v rfl rfl rfl (ov_fieldS rfl Try.underlying25 rfl (fo := 2) rfl (by kernel_rfl) rfl) ?_
        refine rl_v rfl rfl rfl (ov_load rfl Try.underlying22 rfl rfl (by exact hO3.cellL 0 rfl (off := 2) rfl)) ?_
        refine rl_v rfl rfl rfl (ov_move rfl rfl) <| rl_v rfl rfl rfl (ov_index1 rfl Try.underlying22 (by kernel_rfl) rfl rfl ⟨by omega, by omega⟩ (by exact (id ep))) ?_
        refine rl_v rfl rfl rfl (ov_load rfl Try.underlying2 rfl rfl (by exact rp hO3.tail m hm.1 (by omega))) ?_
        refine rl_v rfl rfl rfl (ov_lss rfl rfl rfl) <| rl_v rfl rfl rfl (ov_move rfl rfl) ?_
        first | refine rl_split_dec 84 rfl (fun c1 => ?_) (fun c1 => ?_) | refine rl_split 84 rfl (fun c1 => ?_) (fun c1 => ?_)
        ·refine rl_gskip rfl rfl rfl rfl rfl rfl <| rl_gskip rfl rfl rfl rfl rfl rfl <| rl_gskip rfl rfl rfl rfl rfl rfl <| rl_gskip rfl rfl rfl rfl rfl rfl <| rl_gskip rfl rfl rfl rfl rfl rfl <| rl_gskip rfl rfl rfl rfl rfl rfl <| rl_v rfl rfl rfl (ov_pick_t rfl rfl rfl) ?_
         refine rl_nil (hk21 _ (jbt rfl (by omega)) (And.intro rfl (And.intro rfl trivial)))
        ·refine rl_gv rfl rfl rfl rfl rfl (ov_fieldS rfl Try.underlying25 rfl (fo := 2) rfl (by kernel_rfl) rfl) ?_
         refine rl_gv rfl rfl rfl rfl rfl (ov_load rfl Try.underlying22 rfl rfl (by exact hO3.cellL 0 rfl (off := 2) rfl)) ?_
         refine rl_gv rfl rfl rfl rfl rfl (ov_move rfl rfl) <| rl_gv rfl rfl rfl rfl rfl (ov_index1 rfl Try.underlying22 (by kernel_rfl) rfl rfl ⟨by omega, by omega⟩ (by exact (id ep))) ?_
         refine rl_gv rfl rfl rfl rfl rfl (ov_load rfl Try.underlying2 rfl rfl (by exact rp hO3.tail m hm.1 (by omega))) ?_
         refine rl_gv rfl rfl rfl rfl rfl (ov_gtr rfl rfl rfl) <| rl_v rfl rfl rfl (ov_pick_f rfl rfl rfl) ?_
         refine rl_nil (hk21 _ (jbd rfl (by omega)) (And.intro rfl (And.intro rfl trivial)))
       ·show Run _ _ _ _ [(91, _), (1, _), (4, _)] _ _
        first | refine run_cond_dec rfl (fun h4 => ?_) (fun h4 => ?_) | refine run_cond rfl (fun h4 => ?_) (fun h4 => ?_)
        ·refine run_seq <| run_region <| rl_v rfl rfl rfl (ov_assign rfl rfl) <| rl_nil <| run_ret Try.func44 (res1 Try.results44 rfl) ?_
         exact ⟨by rw [newE_C hA hB (.inl ⟨m, hm.1, by omega, h4⟩)], hO3.tail⟩
        ·have h4' : 1 ≤ P m ∧ P m ≤ 1000000 := Classical.byContradiction h4
         refine run_skip <| run_seq <| run_region <| rl_v rfl rfl rfl (ov_assign rfl rfl) <| rl_nil <| run_block <| Run.keep [1, 4, 5] (F' := [(1, _), (4, _), (5, _)]) rfl <| run_loop1 (fun (i : Int) => [(5, .int .i64 i)]) [1, 4] (fun (i : Int) (w23 : World) => (0 ≤ i ∧ i ≤ mn) ∧ (∀ r : Int, 0 ≤ r → r < i → -1000000 ≤ F r m ∧ F r m ≤ 1000000) ∧ Own B w0 w23 (some (lch b1 25 (cfL mem mon pa pn pc ma mn mc rate cap)) :: H)) (fun (i : Int) => ((mn : Int) - i).toNat) (0) ?_ (And.intro (by exact slot_int rfl (by first | omega)) (And.intro rfl (And.intro rfl trivial))) ?_
         ·exact ⟨by omega, fun r r0 r1 => by omega, hO3⟩
         intro i w23 hIw23 ih24
         obtain ⟨hi2, hokI, hO4⟩ := hIw23
         show Run _ _ _ _ [(5, _), (1, _), (4, _)] _ _
         refine run_seq <| run_seq <| run_region <| rl_v rfl rfl rfl (ov_move rfl rfl) <| rl_v rfl rfl rfl (ov_fieldS rfl Try.underlying25 rfl (fo := 3) rfl (by kernel_rfl) rfl) ?_
         refine rl_v rfl rfl rfl (ov_load rfl Try.underlying23 rfl rfl (by exact hO4.cellL 0 rfl (off := 3) rfl)) ?_
         refine rl_v rfl rfl rfl (ov_len rfl Try.underlying23 rfl) <| rl_v rfl rfl rfl (ov_lss rfl rfl rfl) <| rl_nil ?_
         first | refine run_cond_dec rfl (fun h5 => ?_) (fun h5 => ?_) | refine run_cond rfl (fun h5 => ?_) (fun h5 => ?_)
         ·obtain ⟨tb, to, et, rt⟩ := SrcV.at hT1 hO4.tail (by omega)
          have hLi := hL i hi2.1 (by omega)
          obtain ⟨eb, eo, ee, re⟩ := (hT2 i hi2.1 (by omega)).at hO4.tail (by omega)
          refine run_skip <| run_seq <| run_block <| run_seq <| run_region_join 118 (.bool (decide (¬ (-1000000 ≤ F i m ∧ F i m ≤ 1000000)))) [1, 4, 5] (fun hk25 => ?_) ?_
          ·refine rl_v rfl rfl rfl (ov_fieldS rfl Try.underlying25 rfl (fo := 3) rfl (by kernel_rfl) rfl) ?_
           refine rl_v rfl rfl rfl (ov_load rfl Try.underlying23 rfl rfl (by exact hO4.cellL 0 rfl (off := 3) rfl)) ?_
           refine rl_v rfl rfl rfl (ov_move rfl rfl) <| rl_v rfl rfl rfl (ov_index1 rfl Try.underlying23 (by kernel_rfl) rfl rfl ⟨by omega, by omega⟩ (by exact (id et))) ?_
           refine rl_v rfl rfl rfl (ov_load rfl Try.underlying22 rfl rfl (by exact (show _ = some (Value.slice (A i) (L i) (C i)) from rt hO4.tail i hi2.1 (by omega)))) ?_
           refine rl_v rfl rfl rfl (ov_move rfl rfl) <| rl_v rfl rfl rfl (ov_index1 rfl Try.underlying22 (by kernel_rfl) rfl rfl ⟨by omega, by omega⟩ (by exact (id ee))) ?_
           refine rl_v rfl rfl rfl (ov_load rfl Try.underlying2 rfl rfl (by exact re hO4.tail m hm.1 (by omega))) ?_
           refine rl_v rfl rfl rfl (ov_lss rfl rfl rfl) <| rl_v rfl rfl rfl (ov_move rfl rfl) ?_
           first | refine rl_split_dec 108 rfl (fun c1 => ?_) (fun c1 => ?_) | refine rl_split 108 rfl (fun c1 => ?_) (fun c1 => ?_)
           ·refine rl_gskip rfl rfl rfl rfl rfl rfl <| rl_gskip rfl rfl rfl rfl rfl rfl <| rl_gskip rfl rfl rfl rfl rfl rfl <| rl_gskip rfl rfl rfl rfl rfl rfl <| rl_gskip rfl rfl rfl rfl rfl rfl <| rl_gskip rfl rfl rfl rfl rfl rfl <| rl_gskip rfl rfl rfl rfl rfl rfl <| rl_gskip rfl rfl rfl rfl rfl rfl <| rl_gskip rfl rfl rfl rfl rfl rfl <| rl_v rfl rfl rfl (ov_pick_t rfl rfl rfl) ?_
            refine rl_nil (hk25 _ (jbt rfl (by omega)) (And.intro rfl (And.intro rfl (And.intro rfl trivial))))
           ·refine rl_gv rfl rfl rfl rfl rfl (ov_fieldS rfl Try.underlying25 rfl (fo := 3) rfl (by kernel_rfl) rfl) ?_
            refine rl_gv rfl rfl rfl rfl rfl (ov_load rfl Try.underlying23 rfl rfl (by exact hO4.cellL 0 rfl (off := 3) rfl)) ?_
            refine rl_gv rfl rfl rfl rfl rfl (ov_move rfl rfl) <| rl_gv rfl rfl rfl rfl rfl (ov_index1 rfl Try.underlying23 (by kernel_rfl) rfl rfl ⟨by omega, by omega⟩ (by exact (id et))) ?_
            refine rl_gv rfl rfl rfl rfl rfl (ov_load rfl Try.underlying22 rfl rfl (by exact (show _ = some (Value.slice (A i) (L i) (C i)) from rt hO4.tail i hi2.1 (by omega)))) ?_
            refine rl_gv rfl rfl rfl rfl rfl (ov_move rfl rfl) <| rl_gv rfl rfl rfl rfl rfl (ov_index1 rfl Try.underlying22 (by kernel_rfl) rfl rfl ⟨by omega, by omega⟩ (by exact (id ee))) ?_
            refine rl_gv rfl rfl rfl rfl rfl (ov_load rfl Try.underlying2 rfl rfl (by exact re hO4.tail m hm.1 (by omega))) ?_
            refine rl_gv rfl rfl rfl rfl rfl (ov_gtr rfl rfl rfl) <| rl_v rfl rfl rfl (ov_pick_f rfl rfl rfl) ?_
            refine rl_nil (hk25 _ (jbd rfl (by omega)) (And.intro rfl (And.intro rfl (And.intro rfl trivial))))
          ·show Run _ _ _ _ [(118, _), (1, _), (4, _), (5, _)] _ _
           first | refine run_cond_dec rfl (fun h6 => ?_) (fun h6 => ?_) | refine run_cond rfl (fun h6 => ?_) (fun h6 => ?_)
           ·refine run_seq <| run_region <| rl_v rfl rfl rfl (ov_assign rfl rfl) <| rl_nil <| run_ret Try.func44 (res1 Try.results44 rfl) ?_
            exact ⟨by rw [newE_C hA hB (.inr ⟨i, hi2.1, by omega, m, hm.1, by omega, h6⟩)], hO4.tail⟩
           ·refine run_skip <| run_inBlock <| run_region <| rl_v rfl rfl rfl (ov_move rfl rfl) <| rl_v rfl rfl rfl (ov_add rfl rfl rfl (by omega)) ?_
            refine rl_v rfl rfl rfl (ov_assign rfl rfl) <| rl_nil ?_
            refine Run.use (ih24 (i + 1) _ ?_ ?_) (And.intro (by exact slot_int rfl (by first | omega)) (And.intro rfl (And.intro rfl trivial)))
            ·first | omega | (dsimp only; omega)
            ·exact ⟨by omega, fun r r0 r1 => (by rcases Int.lt_or_eq_of_le (show r ≤ i by omega) with h | rfl; exact hokI r r0 h; exact Classical.byContradiction h6), hO4⟩
         ·refine run_exit rfl <| run_inBlock <| run_region <| rl_v rfl rfl rfl (ov_move rfl rfl) <| rl_v rfl rfl rfl (ov_add rfl rfl rfl (by omega)) ?_
          refine rl_v rfl rfl rfl (ov_assign rfl rfl) <| rl_nil ?_
          refine Run.use (ih20 (m + 1) _ ?_ ?_) (And.intro (by exact slot_int rfl (by first | omega)) (And.intro rfl trivial))
          ·first | omega | (dsimp only; omega)
          ·exact ⟨by omega, fun k k0 k1 => (by rcases Int.lt_or_eq_of_le (show k ≤ m by omega) with h | rfl; exact hokP k k0 h; exact h4'), fun r r0 r1 k k0 k1 => (by rcases Int.lt_or_eq_of_le (show k ≤ m by omega) with h | rfl; exact hokF r r0 r1 k k0 h; exact hokI r r0 (by omega)), hO4⟩
      ·refine run_exit rfl <| run_seq <| run_region <| rl_v rfl rfl rfl (ov_assign rfl rfl) <| rl_nil <| run_ret Try.func44 (res1 Try.results44 rfl) ?_
       exact ⟨by rw [newE_zero hA hB (fun ⟨i, i0, i1, h⟩ => h (hokP i i0 (by omega))) (fun ⟨i, i0, i1, m2, m20, m21, h⟩ => h (hokF i i0 i1 m2 m20 (by have := hL i i0 i1; omega)))], hO3.tail⟩
end Go.Proofs.Ytfbbagnpdfafjaa
