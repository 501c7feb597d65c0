import Derived.Test.YtfbbagnpdfafjaaHaX
set_option maxRecDepth 100000
namespace Go.Proofs.Ytfbbagnpdfafjaa
open Go.RowKit Go.Proofs
def CfRd (B : Nat) (w0 : World) (H : List (Option Blk)) (pa : Option Addr) (pn pc : Nat) (ma : Option Addr) (mk : Nat) (P : Int → Int) (L : Int → Nat) (F : Int → Int → Int) : Prop :=
 pn ≤ pc ∧ (∀ w, Own B w0 w H → IAt w.heap.size w pa pn (fun i => iv (P i))) ∧ ∃ (A : Int → Option Addr) (C : Int → Nat), (∀ w, Own B w0 w H → IAt w.heap.size w ma mk (fun r => .slice (A r) (L r) (C r))) ∧ (∀ r : Int, 0 ≤ r → r < mk → ∀ w, Own B w0 w H → IAt w.heap.size w (A r) (L r) (fun c => iv (F r c))) ∧ ∀ r : Int, 0 ≤ r → r < mk → L r ≤ C r
theorem CfRd.of_src {B : Nat} {w0 : World} {N H : List (Option Blk)} {pa : Option Addr} {pn pc : Nat} {ma : Option Addr} {mk : Nat} {P : Int → Int} {L : Int → Nat} {F : Int → Int → Int} (hp : pn ≤ pc) (h1 : SrcI N pa pn P) (h2 : TSrc N ma mk L F) (hs : N.Sublist H) : CfRd B w0 H pa pn pc ma mk P L F := by
 obtain ⟨A, C, e1, e2, e3⟩ := h2
 exact ⟨hp, fun w hO => h1 B w0 w (hO.sub hs), A, C, fun w hO => e1 B w0 w (hO.sub hs), fun r r0 r1 w hO => e2 r r0 r1 B w0 w (hO.sub hs), e3⟩
theorem sub_pick {a b c d : Option Blk} {M H : List (Option Blk)} : H.Sublist (a :: (M ++ (b :: c :: d :: H))) := .cons _ ((List.Sublist.cons _ (.cons _ (.cons _ (.refl _)))).trans (List.sublist_append_right M _))
theorem at_pick {a b c d : Option Blk} {M H : List (Option Blk)} : ((a :: (M ++ (b :: c :: d :: H))) : List (Option Blk))[M.length + 1 + 2]? = some d := by
 rw [show M.length + 1 + 2 = (M.length + 2) + 1 by omega, List.getElem?_cons_succ, List.getElem?_append_right (by omega), show M.length + 2 - M.length = 2 by omega]
 rfl
theorem at_pick2 {x a b c d : Option Blk} {M H : List (Option Blk)} : ((x :: a :: (M ++ (b :: c :: d :: H))) : List (Option Blk))[M.length + 1 + 3]? = some d := by
 rw [show M.length + 1 + 3 = (M.length + 1 + 2) + 1 by omega, List.getElem?_cons_succ]
 exact at_pick
theorem copied_any (mm mn : Int) (pa ma : Option Addr) (pn pc mk mc : Nat) (rt cp : Int) (P : Int → Int) (L : Int → Nat) (F : Int → Int → Int) (B : Nat) (H : List (Option Blk)) (w0 w : World) (hO : Own B w0 w H) (hR : CfRd B w0 H pa pn pc ma mk P L F) :
  Calls Try.prog 43 #[.agg (cfL mm mn pa pn pc ma mk mc rt cp).toArray] w fun e w' => ∃ pa' ma' pc' mc' N, e = .returned (.agg (cfL mm mn pa' (min pn 20) pc' ma' (min mk 66) mc' rt cp).toArray) ∧ (min pn 20 ≤ pc' ∧ SrcI N pa' (min pn 20) P ∧ TSrc N ma' (min mk 66) (fun r => min (L r) 20) F) ∧ Own B w0 w' (N ++ H) := by
 obtain ⟨hpc, hP, A, C, hT1, hT2, hLC⟩ := hR
 refine calls_of_run (F := [(0, _)]) Try.func43 rfl Try.ntmps43 rfl rfl <| run_seq <| run_region <| rl_ow rfl (ow_box _ rfl rfl rfl rfl rfl hO) ?_
 rintro _ w1 ⟨b1, rfl, hO2, hs3⟩
 refine rl_ow rfl (ow_alloc _ rfl rfl rfl zero_25 rfl hO2) ?_
 rintro _ w4 ⟨b2, rfl, hO5, hs6⟩
 refine rl_nil <| run_seq <| run_region <| rl_v rfl rfl rfl (ov_fieldS rfl Try.underlying25 rfl (fo := 0) rfl (by kernel_rfl) rfl) ?_
 refine rl_v rfl rfl rfl (ov_load rfl Try.underlying3 rfl rfl (by exact (show _ = some (iv mm) from hO5.cellL 1 rfl (off := 0) rfl))) ?_
 refine rl_v rfl rfl rfl (ov_fieldS rfl Try.underlying25 rfl (fo := 1) rfl (by kernel_rfl) rfl) ?_
 refine rl_v rfl rfl rfl (ov_load rfl Try.underlying3 rfl rfl (by exact (show _ = some (iv mn) from hO5.cellL 1 rfl (off := 1) rfl))) ?_
 refine rl_v rfl rfl rfl (ov_fieldS rfl Try.underlying25 rfl (fo := 4) rfl (by kernel_rfl) rfl) ?_
 refine rl_v rfl rfl rfl (ov_load rfl Try.underlying2 rfl rfl (by exact (show _ = some (iv rt) from hO5.cellL 1 rfl (off := 4) rfl))) ?_
 refine rl_v rfl rfl rfl (ov_fieldS rfl Try.underlying25 rfl (fo := 5) rfl (by kernel_rfl) rfl) ?_
 refine rl_v rfl rfl rfl (ov_load rfl Try.underlying2 rfl rfl (by exact (show _ = some (iv cp) from hO5.cellL 1 rfl (off := 5) rfl))) ?_
 refine rl_v rfl rfl rfl (ov_buildL rfl lay_25 rfl (us := [_, _, _, _, _, _]) rfl) <| rl_ow rfl (ow_alloc _ rfl rfl rfl zero_25 rfl hO5) ?_
 rintro _ w7 ⟨b3, rfl, hO8, hs9⟩
 refine rl_ow rfl (ow_storeW rfl rfl (by kernel_rfl) hO8 0 rfl rfl (by rfl) rfl (by rfl)) ?_
 rintro _ w10 ⟨rfl, hO11, hs12⟩
 have hOn := hO11.nil_cons
 refine rl_nil <| run_seq <| run_region <| rl_v rfl rfl rfl (ov_assign rfl rfl) <| rl_nil <| run_seq <| run_region <| rl_v rfl rfl rfl (ov_move rfl rfl) <| rl_v rfl rfl rfl (ov_fieldS rfl Try.underlying25 rfl (fo := 2) rfl (by kernel_rfl) rfl) ?_
 refine rl_v rfl rfl rfl (ov_load rfl Try.underlying22 rfl rfl (by exact hOn.cellL 3 rfl (off := 2) rfl)) ?_
 refine rl_v rfl rfl rfl (ov_fieldS rfl Try.underlying25 rfl (fo := 2) rfl (by kernel_rfl) rfl) ?_
 refine rl_v rfl rfl rfl (ov_load rfl Try.underlying22 rfl rfl (by exact hOn.cellL 3 rfl (off := 2) rfl)) ?_
 refine rl_v rfl rfl rfl (ov_len rfl Try.underlying22 rfl) <| rl_v rfl rfl rfl (ov_min rfl rfl rfl) <| rl_v rfl rfl rfl (ov_sliceH (min pn 20) (s := 1) rfl Try.underlying22 (by kernel_rfl) rfl rfl (by omega) (by omega)) ?_
 refine rl_ow rfl (ow_appS rfl rfl rfl Try.underlying22 info_2 rfl hOn 0 (IRow.nil 2 (fun _ => iv 0)) rfl rfl rfl (((hP _ (hOn.sub (.cons _ (.cons _ (.cons _ (.cons _ (.refl _))))))).take (by omega))) (fun _ => rfl) ⟨by omega, by omega⟩) ?_
 rintro _ w13 ⟨v25, c25, rfl, hO14, hr25, hs15⟩
 obtain ⟨a25, cp25, rfl, hcp25⟩ := Row.valC hr25
 refine rl_v rfl rfl rfl (ov_assign rfl rfl) <| rl_nil <| run_seq <| run_region <| rl_v rfl rfl rfl (ov_move rfl rfl) <| rl_v rfl rfl rfl (ov_fieldS rfl Try.underlying25 rfl (fo := 2) rfl (by kernel_rfl) rfl) ?_
 refine rl_ow rfl (ow_storeL rfl rfl (by kernel_rfl) hO14 1 rfl rfl rfl rfl rfl) ?_
 rintro _ w16 ⟨rfl, hO17, hs18⟩
 rw [Nat.zero_add] at hr25 hcp25
 have hO2 : Own B w0 w16 (some (lch b3 25 (cfL mm mn a25 (min pn 20) cp25 none 0 0 rt cp)) :: c25 :: some (lch b2 25 (cfL 0 0 none 0 0 none 0 0 0 0)) :: some (lch b1 25 (cfL mm mn pa pn pc ma mk mc rt cp)) :: H) := by
  have h := hO17.swap
  simp only [Nat.zero_add] at h
  exact h
 have hrP : IRow (.slice a25 (min pn 20) cp25) 2 (min pn 20) (fun i => iv (P i)) c25 := hr25.congr fun i i0 i1 => by unfold joinF; rw [if_neg (by omega)]; exact congrArg (fun j => iv (P j)) (by omega)
 refine rl_nil <| run_seq <| run_seq <| run_region <| rl_v rfl rfl rfl (ov_assign rfl rfl) <| rl_nil <| run_block <| Run.keep [1, 2, 3, 5] (F' := [(1, _), (2, _), (3, _), (5, _)]) rfl <| run_loop2 (fun (i : Int) (q : Nat) => [(5, .int .i64 i)]) [1, 2, 3] (fun (i : Int) (q : Nat) (w19 : World) => i = q ∧ q ≤ min mk 66 ∧ ∃ (v : Option Addr) (cq : Nat) (Hm : List (Option Blk)), OTab (.slice v q cq) 22 2 q (fun r => min (L r) 20) (fun r c => iv (F r c)) Hm ∧ q ≤ cq ∧ Own B w0 w19 (some (lch b3 25 (cfL mm mn a25 (min pn 20) cp25 v q cq rt cp)) :: (Hm ++ (c25 :: some (lch b2 25 (cfL 0 0 none 0 0 none 0 0 0 0)) :: some (lch b1 25 (cfL mm mn pa pn pc ma mk mc rt cp)) :: H)))) (fun (i : Int) (q : Nat) => min mk 66 - q) (0) (0) ?_ (And.intro (by exact slot_int rfl (by first | omega)) (And.intro rfl (And.intro rfl (And.intro rfl trivial)))) ?_
 ·exact ⟨rfl, by omega, none, 0, [none], OTab.nil _ _ _ _, Nat.le_refl 0, hO2.nil_cons.swap⟩
 intro i q w19 hIw19 ih20
 obtain ⟨hiq, hqm, v, cq, Hm, hTb, hcq, hO3⟩ := hIw19
 show Run _ _ _ _ [(5, _), (1, _), (2, _), (3, _)] _ _
 refine run_seq <| run_seq <| run_region_join 36 (.bool (decide (i < min mk 66))) [1, 2, 3, 5] (fun hk21 => ?_) ?_
 ·refine rl_v rfl rfl rfl (ov_move rfl rfl) <| rl_v rfl rfl rfl (ov_fieldS rfl Try.underlying25 rfl (fo := 3) rfl (by kernel_rfl) rfl) ?_
  refine rl_v rfl rfl rfl (ov_load rfl Try.underlying23 rfl rfl (by exact hO3.cellL (Hm.length + 1 + 2) at_pick (off := 3) rfl)) ?_
  refine rl_v rfl rfl rfl (ov_len rfl Try.underlying23 rfl) <| rl_v rfl rfl rfl (ov_lss rfl rfl rfl) <| rl_v rfl rfl rfl (ov_move rfl rfl) ?_
  first | refine rl_split_dec 33 rfl (fun hg22 => ?_) (fun hg22 => ?_) | refine rl_split 33 rfl (fun hg22 => ?_) (fun hg22 => ?_)
  ·refine rl_gv rfl rfl rfl rfl rfl (ov_move rfl rfl) <| rl_gv rfl rfl rfl rfl rfl (ov_lss rfl rfl rfl) <| rl_v rfl rfl rfl (ov_pick_t rfl rfl rfl) ?_
   refine rl_nil (hk21 _ (jbd rfl (by omega)) (And.intro rfl (And.intro rfl (And.intro rfl (And.intro rfl trivial)))))
  ·refine rl_gskip rfl rfl rfl rfl rfl rfl <| rl_gskip rfl rfl rfl rfl rfl rfl <| rl_v rfl rfl rfl (ov_pick_f rfl rfl rfl) ?_
   refine rl_nil (hk21 _ (jbf rfl (by omega)) (And.intro rfl (And.intro rfl (And.intro rfl (And.intro rfl trivial)))))
 ·show Run _ _ _ _ [(36, _), (1, _), (2, _), (3, _), (5, _)] _ _
  first | refine run_cond_dec rfl (fun h1 => ?_) (fun h1 => ?_) | refine run_cond rfl (fun h1 => ?_) (fun h1 => ?_)
  ·have hi0 : 0 ≤ i := by omega
   have hLi := hLC i hi0 (by omega)
   obtain ⟨gb, go, hga, hrow⟩ := (hT1 _ (hO3.sub sub_pick)).open
   have hma : ma = some ⟨gb, go, none⟩ := hga (by omega)
   have hrd : ∀ {w' : World}, Own B w0 w' H → w'.cell? ⟨gb, go + i.toNat, none⟩ = some (.slice (A i) (L i) (C i)) := fun h => by
    obtain ⟨gb', go', e1, e2⟩ := (hT1 _ h).open
    have e := e1 (by omega)
    rw [hma] at e
    cases e
    exact e2 _ (Below.refl _ _) i hi0 (by omega)
   have hOn2 := hO3.nil_cons
   refine run_skip <| run_seq <| run_block <| run_seq <| run_region <| rl_v rfl rfl rfl (ov_assign rfl rfl) <| rl_nil <| run_seq <| run_tail 14 mixed (by kernel_rfl) ?_
   have hO24 := hOn2.drew
   generalize World.drew w19 = w23 at hO24 ⊢
   refine rt_v rfl rfl rfl (ov_move rfl rfl) <| rt_v rfl rfl rfl (ov_fieldS rfl Try.underlying25 rfl (fo := 3) rfl (by kernel_rfl) rfl) ?_
   refine rt_v rfl rfl rfl (ov_load rfl Try.underlying23 rfl rfl (by exact hO24.cellL (Hm.length + 1 + 3) at_pick2 (off := 3) rfl)) ?_
   refine rt_v rfl rfl rfl (ov_move rfl rfl) <| rt_v rfl rfl rfl (ov_index1 rfl Try.underlying23 (by kernel_rfl) rfl rfl ⟨by omega, by omega⟩ (by exact (id hma))) ?_
   refine rt_v rfl rfl rfl (ov_load rfl Try.underlying22 rfl rfl (by exact hrd (hO24.sub (.cons _ sub_pick)))) ?_
   refine rt_v rfl rfl rfl (ov_fieldS rfl Try.underlying25 rfl (fo := 3) rfl (by kernel_rfl) rfl) ?_
   refine rt_v rfl rfl rfl (ov_load rfl Try.underlying23 rfl rfl (by exact hO24.cellL (Hm.length + 1 + 3) at_pick2 (off := 3) rfl)) ?_
   refine rt_v rfl rfl rfl (ov_move rfl rfl) <| rt_v rfl rfl rfl (ov_index1 rfl Try.underlying23 (by kernel_rfl) rfl rfl ⟨by omega, by omega⟩ (by exact (id hma))) ?_
   refine rt_v rfl rfl rfl (ov_load rfl Try.underlying22 rfl rfl (by exact hrd (hO24.sub (.cons _ sub_pick)))) ?_
   refine rt_v rfl rfl rfl (ov_len rfl Try.underlying22 rfl) <| rt_v rfl rfl rfl (ov_min rfl rfl rfl) <| rt_v rfl rfl rfl (ov_sliceH (min (L i) 20) (s := 1) rfl Try.underlying22 (by kernel_rfl) rfl rfl (by omega) (by omega)) ?_
   refine rt_nil <| rl_ow rfl (ow_appS rfl rfl rfl Try.underlying22 info_2 rfl hO24 0 (IRow.nil 2 (fun _ => iv 0)) rfl rfl rfl (((hT2 i hi0 (by omega) _ (hO24.sub (.cons _ sub_pick))).take (by omega))) (fun _ => rfl) ⟨by omega, by omega⟩) ?_
   rintro _ w25 ⟨v53, c53, rfl, hO26, hr53, hs27⟩
   obtain ⟨a53, cp53, rfl⟩ := hr53.val
   obtain ⟨co, rv, ch, rfl, hv, h3t⟩ := hTb
   refine rl_v rfl rfl rfl (ov_assign rfl rfl) <| rl_nil <| run_seq <| run_region <| rl_v rfl rfl rfl (ov_fieldS rfl Try.underlying25 rfl (fo := 3) rfl (by kernel_rfl) rfl) ?_
   refine rl_v rfl rfl rfl (ov_load rfl Try.underlying23 rfl rfl (by exact hO26.cellL 1 rfl (off := 3) rfl)) ?_
   refine rl_v rfl rfl rfl (ov_assign rfl rfl) <| rl_nil <| run_seq <| run_region <| rl_v rfl rfl rfl (ov_move rfl rfl) <| rl_v rfl rfl rfl (ov_move rfl rfl) ?_
   refine rl_appV rfl rfl rfl rfl rfl rfl rfl rfl Try.underlying23 info_22 rfl hO26 2 hv rfl rfl rfl rfl ⟨by omega, by omega⟩ (fun v59 c59 w28 hO29 hv59 hs30 => ?_)
   obtain ⟨a59, cp59, rfl, hcp59⟩ := Row.valC hv59
   refine rl_v rfl rfl rfl (ov_assign rfl rfl) <| rl_nil <| run_region <| rl_v rfl rfl rfl (ov_move rfl rfl) <| rl_v rfl rfl rfl (ov_fieldS rfl Try.underlying25 rfl (fo := 3) rfl (by kernel_rfl) rfl) ?_
   refine rl_ow rfl (ow_storeL rfl rfl (by kernel_rfl) hO29 1 rfl rfl rfl rfl rfl) ?_
   rintro _ w31 ⟨rfl, hO32, hs33⟩
   have hO6 : Own B w0 w31 (c53 :: some (lch b3 25 (cfL mm mn a25 (min pn 20) cp25 a59 (q + 1) cp59 rt cp)) :: c59 :: ((List.range q).map ch ++ (c25 :: some (lch b2 25 (cfL 0 0 none 0 0 none 0 0 0 0)) :: some (lch b1 25 (cfL mm mn pa pn pc ma mk mc rt cp)) :: H))) := hO32
   have hO7 := hO6.perm (.cons _ ((List.Perm.swap _ _ _).trans (.cons _ List.perm_middle.symm)))
   obtain ⟨H', hT', hO8⟩ := OTab.snoc (L := fun r => min (L r) 20) (F := fun r c => iv (F r c)) h3t hr53 hv59 hO7 (by rw [← hiq, Nat.zero_add]) (fun j _ _ => by unfold joinF; rw [if_neg (by omega), ← hiq]; exact congrArg (fun k => iv (F i k)) (by omega))
   refine rl_nil <| run_inBlock <| run_region <| rl_v rfl rfl rfl (ov_move rfl rfl) <| rl_v rfl rfl rfl (ov_add rfl rfl rfl (by omega)) ?_
   refine rl_v rfl rfl rfl (ov_assign rfl rfl) <| rl_nil ?_
   refine Run.use (ih20 (i + 1) (q + 1) _ ?_ ?_) (And.intro (by exact slot_int rfl (by first | omega)) (And.intro rfl (And.intro rfl (And.intro rfl trivial))))
   ·first | omega | (dsimp only; omega)
   ·exact ⟨by omega, by omega, a59, cp59, H', hT', hcp59, hO8.perm List.perm_middle⟩
  ·obtain rfl : q = min mk 66 := by omega
   have hO9 := hO3.perm perm_pick2
   refine run_exit rfl <| run_seq <| run_region <| rl_v rfl rfl rfl (ov_loadW rfl Try.underlying25 rfl (by kernel_rfl) rfl hO9 1 rfl) ?_
   refine rl_ow rfl (ow_storeW rfl rfl (by kernel_rfl) hO9 0 rfl rfl (by rfl) rfl (by rfl)) ?_
   rintro _ w34 ⟨rfl, hO35, hs36⟩
   have hO10 := hO35.tail.tail.sub (List.Sublist.append_left (.cons_cons _ (.cons _ (.refl _))) Hm)
   have hO11 : Own B w0 w34 ((Hm ++ [c25]) ++ H) := by rw [List.append_assoc]; exact hO10
   refine rl_nil <| run_ret Try.func43 (resW Try.results43 rfl Try.underlying25 rfl (by kernel_rfl) hO35 0 rfl) ?_
   exact ⟨a25, v, cp25, cq, Hm ++ [c25], rfl, ⟨hcp25, fun B w0 w hO => hrP.reads hO Hm.length (by simp), hTb.tsrc.sub (List.sublist_append_left _ _)⟩, hO11⟩
theorem give_any (mm mn : Int) (pa ma : Option Addr) (pn pc mk mc : Nat) (rt cp : Int) (P : Int → Int) (L : Int → Nat) (F : Int → Int → Int) (B : Nat) (H : List (Option Blk)) (w0 w : World) (hO : Own B w0 w H) (hR : CfRd B w0 H pa pn pc ma mk P L F) :
  Calls Try.prog 18 #[.agg (cfL mm mn pa pn pc ma mk mc rt cp).toArray] w fun e w' => ∃ pa' ma' pc' mc' N, e = .returned (.agg (cfL mm mn pa' (min pn 20) pc' ma' (min mk 66) mc' rt cp).toArray) ∧ (min pn 20 ≤ pc' ∧ SrcI N pa' (min pn 20) P ∧ TSrc N ma' (min mk 66) (fun r => min (L r) 20) F) ∧ Own B w0 w' (N ++ H) := by
 have hR2 : ∀ {x y : Option Blk}, CfRd B w0 (x :: y :: H) pa pn pc ma mk P L F := fun {x y} => by
  obtain ⟨hpc, hP, A, C, hT1, hT2, hLC⟩ := hR
  exact ⟨hpc, fun w h => hP w h.tail.tail, A, C, fun w h => hT1 w h.tail.tail, fun r r0 r1 w h => hT2 r r0 r1 w h.tail.tail, hLC⟩
 refine calls_of_run (F := [(0, _)]) Try.func18 rfl Try.ntmps18 rfl rfl <| run_seq <| run_region <| rl_ow rfl (ow_box _ rfl rfl rfl rfl rfl hO) ?_
 rintro _ w1 ⟨b1, rfl, hO2, hs3⟩
 refine rl_ow rfl (ow_alloc _ rfl rfl rfl zero_40 rfl hO2) ?_
 rintro _ w4 ⟨b2, rfl, hO5, hs6⟩
 refine rl_nil <| run_seq <| run_region <| rl_v rfl rfl rfl (ov_loadW rfl Try.underlying25 rfl (by kernel_rfl) rfl hO5 1 rfl) ?_
 refine rl_call callable_43 rfl rfl rfl rfl rfl rfl (copied_any mm mn pa ma pn pc mk mc rt cp P L F B _ w0 w4 hO5 hR2) (fun e7 w8 hp9 => ?_)
 obtain ⟨pa', ma', pc', mc', N, rfl, hN, hO2⟩ := hp9
 refine ⟨_, rfl, ?_⟩
 refine rl_ow rfl (ow_alloc _ rfl rfl rfl zero_25 rfl hO2) ?_
 rintro _ w10 ⟨b3, rfl, hO11, hs12⟩
 refine rl_ow rfl (ow_storeW rfl rfl (by kernel_rfl) hO11 0 rfl rfl (by rfl) rfl (by rfl)) ?_
 rintro _ w13 ⟨rfl, hO14, hs15⟩
 have hO3 := hO14.perm ((List.Perm.cons _ List.perm_middle).trans (List.Perm.swap _ _ _))
 refine rl_nil <| run_seq <| run_region <| rl_v rfl rfl rfl (ov_fieldS rfl Try.underlying25 rfl (fo := 0) rfl (by kernel_rfl) rfl) ?_
 refine rl_v rfl rfl rfl (ov_load rfl Try.underlying3 rfl rfl (by exact (show _ = some (iv mm) from hO3.cellL 1 rfl (off := 0) rfl))) ?_
 refine rl_v rfl rfl rfl (ov_fieldS rfl Try.underlying25 rfl (fo := 1) rfl (by kernel_rfl) rfl) ?_
 refine rl_v rfl rfl rfl (ov_load rfl Try.underlying3 rfl rfl (by exact (show _ = some (iv mn) from hO3.cellL 1 rfl (off := 1) rfl))) ?_
 refine rl_v rfl rfl rfl (ov_fieldS rfl Try.underlying25 rfl (fo := 2) rfl (by kernel_rfl) rfl) ?_
 refine rl_v rfl rfl rfl (ov_load rfl Try.underlying22 rfl rfl (by exact hO3.cellL 1 rfl (off := 2) rfl)) ?_
 refine rl_v rfl rfl rfl (ov_fieldS rfl Try.underlying25 rfl (fo := 3) rfl (by kernel_rfl) rfl) ?_
 refine rl_v rfl rfl rfl (ov_load rfl Try.underlying23 rfl rfl (by exact hO3.cellL 1 rfl (off := 3) rfl)) ?_
 refine rl_v rfl rfl rfl (ov_fieldS rfl Try.underlying25 rfl (fo := 4) rfl (by kernel_rfl) rfl) ?_
 refine rl_v rfl rfl rfl (ov_load rfl Try.underlying2 rfl rfl (by exact (show _ = some (iv rt) from hO3.cellL 1 rfl (off := 4) rfl))) ?_
 refine rl_v rfl rfl rfl (ov_fieldS rfl Try.underlying25 rfl (fo := 5) rfl (by kernel_rfl) rfl) ?_
 refine rl_v rfl rfl rfl (ov_load rfl Try.underlying2 rfl rfl (by exact (show _ = some (iv cp) from hO3.cellL 1 rfl (off := 5) rfl))) ?_
 refine rl_v rfl rfl rfl (ov_buildL rfl lay_40 rfl (us := [_, _, _, _, _, _]) rfl) <| rl_ow rfl (ow_storeW rfl rfl (by kernel_rfl) hO3 0 rfl rfl (by rfl) rfl (by rfl)) ?_
 rintro _ w16 ⟨rfl, hO17, hs18⟩
 refine rl_nil <| run_ret Try.func18 (resW Try.results18 rfl Try.underlying40 rfl (by kernel_rfl) hO17 0 rfl) ?_
 exact ⟨pa', ma', pc', mc', N, rfl, hN, hO17.tail.tail.sub (List.Sublist.append_left (.cons _ (.refl _)) N)⟩
end Go.Proofs.Ytfbbagnpdfafjaa
