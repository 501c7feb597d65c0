import Derived.Test.YtbepolognfdkeaaGreatHlL
import Derived.Test.YtbepolognfdkeaaGreatHlK
import Derived.Test.YtbepolognfdkeaaGreatTuC
set_option maxRecDepth 100000
namespace Go.Proofs.YtbepolognfdkeaaGreat
open Go.RowKit Go.Proofs Go.MapKept Hal
set_option maxHeartbeats 8000000 in
theorem topHours_any (la : Option Addr) (lc : Nat) (l : Lds) (w : World) (hI : l.I64) (hl : SAt w.heap.size w la 4 l.n (ldF l)) :
  Calls Tryz.prog 4 #[.slice la l.n lc] w fun e w' => e = .returned (.bool true) ∧ Below w.heap.size w w' := by
 obtain ⟨lb, lo, hla, hlr⟩ := hl.open (by decide)
 obtain ⟨N, hN⟩ : ∃ N : Nat, (N : Int) = min (l.n : Int) 9 := ⟨min l.n 9, by omega⟩
 have hN9 : N ≤ 9 := by omega
 have hNn : N ≤ l.n := by omega
 refine calls_of_run (F := [(0, _)]) Tryz.func4 rfl Tryz.ntmps4 rfl rfl ?_
 have hO0 := Own.init w
 refine run_seq <| run_region <| rl_v rfl rfl rfl (ov_assign rfl rfl) <| rl_nil <| run_seq <| run_region <| rl_v rfl rfl rfl (ov_assign rfl rfl) <| rl_nil <| run_seq <| run_region <| rl_v rfl rfl rfl (ov_assign rfl rfl) <| rl_nil <| run_seq <| run_seq <| run_region <| rl_v rfl rfl rfl (ov_assign rfl rfl) <| rl_nil <| run_block <| Run.keep [0, 3, 4, 5] (F' := [(0, _), (3, _), (4, _), (5, _)]) rfl <| run_loop3 (fun (i : Nat) (v3 : Value) (v4 : Value) => [(5, .int .i64 (i : Int)), (3, v3), (4, v4)]) [0] (fun (i : Nat) (v3 : Value) (v4 : Value) (w1 : World) => i ≤ N ∧ ∃ (c3 : Option Blk) (Hg : List (Option Blk)), SRow v3 58 4 i (ldF (hrL l i)) c3 ∧ OTab v4 59 2 i (fun _ => 10) (fun r j => iv (hallV (hrL l i) r j)) Hg ∧ Own w.heap.size w w1 (c3 :: (Hg ++ []))) (fun (i : Nat) (v3 : Value) (v4 : Value) => N - i) (0) (.slice none 0 0) (.slice none 0 0) ?_ (And.intro (by exact slot_int rfl (by first | omega)) (And.intro rfl (And.intro rfl (And.intro rfl trivial)))) ?_
 ·exact ⟨Nat.zero_le _, none, [none], SRow.nil _ _ _, OTab.nil _ _ _ _, hO0.nil_cons.nil_cons⟩
 intro i v3 v4 w1 hIw1 ih2
 obtain ⟨hi, c3, Hg, hr3, hTg, hO1⟩ := hIw1
 show Run _ _ _ _ [(5, _), (3, _), (4, _), (0, _)] _ _
 obtain ⟨co, rv, ch, rfl, hv, h3⟩ := hTg
 obtain ⟨a3, k3, rfl⟩ := Row.val hr3
 refine run_seq <| run_seq <| run_region_join 30 (.bool (decide ((i : Int) < N))) [0, 3, 4, 5] (fun hk3 => ?_) ?_
 ·refine rl_v rfl rfl rfl (ov_move rfl rfl) <| rl_v rfl rfl rfl (ov_move rfl rfl) <| rl_v rfl rfl rfl (ov_len rfl Tryz.underlying24 rfl) <| rl_v rfl rfl rfl (ov_lss rfl rfl rfl) <| rl_v rfl rfl rfl (ov_move rfl rfl) ?_
  first | refine rl_split_dec 27 rfl (fun hg4 => ?_) (fun hg4 => ?_) | refine rl_split 27 rfl (fun hg4 => ?_) (fun hg4 => ?_)
  ·refine rl_gv rfl rfl rfl rfl rfl (ov_move rfl rfl) <| rl_gv rfl rfl rfl rfl rfl (ov_lss rfl rfl rfl) <| rl_v rfl rfl rfl (ov_pick_t rfl rfl rfl) ?_
   refine rl_nil (hk3 _ (jbd rfl (by omega)) (And.intro rfl (And.intro rfl (And.intro rfl (And.intro rfl trivial)))))
  ·refine rl_gskip rfl rfl rfl rfl rfl rfl <| rl_gskip rfl rfl rfl rfl rfl rfl <| rl_v rfl rfl rfl (ov_pick_f rfl rfl rfl) ?_
   refine rl_nil (hk3 _ (jbf rfl (by omega)) (And.intro rfl (And.intro rfl (And.intro rfl (And.intro rfl trivial)))))
 ·show Run _ _ _ _ [(30, _), (0, _), (3, _), (4, _), (5, _)] _ _
  first | refine run_cond_dec rfl (fun c1 => ?_) (fun c1 => ?_) | refine run_cond rfl (fun c1 => ?_) (fun c1 => ?_)
  ·have hin : (i : Int) < l.n := by omega
   have hi1 := hI.r i (by omega) hin
   have hi2 := hI.d i (by omega) hin
   have hi4 := hI.wo i (by omega) hin
   have hR := hr_rng l i
   obtain ⟨q, hq⟩ : ∃ q, q = l.d i % 18446744073709551616 % (10 - hrR l i) := ⟨_, rfl⟩
   have hqm := (modsD (x := l.d i) (m := 10 - hrR l i) ⟨by omega, by omega⟩)
   have hD : hrD l i = hrR l i + 1 + q := by rw [hq]; rfl
   refine run_skip <| run_seq <| run_block <| run_seq <| run_region <| rl_v rfl rfl rfl (ov_move rfl rfl) <| rl_v rfl rfl rfl (ov_move rfl rfl) <| rl_v rfl rfl rfl (ov_index rfl Tryz.underlying24 (by kernel_rfl) (s := 4) rfl rfl ⟨by omega, by omega⟩ (by exact hla (by omega))) ?_
   refine rl_v rfl rfl rfl (ov_fieldS rfl Tryz.underlying58 rfl (fo := 0) rfl (by kernel_rfl) rfl) ?_
   refine rl_v rfl rfl rfl (ov_load rfl Tryz.underlying3 rfl rfl (by exact hlr _ hO1.below i (by omega) hin 0 (by decide))) ?_
   refine rl_v rfl rfl rfl (ov_conv rfl Tryz.underlying3 Tryz.underlying56 rfl) <| rl_v rfl rfl rfl (ov_rem rfl rfl rfl (u64_nnD _) (by omega)) ?_
   refine rl_v rfl rfl rfl (ov_convTo ((show IntKind.i64.wrap (IntKind.u64.wrap (l.r i) % 10) = hrR l i from (modsD ⟨by decide, by decide⟩).1)) rfl Tryz.underlying56 Tryz.underlying3 rfl) ?_
   refine rl_v rfl rfl rfl (ov_assign rfl rfl) <| rl_nil <| run_seq <| run_region <| rl_v rfl rfl rfl (ov_move rfl rfl) <| rl_v rfl rfl rfl (ov_add rfl rfl rfl (by omega)) ?_
   refine rl_v rfl rfl rfl (ov_move rfl rfl) <| rl_v rfl rfl rfl (ov_move rfl rfl) <| rl_v rfl rfl rfl (ov_index rfl Tryz.underlying24 (by kernel_rfl) (s := 4) rfl rfl ⟨by omega, by omega⟩ (by exact hla (by omega))) ?_
   refine rl_v rfl rfl rfl (ov_fieldS rfl Tryz.underlying58 rfl (fo := 1) rfl (by kernel_rfl) rfl) ?_
   refine rl_v rfl rfl rfl (ov_load rfl Tryz.underlying3 rfl rfl (by exact hlr _ hO1.below i (by omega) hin 1 (by decide))) ?_
   refine rl_v rfl rfl rfl (ov_conv rfl Tryz.underlying3 Tryz.underlying56 rfl) <| rl_v rfl rfl rfl (ov_move rfl rfl) <| rl_v rfl rfl rfl (ov_sub rfl rfl rfl (by omega)) ?_
   refine rl_v rfl rfl rfl (ov_convTo (((IntKind.wrap_u64 _).trans (Int.emod_eq_of_lt (by omega) (by omega)))) rfl Tryz.underlying3 Tryz.underlying56 rfl) ?_
   refine rl_v rfl rfl rfl (ov_rem rfl rfl rfl (u64_nnD _) (by omega)) ?_
   refine rl_v rfl rfl rfl (ov_convTo ((hqm.1.trans hq.symm)) rfl Tryz.underlying56 Tryz.underlying3 rfl) <| rl_v rfl rfl rfl (ov_add rfl rfl rfl (by omega)) ?_
   refine rl_v rfl rfl rfl (ov_assign rfl rfl) <| rl_nil <| run_seq <| run_region <| rl_v rfl rfl rfl (ov_move rfl rfl) <| rl_v rfl rfl rfl (ov_move rfl rfl) <| rl_v rfl rfl rfl (ov_move rfl rfl) <| rl_v rfl rfl rfl (ov_move rfl rfl) <| rl_v rfl rfl rfl (ov_index rfl Tryz.underlying24 (by kernel_rfl) (s := 4) rfl rfl ⟨by omega, by omega⟩ (by exact hla (by omega))) ?_
   refine rl_v rfl rfl rfl (ov_fieldS rfl Tryz.underlying58 rfl (fo := 3) rfl (by kernel_rfl) rfl) ?_
   refine rl_v rfl rfl rfl (ov_load rfl Tryz.underlying3 rfl rfl (by exact hlr _ hO1.below i (by omega) hin 3 (by decide))) ?_
   refine rl_v rfl rfl rfl (ov_conv rfl Tryz.underlying3 Tryz.underlying56 rfl) <| rl_v rfl rfl rfl (ov_rem rfl rfl rfl (u64_nnD _) (by omega)) ?_
   refine rl_v rfl rfl rfl (ov_convTo ((show IntKind.i64.wrap (IntKind.u64.wrap (l.wo i) % 50) = hrW l i - 1 from (modsD ⟨by decide, by decide⟩).1.trans (by unfold hrW; omega))) rfl Tryz.underlying56 Tryz.underlying3 rfl) ?_
   refine rl_v rfl rfl rfl (ov_add rfl rfl rfl (by omega)) ?_
   refine rl_v rfl rfl rfl (ov_buildL rfl lay_58 rfl (us := [_, _, _, _]) rfl) <| rl_ow rfl (ow_alloc _ rfl rfl rfl zero_58 rfl hO1) ?_
   rintro _ w5 ⟨x8, rfl, hO6, hs7⟩
   refine rl_ow rfl (ow_storeW rfl rfl (by kernel_rfl) hO6 0 rfl rfl (by rfl) rfl (by rfl)) ?_
   rintro _ w8 ⟨rfl, hO9, hs10⟩
   refine rl_nil <| run_seq <| run_region <| rl_v rfl rfl rfl (ov_move rfl rfl) <| rl_v rfl rfl rfl (ov_loadW rfl Tryz.underlying58 rfl (by kernel_rfl) rfl hO9 0 rfl) ?_
   refine rl_ow rfl (ow_build [_] rfl rfl rfl rfl rfl Tryz.underlying24 info_58 (by decide) hO9 rfl rfl) ?_
   rintro _ w11 ⟨b69, rfl, hO12, hs13⟩
   refine rl_ow rfl (ow_appR1 rfl rfl rfl Tryz.underlying24 info_58 rfl rfl hO12 1 hr3 rfl rfl rfl rfl rfl ⟨by omega, by omega⟩) ?_
   rintro _ w14 ⟨v70, c70, rfl, hO15, hr70, hs16⟩
   refine rl_v rfl rfl rfl (ov_assign rfl rfl) <| rl_nil <| run_seq <| run_region ?_
   refine rl_make (10) rfl rfl rfl rfl Tryz.underlying59 info_2 rfl hO15 rfl rfl (by rfl) (by rfl) ⟨by omega, by omega⟩ (fun r9 w17 hO18 hs19 => ?_)
   have hr71 : SRow v70 58 4 (i + 1) (ldF (hrL l (i + 1))) c70 := hr70.congr fun x x0 x1 => by
    by_cases e : x = (i : Int)
    ·rw [e, upd_same]
     unfold ldF hrL
     dsimp only
     rw [hD, show 1 + (hrW l i - 1) = hrW l i by omega]
    ·rw [upd_ne _ _ e]; rfl
   have hOr : Own w.heap.size w w17 (some (vch r9 2 10 (fun x => iv (if hrR l i ≤ x ∧ x < hrR l i then hrW l i else 0))) :: some (lch x8 58 [iv (hrR l i), iv (hrR l i + 1 + q), iv 1, iv (hrW l i)]) :: c70 :: co :: ((List.range i).map ch ++ [])) := by
    have h9 := hO18
    rw [show 1 + (hrW l i - 1) = hrW l i by omega] at h9
    exact h9.congrI 0 rfl fun x _ _ => by rw [if_neg (by omega)]
   refine rl_v rfl rfl rfl (ov_assign rfl rfl) <| rl_nil <| run_seq <| run_seq <| run_region <| rl_v rfl rfl rfl (ov_move rfl rfl) <| rl_v rfl rfl rfl (ov_assign rfl rfl) <| rl_nil <| run_block <| Run.keep [0, 3, 4, 5, 7, 8, 9, 10] (F' := [(0, _), (3, _), (4, _), (5, _), (7, _), (8, _), (9, _), (10, _)]) rfl <| run_loop1 (fun (j : Int) => [(10, .int .i64 j)]) [0, 3, 4, 5, 7, 8, 9] (fun (j : Int) (w20 : World) => (hrR l i ≤ j ∧ j ≤ hrD l i) ∧ Own w.heap.size w w20 (some (vch r9 2 10 (fun x => iv (if hrR l i ≤ x ∧ x < j then hrW l i else 0))) :: some (lch x8 58 [iv (hrR l i), iv (hrR l i + 1 + q), iv 1, iv (hrW l i)]) :: c70 :: co :: ((List.range i).map ch ++ []))) (fun (j : Int) => (hrD l i - j).toNat) (hrR l i) ?_ (And.intro (by exact slot_int rfl (by first | omega)) (And.intro rfl (And.intro rfl (And.intro rfl (And.intro rfl (And.intro rfl (And.intro rfl (And.intro rfl trivial)))))))) ?_
   ·exact ⟨⟨Int.le_refl _, by omega⟩, hOr⟩
   intro j w20 hIw20 ih21
   obtain ⟨hj, hO2⟩ := hIw20
   show Run _ _ _ _ [(10, _), (0, _), (3, _), (4, _), (5, _), (7, _), (8, _), (9, _)] _ _
   refine run_seq <| run_seq <| run_region <| rl_v rfl rfl rfl (ov_move rfl rfl) <| rl_v rfl rfl rfl (ov_move rfl rfl) <| rl_v rfl rfl rfl (ov_lss rfl rfl rfl) <| rl_nil ?_
   first | refine run_cond_dec rfl (fun c2 => ?_) (fun c2 => ?_) | refine run_cond rfl (fun c2 => ?_) (fun c2 => ?_)
   ·refine run_skip <| run_seq <| run_block <| run_region <| rl_v rfl rfl rfl (ov_move rfl rfl) <| rl_v rfl rfl rfl (ov_move rfl rfl) <| rl_v rfl rfl rfl (ov_fieldS rfl Tryz.underlying58 rfl (fo := 3) rfl (by kernel_rfl) rfl) ?_
    refine rl_v rfl rfl rfl (ov_load rfl Tryz.underlying3 rfl rfl (by exact hO2.cellL 1 rfl (off := 3) rfl)) ?_
    refine rl_v rfl rfl rfl (ov_index1 rfl Tryz.underlying59 (by kernel_rfl) rfl rfl ⟨by omega, by omega⟩ (by rfl)) ?_
    refine rl_ow rfl (ow_storeI rfl rfl (by kernel_rfl) hO2 0 rfl rfl ⟨by omega, by omega⟩ rfl) ?_
    rintro _ w22 ⟨rfl, hO23, hs24⟩
    have hOs := hO23.congrI 0 rfl (G' := fun x => iv (if hrR l i ≤ x ∧ x < j + 1 then hrW l i else 0)) (fun x _ _ => by
     by_cases e : x = j
     ·rw [e, upd_same, if_pos (by omega)]
     ·rw [upd_ne _ _ e]
      by_cases e2 : hrR l i ≤ x ∧ x < j
      ·rw [if_pos e2, if_pos (by omega)]
      ·rw [if_neg e2, if_neg (by omega)])
    refine rl_nil <| run_inBlock <| run_region <| rl_v rfl rfl rfl (ov_move rfl rfl) <| rl_v rfl rfl rfl (ov_add rfl rfl rfl (by omega)) ?_
    refine rl_v rfl rfl rfl (ov_assign rfl rfl) <| rl_nil ?_
    refine Run.use (ih21 (j + 1) _ ?_ ?_) (And.intro (by exact slot_int rfl (by first | omega)) (And.intro rfl (And.intro rfl (And.intro rfl (And.intro rfl (And.intro rfl (And.intro rfl (And.intro rfl trivial))))))))
    ·first | omega | (dsimp only; omega)
    ·exact ⟨by omega, hOs⟩
   ·have hjd : j = hrD l i := by omega
    rw [hjd] at hO2
    refine run_exit rfl <| run_region <| rl_v rfl rfl rfl (ov_move rfl rfl) <| rl_v rfl rfl rfl (ov_move rfl rfl) <| rl_ow rfl (ow_one rfl rfl rfl Tryz.underlying55 info_59 rfl hO2 rfl rfl) ?_
    rintro _ w25 ⟨b85, rfl, hO26, hs27⟩
    refine rl_ow rfl (ow_app1 rfl rfl rfl Tryz.underlying55 info_59 rfl hO26 3 hv rfl rfl rfl rfl ⟨by omega, by omega⟩) ?_
    rintro _ w28 ⟨v86, c86, rfl, hO29, hv86, hs30⟩
    have hOp := (hO29.sub (.cons_cons _ (.cons _ (List.Sublist.refl _)))).perm (.cons _ ((List.perm_append_comm (l₁ := [c70]) (l₂ := c86 :: ((List.range i).map ch ++ [])))))
    have hOq : Own w.heap.size w w28 (some (vch r9 2 10 (fun x => iv (if hrR l i ≤ x ∧ x < hrD l i then hrW l i else 0))) :: c86 :: ((List.range i).map ch ++ [c70])) := by
     have h9 := hOp
     rw [List.append_nil] at h9
     exact h9
    have hr9 : IRow (.slice (some ⟨r9, 0, none⟩) 10 10) 2 10 (fun x => iv (hallV (hrL l (i + 1)) i x)) (some (vch r9 2 10 (fun x => iv (if hrR l i ≤ x ∧ x < hrD l i then hrW l i else 0)))) := IRow.ofV (Nat.le_refl _) (by unfold maxLen; omega) (fun _ _ _ => rfl)
    obtain ⟨H2, hT2, hO3⟩ := OTab.snoc (L := fun _ => 10) (F := fun r j => iv (hallV (hrL l (i + 1)) r j)) (H0 := [c70]) (fun r hr => h3 r hr) hr9 hv86 hOq rfl (fun _ _ _ => rfl)
    have hO4 : Own w.heap.size w w28 (c70 :: (H2 ++ [])) := by
     rw [List.append_nil]
     exact hO3.perm List.perm_append_comm
    refine rl_v rfl rfl rfl (ov_assign rfl rfl) <| rl_nil <| run_inBlock <| run_region <| rl_v rfl rfl rfl (ov_move rfl rfl) <| rl_v rfl rfl rfl (ov_add rfl rfl rfl (by omega)) ?_
    refine rl_v rfl rfl rfl (ov_assign rfl rfl) <| rl_nil ?_
    refine Run.use (ih2 (i + 1) (v70) (v86) _ ?_ ?_) (And.intro (by exact slot_int rfl (by first | omega)) (And.intro rfl (And.intro rfl (And.intro rfl trivial))))
    ·first | omega | (dsimp only; omega)
    ·exact ⟨by omega, c70, H2, hr71, hT2, hO4⟩
  ·have hiN : i = N := by omega
   subst hiN
   have hTg : OTab v4 59 2 i (fun _ => 10) (fun r j => iv (hallV (hrL l i) r j)) (co :: (List.range i).map ch) := ⟨co, rv, ch, rfl, hv, h3⟩
   obtain ⟨a4, k4, rfl⟩ := hTg.val
   refine run_exit rfl <| run_seq <| run_seq <| run_region <| rl_v rfl rfl rfl (ov_move rfl rfl) <| rl_v rfl rfl rfl (ov_len rfl Tryz.underlying24 rfl) <| rl_v rfl rfl rfl (ov_eql rfl rfl rfl) <| rl_nil ?_
   first | refine run_cond_dec rfl (fun c3 => ?_) (fun c3 => ?_) | refine run_cond rfl (fun c3 => ?_) (fun c3 => ?_)
   ·refine run_seq <| run_region ?_
    refine rl_call callable_21 rfl rfl rfl rfl rfl rfl (seven_any _) (fun e31 w32 hp33 => ?_)
    obtain ⟨rfl, hbl⟩ := hp33
    refine ⟨_, rfl, ?_⟩
    have hO34 := hO1.past hbl
    refine rl_v rfl rfl rfl (ov_assign rfl rfl) <| rl_nil <| run_ret Tryz.func4 (res1 Tryz.results4 rfl) ?_
    exact ⟨rfl, hO34.below⟩
   ·have hi64 : 1 ≤ i ∧ i ≤ 64 := by omega
    have hi20 : i ≤ 20 := by omega
    have hi105 : i ≤ 100000 := by omega
    have hV := hrL_valid l i
    have hS := hrL_short l i
    have hE : (hrL l i).bestE 1 = 0 := by
     unfold Lds.bestE
     rw [if_pos (Lds.chkK_ok (show i ≤ 256 by omega) hV (by decide)), if_pos hS]
    have hI9 : (hrL l i).I64 := ⟨fun x _ _ => by have := hr_rng l x; show _ ≤ hrR l x ∧ hrR l x ≤ _; omega, fun x _ _ => by have := hr_rng l x; show _ ≤ hrD l x ∧ hrD l x ≤ _; omega, fun x _ _ => (by decide : (-9223372036854775808 : Int) ≤ 1 ∧ (1 : Int) ≤ 9223372036854775807), fun x _ _ => by have := hr_rng l x; show _ ≤ hrW l x ∧ hrW l x ≤ _; omega⟩
    refine run_skip <| run_seq <| run_region <| rl_v rfl rfl rfl (ov_move rfl rfl) ?_
    refine rl_call callable_16 rfl rfl rfl rfl rfl rfl (Best_any a3 k3 (hrL l i) 1 _ hi105 (fun _ => hi20) hI9 (hr3.reads hO1 0 rfl)) (fun e35 w36 hp37 => ?_)
    obtain ⟨ba, bn, bc, Y, s, cb, rfl, hrb, hy, _, hOe⟩ := hp37
    refine ⟨_, rfl, ?_⟩
    have hO38 := hO1.join hOe
    rw [hE]
    obtain ⟨Z, hZ, hRi, hmem, hbn, hs⟩ := hy hE
    have hVr : ∀ x j : Int, W9 (hallV (hrL l i) x j) := fun x j => by
     have h9 := hr_rng l x
     unfold W9 hallV
     show 0 ≤ (if hrR l x ≤ j ∧ j < hrD l x then hrW l x else 0) ∧ (if hrR l x ≤ j ∧ j < hrD l x then hrW l x else 0) ≤ 1000000000
     split <;> omega
    refine rl_v rfl rfl rfl (ov_move rfl rfl) <| rl_v rfl rfl rfl (ov_extract rfl rfl (by rfl)) ?_
    refine rl_v rfl rfl rfl (ov_extract rfl rfl (by rfl)) ?_
    refine rl_v rfl rfl rfl (ov_extract rfl rfl (by rfl)) ?_
    refine rl_v rfl rfl rfl (ov_assign rfl rfl) <| rl_v rfl rfl rfl (ov_assign rfl rfl) <| rl_v rfl rfl rfl (ov_assign rfl rfl) <| rl_nil <| run_seq <| run_region <| rl_v rfl rfl rfl (ov_move rfl rfl) ?_
    refine rl_call callable_22 rfl rfl rfl rfl rfl rfl (hallH_any a4 k4 (hallL (hrL l i)) _ ⟨hi64, (by decide : 1 ≤ 10 ∧ 10 ≤ 64), fun x j _ _ _ _ => hVr x j, hTg.reads (hO38.sub (.cons _ (.cons _ (List.Sublist.refl _))))⟩) (fun e39 w40 hp41 => ?_)
    obtain ⟨v14, pb, a, p, c14, rfl, hv14, hOh, hp, hB⟩ := hp41
    refine ⟨_, rfl, ?_⟩
    have hO42 := hO38.join hOh
    obtain ⟨a14, k14, rfl⟩ := Row.val hv14
    have hOA := hO42
    have hTt := hTg.reads (hOA.sub (.cons _ (.cons _ (.cons _ (.cons _ (List.Sublist.refl _))))))
    have hIa : IAt w40.heap.size w40 a14 i (fun y => iv (a y)) := hv14.reads hOA 0 rfl
    have hIY : IAt w40.heap.size w40 ba bn (fun y => iv (Y y)) := hrb.reads hOA 2 rfl
    have hI3 : SAt w40.heap.size w40 a3 4 i (ldF (hrL l i)) := hr3.reads hOA 3 rfl
    obtain ⟨A, C, RB, RO, tb, to, hta, htrow, htra, htel, htat⟩ := hTt.open
    obtain ⟨lab, lao, hlaa, hlar⟩ := hIa.open
    obtain ⟨yb, yo, hya, hyr⟩ := hIY.open
    obtain ⟨sb, so, hsa, hsr⟩ := hI3.open (by decide)
    have hrng : ∀ x : Int, 0 ≤ x → x < i → a x = -1 ∨ 0 ≤ a x ∧ a x < 10 := hB.rng
    have hI0 := Own.init w40
    refine rl_v rfl rfl rfl (ov_move rfl rfl) <| rl_v rfl rfl rfl (ov_extract rfl rfl (by rfl)) ?_
    refine rl_v rfl rfl rfl (ov_extract rfl rfl (by rfl)) ?_
    refine rl_v rfl rfl rfl (ov_extract rfl rfl (by rfl)) ?_
    refine rl_v rfl rfl rfl (ov_assign rfl rfl) <| rl_v rfl rfl rfl (ov_assign rfl rfl) <| rl_v rfl rfl rfl (ov_assign rfl rfl) <| rl_nil <| run_seq <| run_seq <| run_region <| rl_v rfl rfl rfl (ov_move rfl rfl) <| rl_v rfl rfl rfl (ov_neq rfl rfl rfl) <| rl_v rfl rfl rfl (ov_move rfl rfl) ?_
    first | refine rl_noD 105 rfl ((fun h => h rfl)) ?_ | refine rl_no 105 rfl ((fun h => h rfl)) ?_
    refine rl_gv rfl rfl rfl rfl rfl (ov_move rfl rfl) <| rl_gv rfl rfl rfl rfl rfl (ov_neq rfl rfl rfl) <| rl_v rfl rfl rfl (ov_pick_f rfl rfl rfl) <| rl_v rfl rfl rfl (ov_move rfl rfl) ?_
    first | refine rl_noD 109 rfl ((fun h => h rfl)) ?_ | refine rl_no 109 rfl ((fun h => h rfl)) ?_
    refine rl_gv rfl rfl rfl rfl rfl (ov_move rfl rfl) <| rl_gv rfl rfl rfl rfl rfl (ov_len rfl Tryz.underlying36 rfl) <| rl_gv rfl rfl rfl rfl rfl (ov_move rfl rfl) <| rl_gv rfl rfl rfl rfl rfl (ov_len rfl Tryz.underlying24 rfl) <| rl_gv rfl rfl rfl rfl rfl (ov_neq rfl rfl rfl) <| rl_v rfl rfl rfl (ov_pick_f rfl rfl rfl) <| rl_nil ?_
    first | refine run_cond_dec rfl (fun c4 => ?_) (fun c4 => ?_) | refine run_cond rfl (fun c4 => ?_) (fun c4 => ?_)
    ·exfalso; (exact c4 rfl)
    ·refine run_skip <| run_seq <| run_region <| rl_v rfl rfl rfl (ov_assign rfl rfl) <| rl_nil <| run_seq <| run_seq <| run_region <| rl_v rfl rfl rfl (ov_assign rfl rfl) <| rl_nil <| run_block <| Run.keep [3, 4, 11, 12, 14, 17, 18] (F' := [(3, _), (4, _), (11, _), (12, _), (14, _), (17, _), (18, _)]) rfl <| run_loop2 (fun (x : Nat) (z : Int) => [(18, .int .i64 (x : Int)), (17, .int .i64 z)]) [3, 4, 11, 12, 14] (fun (x : Nat) (z : Int) (w43 : World) => x ≤ i ∧ z = sm (fun y => if 0 ≤ a y then hallV (hrL l i) y (a y) else 0) x ∧ Own w40.heap.size w40 w43 []) (fun (x : Nat) (z : Int) => i - x) (0) (0) ?_ (And.intro (by exact slot_int rfl (by first | omega)) (And.intro (by exact slot_int rfl (by first | omega)) (And.intro rfl (And.intro rfl (And.intro rfl (And.intro rfl (And.intro rfl trivial))))))) ?_
     ·exact ⟨Nat.zero_le _, rfl, hI0⟩
     intro x z w43 hIw43 ih44
     obtain ⟨hx, hz, hO2⟩ := hIw43
     show Run _ _ _ _ [(18, _), (17, _), (3, _), (4, _), (11, _), (12, _), (14, _)] _ _
     refine run_seq <| run_seq <| run_region <| rl_v rfl rfl rfl (ov_move rfl rfl) <| rl_v rfl rfl rfl (ov_move rfl rfl) <| rl_v rfl rfl rfl (ov_len rfl Tryz.underlying36 rfl) <| rl_v rfl rfl rfl (ov_lss rfl rfl rfl) <| rl_nil ?_
     first | refine run_cond_dec rfl (fun c5 => ?_) (fun c5 => ?_) | refine run_cond rfl (fun c5 => ?_) (fun c5 => ?_)
     ·have c5' : (x : Int) < i := c5
      have hax := hrng x (by omega) c5'
      have hsn := sm_succ (fun y => if 0 ≤ a y then hallV (hrL l i) y (a y) else 0) (k := x) (by omega)
      have hsb : 0 ≤ sm (fun y => if 0 ≤ a y then hallV (hrL l i) y (a y) else 0) x ∧ sm (fun y => if 0 ≤ a y then hallV (hrL l i) y (a y) else 0) x ≤ (x : Int) * 1000000000 := ⟨sm_nonneg fun y _ _ => (by split; exact (hVr _ _).1; exact Int.le_refl _), sm_bound _ (by omega) fun y _ _ => (by split; exact (hVr _ _).2; decide)⟩
      have hvx := hVr x (a x)
      unfold W9 at hvx
      refine run_skip <| run_seq <| run_block <| run_seq <| run_region <| rl_v rfl rfl rfl (ov_move rfl rfl) <| rl_v rfl rfl rfl (ov_move rfl rfl) <| rl_v rfl rfl rfl (ov_index1 rfl Tryz.underlying36 (by kernel_rfl) rfl rfl ⟨by omega, by omega⟩ (by exact hlaa (by omega))) ?_
      refine rl_v rfl rfl rfl (ov_load rfl Tryz.underlying3 rfl rfl (by exact hlar _ hO2.below x (by omega) c5')) ?_
      refine rl_v rfl rfl rfl (ov_geq rfl rfl rfl) <| rl_v rfl rfl rfl (ov_move rfl rfl) ?_
      first | refine rl_split_dec 127 rfl (fun g1 => ?_) (fun g1 => ?_) | refine rl_split 127 rfl (fun g1 => ?_) (fun g1 => ?_)
      ·refine rl_gv rfl rfl rfl rfl rfl (ov_move rfl rfl) <| rl_gv rfl rfl rfl rfl rfl (ov_move rfl rfl) <| rl_gv rfl rfl rfl rfl rfl (ov_index1 rfl Tryz.underlying36 (by kernel_rfl) rfl rfl ⟨by omega, by omega⟩ (by exact hlaa (by omega))) ?_
       refine rl_gv rfl rfl rfl rfl rfl (ov_load rfl Tryz.underlying3 rfl rfl (by exact hlar _ hO2.below x (by omega) c5')) ?_
       refine rl_gv rfl rfl rfl rfl rfl (ov_lss rfl rfl rfl) <| rl_v rfl rfl rfl (ov_pick_t rfl rfl rfl) <| rl_nil ?_
       first | refine run_cond_dec rfl (fun g2 => ?_) (fun g2 => ?_) | refine run_cond rfl (fun g2 => ?_) (fun g2 => ?_)
       ·rw [if_pos (show 0 ≤ a x from g1)] at hsn
        refine run_quiet mixed (by kernel_rfl) ?_
        refine rq_v rfl rfl rfl (fun _ => ov_move rfl rfl) ?_
        refine rq_v rfl rfl rfl (fun _ => ov_move rfl rfl) ?_
        refine rq_v rfl rfl rfl (fun _ => ov_move rfl rfl) ?_
        refine rq_v rfl rfl rfl (fun _ => ov_index1 rfl Tryz.underlying55 (by kernel_rfl) rfl rfl ⟨by omega, by omega⟩ (by exact hta (by omega))) ?_
        refine rq_v rfl rfl rfl (fun _ => ov_load rfl Tryz.underlying59 rfl rfl (by show World.cell? w43 _ = _; first | exact htrow _ hO2.below x (by omega) c5')) ?_
        refine rq_v rfl rfl rfl (fun _ => ov_move rfl rfl) ?_
        refine rq_v rfl rfl rfl (fun _ => ov_move rfl rfl) ?_
        refine rq_v rfl rfl rfl (fun _ => ov_index1 rfl Tryz.underlying36 (by kernel_rfl) rfl rfl ⟨by omega, by omega⟩ (by exact hlaa (by omega))) ?_
        refine rq_v rfl rfl rfl (fun _ => ov_load rfl Tryz.underlying3 rfl rfl (by show World.cell? w43 _ = _; first | exact hlar _ hO2.below x (by omega) c5')) ?_
        refine rq_v rfl rfl rfl (fun _ => ov_index1 rfl Tryz.underlying59 (by kernel_rfl) rfl rfl ⟨by omega, by omega⟩ (by exact htra x (by omega) c5' (by omega))) ?_
        refine rq_v rfl rfl rfl (fun _ => ov_load rfl Tryz.underlying2 rfl rfl (by show World.cell? w43 _ = _; first | exact htel _ hO2.below x (by omega) c5' (a x) (by omega) (by omega))) ?_
        refine rq_v rfl rfl rfl (fun _ => ov_add rfl rfl rfl (by omega)) ?_
        refine rq_v rfl rfl rfl (fun _ => ov_assign rfl rfl) ?_
        refine rq_nil (fun n46 => ?_)
        have hO48 := hO2.drewN n46
        generalize World.drewN w43 n46 = w47 at hO48 ⊢
        refine run_inBlock <| run_region <| rl_v rfl rfl rfl (ov_move rfl rfl) <| rl_v rfl rfl rfl (ov_add rfl rfl rfl (by omega)) ?_
        refine rl_v rfl rfl rfl (ov_assign rfl rfl) <| rl_nil ?_
        refine Run.use (ih44 (x + 1) (z + hallV (hrL l i) x (a x)) _ ?_ ?_) (And.intro (by exact slot_int rfl (by first | omega)) (And.intro (by exact slot_int rfl (by first | omega)) (And.intro rfl (And.intro rfl (And.intro rfl (And.intro rfl (And.intro rfl trivial)))))))
        ·first | omega | (dsimp only; omega)
        ·exact ⟨by omega, by rw [hz]; exact hsn.symm, hO48⟩
       ·exfalso; omega
      ·rw [if_neg (show ¬ 0 ≤ a x from g1)] at hsn
       refine rl_gskip rfl rfl rfl rfl rfl rfl <| rl_gskip rfl rfl rfl rfl rfl rfl <| rl_gskip rfl rfl rfl rfl rfl rfl <| rl_gskip rfl rfl rfl rfl rfl rfl <| rl_gskip rfl rfl rfl rfl rfl rfl <| rl_v rfl rfl rfl (ov_pick_f rfl rfl rfl) <| rl_nil <| run_cond_f rfl <| run_skip <| run_inBlock <| run_region <| rl_v rfl rfl rfl (ov_move rfl rfl) <| rl_v rfl rfl rfl (ov_add rfl rfl rfl (by omega)) ?_
       refine rl_v rfl rfl rfl (ov_assign rfl rfl) <| rl_nil ?_
       refine Run.use (ih44 (x + 1) (z) _ ?_ ?_) (And.intro (by exact slot_int rfl (by first | omega)) (And.intro (by exact slot_int rfl (by first | omega)) (And.intro rfl (And.intro rfl (And.intro rfl (And.intro rfl (And.intro rfl trivial)))))))
       ·first | omega | (dsimp only; omega)
       ·exact ⟨by omega, by rw [hz]; exact (hsn.trans (Int.add_zero _)).symm, hO2⟩
     ·have hxi : x = i := by have c6 : ¬ (x : Int) < i := c5; omega
      subst hxi
      have hlaw := hours_law hV (fun y _ _ => (hr_rng l y).2.1.2) hZ (fun j j0 j1 => (hp j j0 j1).1) hB
      have hzs : z = s := by
       rw [hz, hs]
       exact hlaw
      have hYr : ∀ j : Int, 0 ≤ j → j < bn → 0 ≤ Y j ∧ Y j < x := fun j j0 j1 => by
       obtain ⟨q, hq, e⟩ := grd_in ((hmem (Y j)).1 ⟨j, ⟨j0, j1⟩, rfl⟩)
       have h9 := hZ.rng hq.1 hq.2
       rw [e] at h9
       exact h9
      have hbx : bn ≤ x := hbn
      have hfit := hours_fit hV hS (show x ≤ 256 by omega) hbn hRi hmem hYr
      have hI8 : ((hrL l x).pick bn Y).I64 := ⟨fun j j0 j1 => hI9.r _ (hYr j j0 j1).1 (hYr j j0 j1).2, fun j j0 j1 => hI9.d _ (hYr j j0 j1).1 (hYr j j0 j1).2, fun j j0 j1 => hI9.len _ (hYr j j0 j1).1 (hYr j j0 j1).2, fun j j0 j1 => hI9.wo _ (hYr j j0 j1).1 (hYr j j0 j1).2⟩
      refine run_exit rfl <| run_seq <| run_region <| rl_v rfl rfl rfl (ov_assign rfl rfl) <| rl_nil <| run_seq <| run_seq <| run_region <| rl_v rfl rfl rfl (ov_assign rfl rfl) <| rl_nil <| run_block <| Run.keep [3, 11, 12, 17, 19, 20] (F' := [(3, _), (11, _), (12, _), (17, _), (19, _), (20, _)]) rfl <| run_loop2 (fun (j : Nat) (v : Value) => [(20, .int .i64 (j : Int)), (19, v)]) [3, 11, 12, 17] (fun (j : Nat) (v : Value) (w49 : World) => j ≤ bn ∧ ∃ c9 : Option Blk, SRow v 58 4 j (ldF ((hrL l x).pick j Y)) c9 ∧ Own w40.heap.size w40 w49 [c9]) (fun (j : Nat) (v : Value) => bn - j) (0) (.slice none 0 0) ?_ (And.intro (by exact slot_int rfl (by first | omega)) (And.intro rfl (And.intro rfl (And.intro rfl (And.intro rfl (And.intro rfl trivial)))))) ?_
      ·exact ⟨Nat.zero_le _, none, SRow.nil _ _ _, hO2.nil_cons⟩
      intro j v w49 hIw49 ih50
      obtain ⟨hj, c9, hr9, hO3⟩ := hIw49
      show Run _ _ _ _ [(20, _), (19, _), (3, _), (11, _), (12, _), (17, _)] _ _
      obtain ⟨a9, k9, rfl⟩ := Row.val hr9
      refine run_seq <| run_seq <| run_region <| rl_v rfl rfl rfl (ov_move rfl rfl) <| rl_v rfl rfl rfl (ov_move rfl rfl) <| rl_v rfl rfl rfl (ov_len rfl Tryz.underlying36 rfl) <| rl_v rfl rfl rfl (ov_lss rfl rfl rfl) <| rl_nil ?_
      first | refine run_cond_dec rfl (fun c7 => ?_) (fun c7 => ?_) | refine run_cond rfl (fun c7 => ?_) (fun c7 => ?_)
      ·have hyj := hYr j (by omega) c7
       obtain ⟨y, hy2⟩ : ∃ y, y = Y j := ⟨_, rfl⟩
       rw [← hy2] at hyj
       refine run_skip <| run_seq <| run_block <| run_region <| rl_v rfl rfl rfl (ov_move rfl rfl) <| rl_v rfl rfl rfl (ov_move rfl rfl) <| rl_v rfl rfl rfl (ov_move rfl rfl) <| rl_v rfl rfl rfl (ov_move rfl rfl) <| rl_v rfl rfl rfl (ov_index1 rfl Tryz.underlying36 (by kernel_rfl) rfl rfl ⟨by omega, by omega⟩ (by exact hya (by omega))) ?_
       refine rl_v rfl rfl rfl (ov_load rfl Tryz.underlying3 rfl rfl (by exact (hyr _ hO3.below j (by omega) c7).trans (congrArg (fun z => some (iv z)) hy2.symm))) ?_
       refine rl_v rfl rfl rfl (ov_index rfl Tryz.underlying24 (by kernel_rfl) (s := 4) rfl rfl ⟨by omega, by omega⟩ (by exact hsa (by omega))) ?_
       refine rl_v rfl rfl rfl (ov_loadE rfl Tryz.underlying58 rfl (by kernel_rfl) rfl ⟨by omega, by omega⟩ rfl ((hsr _ hO3.below))) ?_
       refine rl_ow rfl (ow_build [_] rfl rfl rfl rfl rfl Tryz.underlying24 info_58 (by decide) hO3 rfl rfl) ?_
       rintro _ w51 ⟨b160, rfl, hO52, hs53⟩
       refine rl_ow rfl (ow_appR1 rfl rfl rfl Tryz.underlying24 info_58 rfl rfl hO52 0 hr9 rfl rfl rfl rfl rfl ⟨by omega, by omega⟩) ?_
       rintro _ w54 ⟨v161, c161, rfl, hO55, hr161, hs56⟩
       have hr162 : SRow v161 58 4 (j + 1) (ldF ((hrL l x).pick (j + 1) Y)) c161 := hr161.congr fun u _ _ => by
        by_cases e : u = (j : Int)
        ·rw [e, upd_same, hy2]; rfl
        ·rw [upd_ne _ _ e]; rfl
       refine rl_v rfl rfl rfl (ov_assign rfl rfl) <| rl_nil <| run_inBlock <| run_region <| rl_v rfl rfl rfl (ov_move rfl rfl) <| rl_v rfl rfl rfl (ov_add rfl rfl rfl (by omega)) ?_
       refine rl_v rfl rfl rfl (ov_assign rfl rfl) <| rl_nil ?_
       refine Run.use (ih50 (j + 1) (v161) _ ?_ ?_) (And.intro (by exact slot_int rfl (by first | omega)) (And.intro rfl (And.intro rfl (And.intro rfl (And.intro rfl (And.intro rfl trivial))))))
       ·first | omega | (dsimp only; omega)
       ·exact ⟨by omega, c161, hr162, hO55⟩
      ·have hjb : j = bn := by omega
       subst hjb
       refine run_exit rfl <| run_seq <| run_region <| rl_v rfl rfl rfl (ov_move rfl rfl) ?_
       refine rl_call callable_11 rfl rfl rfl rfl rfl rfl (Fits_any a9 k9 ((hrL l x).pick j Y) 1 _ (show j ≤ 100000 by omega) hI8 (hr9.reads hO3 0 rfl)) (fun e57 w58 hp59 => ?_)
       obtain ⟨rfl, hOf⟩ := hp59
       refine ⟨_, rfl, ?_⟩
       have hO60 := hO3.join hOf
       rw [decide_eq_true hfit, hfit.1]
       refine rl_v rfl rfl rfl (ov_move rfl rfl) <| rl_v rfl rfl rfl (ov_extract rfl rfl (by rfl)) ?_
       refine rl_v rfl rfl rfl (ov_extract rfl rfl (by rfl)) ?_
       refine rl_v rfl rfl rfl (ov_assign rfl rfl) <| rl_v rfl rfl rfl (ov_assign rfl rfl) <| rl_nil <| run_seq <| run_region <| rl_v rfl rfl rfl (ov_move rfl rfl) <| rl_v rfl rfl rfl (ov_eql rfl rfl rfl) <| rl_v rfl rfl rfl (ov_move rfl rfl) ?_
       first | refine rl_yesD 169 rfl (rfl) ?_ | refine rl_yes 169 rfl (rfl) ?_
       refine rl_gv rfl rfl rfl rfl rfl (ov_move rfl rfl) <| rl_v rfl rfl rfl (ov_pick_t rfl rfl rfl) <| rl_v rfl rfl rfl (ov_move rfl rfl) ?_
       first | refine rl_yesD 172 rfl (rfl) ?_ | refine rl_yes 172 rfl (rfl) ?_
       refine rl_gv rfl rfl rfl rfl rfl (ov_move rfl rfl) <| rl_gv rfl rfl rfl rfl rfl (ov_move rfl rfl) <| rl_gv rfl rfl rfl rfl rfl (ov_eql rfl rfl rfl) <| rl_v rfl rfl rfl (ov_pick_t rfl rfl rfl) <| rl_v rfl rfl rfl (ov_move rfl rfl) ?_
       first | refine rl_yesD 177 rfl (hzs) ?_ | refine rl_yes 177 rfl (hzs) ?_
       refine rl_gcall callable_21 rfl rfl rfl rfl rfl rfl rfl rfl (seven_any _) (fun e61 w62 hp63 => ?_)
       obtain ⟨rfl, hbl⟩ := hp63
       refine ⟨_, rfl, ?_⟩
       have hO64 := hO60.past hbl
       refine rl_v rfl rfl rfl (ov_pick_t rfl rfl rfl) <| rl_v rfl rfl rfl (ov_assign rfl rfl) <| rl_nil <| run_ret Tryz.func4 (res1 Tryz.results4 rfl) ?_
       exact ⟨rfl, (hOA.join hO64).below⟩
end Go.Proofs.YtbepolognfdkeaaGreat
