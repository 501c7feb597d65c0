import Derived.Test.YtlldeifbfpmbaaaFnI
import Derived.Test.YtlldeifbfpmbaaaFkA
set_option maxRecDepth 100000
namespace Go.Proofs.Ytlldeifbfpmbaaa
open Go.RowKit Go.Proofs Go.MapKept
structure TdF (k n : Nat) (GL : Int → Nat) (GE : Int → Int → Int) (L : Int → Nat) (E : Int → Int → Int) : Prop where
 done : ∀ r : Int, 0 ≤ r → r < k → L r = tdL GL GE n r ∧ E r = tdE GL GE n r
 rest : ∀ r : Int, k ≤ r → L r = min (GL r) 12 ∧ E r = GE r
theorem TdF.step {k n : Nat} {GL : Int → Nat} {GE : Int → Int → Int} {L : Int → Nat} {E : Int → Int → Int} (h : TdF k n GL GE L E) : TdF (k + 1) n GL GE (upd L (k : Int) (tdy (E k) n (L k)).1) (upd E (k : Int) (tdy (E k) n (L k)).2) := by
 obtain ⟨e1, e2⟩ := h.rest k (Int.le_refl _)
 refine ⟨fun r r0 r1 => ?_, fun r r0 => ?_⟩
 ·by_cases e : r = k
  ·rw [e, upd_same, upd_same, e1, e2]; exact ⟨rfl, rfl⟩
  ·rw [upd_ne _ _ e, upd_ne _ _ e]; exact h.done r r0 (by omega)
 ·rw [upd_ne _ _ (by omega), upd_ne _ _ (by omega)]; exact h.rest r (by omega)
set_option maxHeartbeats 2000000 in
theorem tidySwapF_any (ga : Option Addr) (n gc M : Nat) (GL : Int → Nat) (GE : Int → Int → Int) (w : World) (hM : M ≤ 64) (hG : RTab w.heap.size w ga n GL GE) :
  Calls Try.prog 24 #[.agg #[.slice ga n gc], iv M] w fun e w' => ∃ (ga' : Option Addr) (gc' : Nat) (H : List (Option Blk)), e = .returned (.agg #[.slice ga' (min n M) gc']) ∧ SOwn (min n M) (tdL GL GE (min n M)) (tdE GL GE (min n M)) ga' gc' H ∧ Own w.heap.size w w' H := by
 obtain ⟨n1, hn1⟩ : ∃ n1, n1 = min n M := ⟨_, rfl⟩
 rw [← hn1]
 refine calls_of_run (F := [(0, _), (1, _)]) Try.func24 rfl Try.ntmps24 rfl rfl ?_
 have hO0 := Own.init w
 refine run_seq <| run_region <| rl_ow rfl (ow_box _ rfl rfl rfl rfl rfl hO0) ?_
 rintro _ w1 ⟨b1, rfl, hO2, hs3⟩
 refine rl_ow rfl (ow_alloc _ rfl rfl rfl zero_47 rfl hO2) ?_
 rintro _ w4 ⟨b2, rfl, hO5, hs6⟩
 refine rl_nil <| run_seq <| run_region <| rl_v rfl rfl rfl (ov_fieldS rfl Try.underlying47 rfl (fo := 0) rfl (by kernel_rfl) rfl) ?_
 refine rl_v rfl rfl rfl (ov_load rfl Try.underlying22 rfl rfl (by exact hO5.cellL 1 rfl (off := 0) rfl)) ?_
 refine rl_v rfl rfl rfl (ov_move rfl rfl) ?_
 refine rl_call callable_34 rfl rfl rfl rfl rfl rfl (lists5_any ga n gc M 12 GL GE _ (by omega) (by omega) (hO5.rtab hG)) (fun e7 w8 hp9 => ?_)
 obtain ⟨ga1, gc1, Hg, rfl, hc1, hTg, hOw1⟩ := hp9
 refine ⟨_, rfl, ?_⟩
 have hO10 := hO5.join hOw1
 rw [← hn1] at hTg hc1 ⊢
 refine rl_v rfl rfl rfl (ov_buildL rfl lay_47 rfl (us := [_]) rfl) <| rl_ow rfl (ow_alloc _ rfl rfl rfl zero_47 rfl hO10) ?_
 rintro _ w11 ⟨b3, rfl, hO12, hs13⟩
 refine rl_ow rfl (ow_storeW rfl rfl (by kernel_rfl) hO12 0 rfl rfl (by rfl) rfl (by rfl)) ?_
 rintro _ w14 ⟨rfl, hO15, hs16⟩
 have hOa := hO15.nil_cons.swap
 refine rl_nil <| run_seq <| run_seq <| run_region <| rl_v rfl rfl rfl (ov_assign rfl rfl) <| rl_nil <| run_block <| Run.keep [4, 5, 6] (F' := [(4, _), (5, _), (6, _)]) rfl <| run_loop1 (fun (q1 : Nat) => [(6, .int .i64 (q1 : Int))]) [4, 5] (fun (q1 : Nat) (w17 : World) => q1 ≤ n1 ∧ ∃ (L1 : Int → Nat) (E1 : Int → Int → Int) (Hg : List (Option Blk)), OTab (.slice ga1 n1 gc1) 23 3 n1 L1 (fun r c => iv (E1 r c)) Hg ∧ TdF q1 n1 GL GE L1 E1 ∧ Own w.heap.size w w17 (some (lch b3 47 [.slice ga1 n1 gc1]) :: none :: (Hg ++ [some (lch b2 47 [.slice none 0 0]), some (lch b1 47 [.slice ga n gc])]))) (fun (q1 : Nat) => n1 - q1) (0) ?_ (And.intro (by exact slot_int rfl (by first | omega)) (And.intro rfl (And.intro rfl trivial))) ?_
 ·exact ⟨Nat.zero_le _, _, _, Hg, hTg, ⟨fun r r0 r1 => by omega, fun r _ => ⟨rfl, rfl⟩⟩, hOa⟩
 intro q1 w17 hIw17 ih18
 obtain ⟨hq1, L1, E1, Hg, hTg, hTd, hO1⟩ := hIw17
 show Run _ _ _ _ [(6, _), (4, _), (5, _)] _ _
 refine run_seq <| run_seq <| run_region <| rl_v rfl rfl rfl (ov_move rfl rfl) <| rl_v rfl rfl rfl (ov_fieldS rfl Try.underlying47 rfl (fo := 0) rfl (by kernel_rfl) rfl) ?_
 refine rl_v rfl rfl rfl (ov_load rfl Try.underlying22 rfl rfl (by exact hO1.cellL 0 rfl (off := 0) rfl)) ?_
 refine rl_v rfl rfl rfl (ov_len rfl Try.underlying22 rfl) <| rl_v rfl rfl rfl (ov_lss rfl rfl rfl) <| rl_nil ?_
 first | refine run_cond_dec rfl (fun c1 => ?_) (fun c1 => ?_) | refine run_cond rfl (fun c1 => ?_) (fun c1 => ?_)
 ·have hq1' : q1 < n1 := by omega
  have hlq : L1 q1 ≤ 12 := by rw [(hTd.rest q1 (Int.le_refl _)).1]; exact Nat.min_le_right _ _
  obtain ⟨co, rv, ch, hv, h3, hOt⟩ := tab_take hTg hO1 q1 hq1'
  obtain ⟨gb, hgb⟩ := hv.addr
  have hgb' := hgb (by omega)
  have h3q := h3 q1 hq1'
  obtain ⟨ra, rc, erv⟩ := Row.val h3q
  rw [erv] at h3q
  refine run_skip <| run_seq <| run_block <| run_late (fun w' => Own w.heap.size w w' (some (lch b3 47 [.slice ga1 n1 gc1]) :: none :: ch q1 :: co :: (((List.range n1).erase q1).map ch ++ [some (lch b2 47 [.slice none 0 0]), some (lch b1 47 [.slice ga n gc])]))) 13 mixed ?_
  have hO20 := hOt.drew
  generalize World.drew w17 = w19 at hO20 ⊢
  have hS21 : Own w.heap.size w w19 (some (lch b3 47 [.slice ga1 n1 gc1]) :: none :: ch q1 :: co :: (((List.range n1).erase q1).map ch ++ [some (lch b2 47 [.slice none 0 0]), some (lch b1 47 [.slice ga n gc])])) := by first | exact hO20 | exact hO20.tail
  refine rhl_v 0 rfl (by kernel_rfl) rfl rfl rfl hS21 (fun _ hS => ov_fieldS rfl Try.underlying47 rfl (fo := 0) rfl (by kernel_rfl) rfl) ?_
  refine rhl_v 1 rfl (by kernel_rfl) rfl rfl rfl hS21 (fun _ hS => ov_load rfl Try.underlying22 rfl rfl (by exact hS.cellL 0 rfl (off := 0) rfl)) ?_
  refine rhl_v 2 rfl (by kernel_rfl) rfl rfl rfl hS21 (fun _ hS => ov_move rfl rfl) ?_
  refine rhl_v 3 rfl (by kernel_rfl) rfl rfl rfl hS21 (fun _ hS => ov_fieldS rfl Try.underlying47 rfl (fo := 0) rfl (by kernel_rfl) rfl) ?_
  refine rhl_v 4 rfl (by kernel_rfl) rfl rfl rfl hS21 (fun _ hS => ov_load rfl Try.underlying22 rfl rfl (by exact hS.cellL 0 rfl (off := 0) rfl)) ?_
  refine rhl_v 5 rfl (by kernel_rfl) rfl rfl rfl hS21 (fun _ hS => ov_move rfl rfl) ?_
  refine rhl_v 6 rfl (by kernel_rfl) rfl rfl rfl hS21 (fun _ hS => ov_index1 rfl Try.underlying22 (by kernel_rfl) rfl rfl ⟨by omega, by omega⟩ (by exact (id hgb'))) ?_
  refine rhl_v 7 rfl (by kernel_rfl) rfl rfl rfl hS21 (fun _ hS => ov_load rfl Try.underlying23 rfl rfl (by exact (IRow.cellA hv hS 3 rfl hgb' (i := q1) (by omega) (by omega)).trans (congrArg some erv))) ?_
  refine rhl_v 8 rfl (by kernel_rfl) rfl rfl rfl hS21 (fun _ hS => ov_fieldS rfl Try.underlying47 rfl (fo := 0) rfl (by kernel_rfl) rfl) ?_
  refine rhl_v 9 rfl (by kernel_rfl) rfl rfl rfl hS21 (fun _ hS => ov_load rfl Try.underlying22 rfl rfl (by exact hS.cellL 0 rfl (off := 0) rfl)) ?_
  refine rhl_v 10 rfl (by kernel_rfl) rfl rfl rfl hS21 (fun _ hS => ov_len rfl Try.underlying22 rfl) ?_
  refine rhl_any1 11 (by kernel_rfl) ?_
  refine rcl_op rfl rfl (ow_call2 callable_18 rfl rfl rfl rfl rfl (tidyF_any ra (L1 q1) rc n1 (E1 q1) _ (by omega) (by omega) (by omega) (h3q.reads hO20 2 rfl)) (by intro e w' hp; obtain ⟨v5, c5, rfl, hr5, hO5⟩ := hp; exact ⟨_, rfl⟩)) ?_
  rintro _ w24 ⟨_, v22, he25, rfl, hp23⟩
  obtain ⟨v5, c5, rfl, hr5, hO5⟩ := hp23
  injection he25 with he25; subst he25
  have hO26 := hO20.join hO5
  have hS27 : Own w.heap.size w w24 (some (lch b3 47 [.slice ga1 n1 gc1]) :: none :: ch q1 :: co :: (((List.range n1).erase q1).map ch ++ [some (lch b2 47 [.slice none 0 0]), some (lch b1 47 [.slice ga n gc])])) := by first | exact hO26 | exact hO26.tail
  refine ⟨hS27, ?_⟩
  obtain ⟨a5, cp5, rfl⟩ := Row.val hr5
  refine rhl_v 12 rfl (by kernel_rfl) rfl rfl rfl hS27 (fun _ hS => ov_index1 rfl Try.underlying22 (by kernel_rfl) rfl rfl ⟨by omega, by omega⟩ (by exact (id hgb'))) ?_
  refine rhl_any1 13 (by kernel_rfl) ?_
  refine rcl_last rfl rfl (ow_storeI1 rfl rfl (by kernel_rfl) hO26 4 hv rfl hgb rfl ⟨by omega, by omega⟩ rfl rfl) ?_
  rintro _ w28 ⟨c9, rfl, hO29, hv9, hs30⟩
  obtain ⟨Hg2, hTg2, hO9⟩ := tab_put (L := L1) (F := fun r c => iv (E1 r c)) q1 hq1' hv9 h3 hr5 hO29
  refine rhl_done (by kernel_rfl) ?_
  refine run_inBlock <| run_region <| rl_v rfl rfl rfl (ov_move rfl rfl) <| rl_v rfl rfl rfl (ov_add rfl rfl rfl (by omega)) ?_
  refine rl_v rfl rfl rfl (ov_assign rfl rfl) <| rl_nil ?_
  refine Run.use (ih18 (q1 + 1) _ ?_ ?_) (And.intro (by exact slot_int rfl (by first | omega)) (And.intro rfl (And.intro rfl trivial)))
  ·first | omega | (dsimp only; omega)
  ·exact ⟨by omega, _, _, Hg2, hTg2.congr (fun r c _ _ _ _ => updE r c), hTd.step, hO9⟩
 ·obtain rfl : q1 = n1 := by omega
  have hOz := hO1.perm ((List.perm_middle (l₁ := some (lch b3 47 [.slice ga1 q1 gc1]) :: none :: Hg)))
  refine run_exit rfl <| run_seq <| run_region <| rl_v rfl rfl rfl (ov_loadW rfl Try.underlying47 rfl (by kernel_rfl) rfl hOz 1 rfl) ?_
  refine rl_ow rfl (ow_storeW rfl rfl (by kernel_rfl) hOz 0 rfl rfl (by rfl) rfl (by rfl)) ?_
  rintro _ w31 ⟨rfl, hO32, hs33⟩
  have hTz : OTab (.slice ga1 q1 gc1) 23 3 q1 (tdL GL GE q1) (fun r c => iv (tdE GL GE q1 r c)) Hg := hTg.congrL fun r r0 r1 => by
   obtain ⟨e1, e2⟩ := hTd.done r r0 r1
   rw [e1, e2]
   exact ⟨rfl, rfl⟩
  refine rl_nil <| run_ret Try.func24 (resW Try.results24 rfl Try.underlying47 rfl (by kernel_rfl) hO32 0 rfl) ?_
  exact ⟨ga1, gc1, Hg, rfl, ⟨hTz, fun r r0 r1 => tdy_isL _ (by omega) (by omega) _, fun r r0 r1 => Nat.le_trans (tdy_le _ _ _) (Nat.min_le_right _ _)⟩, hO32.tail.tail.tail.sub (List.sublist_append_left _ _)⟩
end Go.Proofs.Ytlldeifbfpmbaaa
