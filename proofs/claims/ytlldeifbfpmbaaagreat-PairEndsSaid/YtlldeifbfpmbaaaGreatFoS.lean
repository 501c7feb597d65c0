import Derived.Test.YtlldeifbfpmbaaaGreatFoQ
import Derived.Test.YtlldeifbfpmbaaaGreatFlC
set_option maxRecDepth 100000
namespace Go.Proofs.YtlldeifbfpmbaaaGreat
open Go.RowKit Go.Proofs Go.MapKept
open Classical in
noncomputable def cerL (p : Int → Prop) (v : Int → Int) : Nat → List (Int × Int)
 | 0 => []
 | g + 1 => cerL p v g ++ (if p g then [((g : Int), v g)] else [])
theorem cerL_yes {p : Int → Prop} {v : Int → Int} {g : Nat} (h : p g) : cerL p v (g + 1) = cerL p v g ++ [((g : Int), v g)] := by rw [cerL, if_pos h]
theorem cerL_no {p : Int → Prop} {v : Int → Int} {g : Nat} (h : ¬ p g) : cerL p v (g + 1) = cerL p v g := by rw [cerL, if_neg h, List.append_nil]
theorem cerL_len (p : Int → Prop) (v : Int → Int) : ∀ g : Nat, (cerL p v g).length ≤ g
 | 0 => Nat.le_refl _
 | g + 1 => by
  have := cerL_len p v g
  unfold cerL
  rw [List.length_append]
  split <;> simp <;> omega
theorem cerL_congr {p p' : Int → Prop} {v v' : Int → Int} : ∀ {n : Nat}, (∀ g : Int, 0 ≤ g → g < n → (p g ↔ p' g) ∧ (p g → v g = v' g)) → cerL p v n = cerL p' v' n
 | 0, _ => rfl
 | n + 1, h => by
  have ih := cerL_congr (n := n) fun g g0 g1 => h g g0 (by omega)
  obtain ⟨h1, h2⟩ := h n (by omega) (by omega)
  by_cases c : p n
  ·rw [cerL_yes c, cerL_yes (h1.1 c), ih, h2 c]
  ·rw [cerL_no c, cerL_no (fun x => c (h1.2 x)), ih]
section
variable (ga ba qa : Option Addr) (gc bc qc : Nat) (f : Fair) (w : World)
theorem allArg_any (most : Int) (hV : Valid5 f f.m) (hF : FAg w.heap.size w ga ba qa f f.m) (hm : most < 1 ∨ 1000 < most) :
  Calls Tryz.prog 10 #[.agg #[.slice ga f.n gc, .slice ba f.m bc, .slice qa f.m qc], iv most] w fun e w' => e = .returned (.tuple #[.slice none 0 0, iv 1]) ∧ Below w.heap.size w w' := by
 have hlg := hV.lg
 refine calls_of_run (F := [(0, _), (1, _)]) Tryz.func10 rfl Tryz.ntmps10 rfl rfl ?_
 have hO0 := Own.init w
 refine run_seq <| run_region <| rl_ow rfl (ow_box _ rfl rfl rfl rfl rfl hO0) ?_
 rintro _ w1 ⟨b2, rfl, hO2, hs3⟩
 refine rl_ow rfl (ow_box _ rfl rfl rfl rfl rfl hO2) ?_
 rintro _ w4 ⟨b3, rfl, hO5, hs6⟩
 refine rl_v rfl rfl rfl (ov_assign rfl rfl) <| rl_v rfl rfl rfl (ov_assign rfl rfl) <| rl_nil <| run_seq <| run_seq <| run_region <| rl_v rfl rfl rfl (ov_loadW rfl Tryz.underlying27 rfl (by kernel_rfl) rfl hO5 1 rfl) ?_
 refine rl_call callable_23 rfl rfl rfl rfl rfl rfl (check5_any ga ba qa gc bc qc f.m f _ hlg.n hlg.m hlg.q hlg.gl hlg.bl (hO5.fag hF)) (fun e7 w8 hp9 => ?_)
 obtain ⟨rfl, hbl⟩ := hp9
 refine ⟨_, rfl, ?_⟩
 have hO10 := hO5.past hbl
 have h0 := chkF_0.2 hV
 refine rl_v rfl rfl rfl (ov_assign rfl rfl) <| rl_nil <| run_seq <| run_region <| rl_v rfl rfl rfl (ov_move rfl rfl) <| rl_v rfl rfl rfl (ov_neq rfl rfl rfl) <| rl_nil ?_
 first | refine run_cond_dec rfl (fun c1 => ?_) (fun c1 => ?_) | refine run_cond rfl (fun c1 => ?_) (fun c1 => ?_)
 ·exfalso; exact c1 h0
 ·refine run_skip <| run_seq <| run_seq <| run_region_join 19 (.bool (decide (most < 1 ∨ 1000 < most))) [2, 3] (fun hk11 => ?_) ?_
  ·refine rl_v rfl rfl rfl (ov_load rfl Tryz.underlying3 rfl rfl (by exact hO10.cellL 0 rfl (off := 0) rfl)) ?_
   refine rl_v rfl rfl rfl (ov_lss rfl rfl rfl) <| rl_v rfl rfl rfl (ov_move rfl rfl) ?_
   first | refine rl_split_dec 16 rfl (fun hg12 => ?_) (fun hg12 => ?_) | refine rl_split 16 rfl (fun hg12 => ?_) (fun hg12 => ?_)
   ·refine rl_gskip rfl rfl rfl rfl rfl rfl <| rl_gskip rfl rfl rfl rfl rfl rfl <| rl_v rfl rfl rfl (ov_pick_t rfl rfl rfl) ?_
    refine rl_nil (hk11 _ (jbt rfl (by omega)) (And.intro rfl (And.intro rfl trivial)))
   ·refine rl_gv rfl rfl rfl rfl rfl (ov_load rfl Tryz.underlying3 rfl rfl (by exact hO10.cellL 0 rfl (off := 0) rfl)) ?_
    refine rl_gv rfl rfl rfl rfl rfl (ov_gtr rfl rfl rfl) <| rl_v rfl rfl rfl (ov_pick_f rfl rfl rfl) ?_
    refine rl_nil (hk11 _ (jbd rfl (by omega)) (And.intro rfl (And.intro rfl trivial)))
  ·show Run _ _ _ _ [(19, _), (2, _), (3, _)] _ _
   first | refine run_cond_dec rfl (fun c2 => ?_) (fun c2 => ?_) | refine run_cond rfl (fun c2 => ?_) (fun c2 => ?_)
   ·refine run_seq <| run_region <| rl_v rfl rfl rfl (ov_assign rfl rfl) <| rl_v rfl rfl rfl (ov_assign rfl rfl) <| rl_nil <| run_ret Tryz.func10 (res2 Tryz.results10 rfl rfl) ?_
    exact ⟨rfl, hO10.below⟩
   ·exfalso; exact c2 hm
theorem certain_any (hV : Valid5 f f.m) (hF : FAg w.heap.size w ga ba qa f f.m) :
  Calls Tryz.prog 19 #[.agg #[.slice ga f.n gc, .slice ba f.m bc, .slice qa f.m qc]] w fun e w' => ∃ (v : Value) (c : Option Blk) (l1 l2 nb : Int → Int), e = .returned (.tuple #[v, iv 0]) ∧ f.Best l1 ∧ f.AS l2 nb ∧ (∀ b : Int, 0 ≤ b → b < f.m → Done f l2 nb b) ∧ SRow v 48 2 (cerL (fun g => 0 ≤ l1 g ∧ l2 g = l1 g) l1 f.n).length (prG (cerL (fun g => 0 ≤ l1 g ∧ l2 g = l1 g) l1 f.n)) c ∧ Own w.heap.size w w' [c] := by
 have hlg := hV.lg
 have hsn := hV.sm.n
 refine calls_of_run (F := [(0, _)]) Tryz.func19 rfl Tryz.ntmps19 rfl rfl ?_
 have hO0 := Own.init w
 refine run_seq <| run_region <| rl_ow rfl (ow_box _ rfl rfl rfl rfl rfl hO0) ?_
 rintro _ w1 ⟨b1, rfl, hO2, hs3⟩
 refine rl_v rfl rfl rfl (ov_assign rfl rfl) <| rl_v rfl rfl rfl (ov_assign rfl rfl) <| rl_nil <| run_seq <| run_seq <| run_region <| rl_v rfl rfl rfl (ov_loadW rfl Tryz.underlying27 rfl (by kernel_rfl) rfl hO2 0 rfl) ?_
 refine rl_call callable_23 rfl rfl rfl rfl rfl rfl (check5_any ga ba qa gc bc qc f.m f _ hlg.n hlg.m hlg.q hlg.gl hlg.bl (hO2.fag hF)) (fun e4 w5 hp6 => ?_)
 obtain ⟨rfl, hbl⟩ := hp6
 refine ⟨_, rfl, ?_⟩
 have hO7 := hO2.past hbl
 have h0 := chkF_0.2 hV
 refine rl_v rfl rfl rfl (ov_assign rfl rfl) <| rl_nil <| run_seq <| run_region <| rl_v rfl rfl rfl (ov_move rfl rfl) <| rl_v rfl rfl rfl (ov_neq rfl rfl rfl) <| rl_nil ?_
 first | refine run_cond_dec rfl (fun c1 => ?_) (fun c1 => ?_) | refine run_cond rfl (fun c1 => ?_) (fun c1 => ?_)
 ·exfalso; exact c1 h0
 ·refine run_skip <| run_seq <| run_region <| rl_v rfl rfl rfl (ov_loadW rfl Tryz.underlying27 rfl (by kernel_rfl) rfl hO7 0 rfl) ?_
  refine rl_call callable_40 rfl rfl rfl rfl rfl rfl (newTables_any ga ba qa gc bc qc f _ hV.sm ((hO7.fag hF).fat rfl)) (fun e8 w9 hp10 => ?_)
  obtain ⟨tb, H1, rfl, hO1, hP⟩ := hp10
  refine ⟨_, rfl, ?_⟩
  have hO11 := hO7.join hO1
  refine rl_v rfl rfl rfl (ov_assign rfl rfl) <| rl_nil <| run_seq <| run_region <| rl_v rfl rfl rfl (ov_move rfl rfl) ?_
  refine rl_call callable_42 rfl rfl rfl rfl rfl rfl (offered_any tb f _ hV.ok hV.sm hP) (fun e12 w13 hp14 => ?_)
  obtain ⟨o1, l1, nx, rfl, hO2, hD, hE⟩ := hp14
  refine ⟨_, rfl, ?_⟩
  have hO15 := hO11.join hO2
  refine rl_v rfl rfl rfl (ov_move rfl rfl) ?_
  refine rl_call callable_43 rfl rfl rfl rfl rfl rfl (asked_any tb f _ hV.ok hV.sm (hO2.pt hP)) (fun e16 w17 hp18 => ?_)
  obtain ⟨o2, l2, nb, rfl, hO3, hA, hDn⟩ := hp18
  refine ⟨_, rfl, ?_⟩
  have hO19 := hO15.join hO3
  have hB := hD.isBest hV.ok hE
  obtain ⟨L, hL⟩ : ∃ L, L = cerL (fun g => 0 ≤ l1 g ∧ l2 g = l1 g) l1 := ⟨_, rfl⟩
  have hlen : ∀ k : Nat, (L k).length ≤ k := fun k => by rw [hL]; exact cerL_len _ _ k
  refine rl_v rfl rfl rfl (ov_assign rfl rfl) <| rl_v rfl rfl rfl (ov_assign rfl rfl) <| rl_nil <| run_seq <| run_region <| rl_v rfl rfl rfl (ov_assign rfl rfl) <| rl_nil <| run_seq <| run_seq <| run_region <| rl_v rfl rfl rfl (ov_move rfl rfl) <| rl_v rfl rfl rfl (ov_len rfl Tryz.underlying23 rfl) <| rl_v rfl rfl rfl (ov_move rfl rfl) <| rl_nil <| run_block <| Run.keep [7, 8, 22, 23, 24] (F' := [(7, _), (8, _), (22, _), (23, _), (24, _)]) rfl <| run_loop2 (fun (k : Nat) (v : Value) => [(24, .int .i64 (k : Int)), (8, v)]) [7, 22, 23] (fun (k : Nat) (v : Value) (w20 : World) => ∃ c : Option Blk, k ≤ f.n ∧ SRow v 48 2 (L k).length (prG (L k)) c ∧ Own w.heap.size w w20 [c, some (vch o2 3 f.n (fun g => iv (l2 g))), some (vch o1 3 f.n (fun g => iv (l1 g)))]) (fun (k : Nat) (v : Value) => f.n - k) (0) (.slice none 0 0) ?_ (And.intro (by exact slot_int rfl (by first | omega)) (And.intro rfl (And.intro rfl (And.intro rfl (And.intro rfl trivial))))) ?_
  ·exact ⟨none, by omega, by rw [hL]; exact SRow.nil _ _ _, hO19.nil_cons.sub (.cons_cons _ (.cons_cons _ (.cons_cons _ (List.nil_sublist _))))⟩
  intro k v w20 hIw20 ih21
  obtain ⟨c, hk, hr, hO⟩ := hIw20
  show Run _ _ _ _ [(24, _), (8, _), (7, _), (22, _), (23, _)] _ _
  refine run_seq <| run_region <| rl_v rfl rfl rfl (ov_lss rfl rfl rfl) <| rl_nil <| run_seq ?_
  first | refine run_cond_dec rfl (fun h2 => ?_) (fun h2 => ?_) | refine run_cond rfl (fun h2 => ?_) (fun h2 => ?_)
  ·have hlk := hlen k
   refine run_skip <| run_seq <| run_block <| run_seq <| run_region <| rl_v rfl rfl rfl (ov_move rfl rfl) <| rl_v rfl rfl rfl (ov_index1 rfl Tryz.underlying23 (by kernel_rfl) rfl rfl ⟨by omega, by omega⟩ rfl) ?_
   refine rl_v rfl rfl rfl (ov_load rfl Tryz.underlying3 rfl rfl (by exact hO.cellI 2 rfl k (by omega) (by omega))) ?_
   refine rl_v rfl rfl rfl (ov_assign rfl rfl) <| rl_v rfl rfl rfl (ov_assign rfl rfl) <| rl_nil <| run_seq <| run_region_join 38 (.bool (decide (0 ≤ l1 k ∧ l2 k = l1 k))) [7, 8, 9, 10, 22, 23, 24] (fun hk22 => ?_) ?_
   ·refine rl_v rfl rfl rfl (ov_move rfl rfl) <| rl_v rfl rfl rfl (ov_geq rfl rfl rfl) <| rl_v rfl rfl rfl (ov_move rfl rfl) ?_
    first | refine rl_split_dec 31 rfl (fun hg23 => ?_) (fun hg23 => ?_) | refine rl_split 31 rfl (fun hg23 => ?_) (fun hg23 => ?_)
    ·refine rl_gv rfl rfl rfl rfl rfl (ov_move rfl rfl) <| rl_gv rfl rfl rfl rfl rfl (ov_move rfl rfl) <| rl_gv rfl rfl rfl rfl rfl (ov_index1 rfl Tryz.underlying23 (by kernel_rfl) rfl rfl ⟨by omega, by omega⟩ rfl) ?_
     refine rl_gv rfl rfl rfl rfl rfl (ov_load rfl Tryz.underlying3 rfl rfl (by exact hO.cellI 1 rfl k (by omega) (by omega))) ?_
     refine rl_gv rfl rfl rfl rfl rfl (ov_move rfl rfl) <| rl_gv rfl rfl rfl rfl rfl (ov_eql rfl rfl rfl) <| rl_v rfl rfl rfl (ov_pick_t rfl rfl rfl) ?_
     refine rl_nil (hk22 _ (jbd rfl (by omega)) (And.intro rfl (And.intro rfl (And.intro rfl (And.intro rfl (And.intro rfl (And.intro rfl (And.intro rfl trivial))))))))
    ·refine rl_gskip rfl rfl rfl rfl rfl rfl <| rl_gskip rfl rfl rfl rfl rfl rfl <| rl_gskip rfl rfl rfl rfl rfl rfl <| rl_gskip rfl rfl rfl rfl rfl rfl <| rl_gskip rfl rfl rfl rfl rfl rfl <| rl_gskip rfl rfl rfl rfl rfl rfl <| rl_v rfl rfl rfl (ov_pick_f rfl rfl rfl) ?_
     refine rl_nil (hk22 _ (jbf rfl (by omega)) (And.intro rfl (And.intro rfl (And.intro rfl (And.intro rfl (And.intro rfl (And.intro rfl (And.intro rfl trivial))))))))
   ·show Run _ _ _ _ [(38, _), (7, _), (8, _), (9, _), (10, _), (22, _), (23, _), (24, _)] _ _
    first | refine run_cond_dec rfl (fun h3 => ?_) (fun h3 => ?_) | refine run_cond rfl (fun h3 => ?_) (fun h3 => ?_)
    ·refine run_region <| rl_v rfl rfl rfl (ov_move rfl rfl) <| rl_v rfl rfl rfl (ov_move rfl rfl) <| rl_v rfl rfl rfl (ov_move rfl rfl) <| rl_v rfl rfl rfl (ov_buildL rfl lay_48 rfl (us := [_, _]) rfl) <| rl_ow rfl (ow_build [_] rfl rfl rfl rfl rfl Tryz.underlying41 info_48 (by decide) hO rfl rfl) ?_
     rintro _ w24 ⟨b5, rfl, hO25, hs26⟩
     refine rl_ow rfl (ow_appR1 rfl rfl rfl Tryz.underlying41 info_48 rfl rfl hO25 0 hr rfl rfl rfl rfl rfl ⟨by omega, by omega⟩) ?_
     rintro _ w27 ⟨v5, c5, rfl, hO28, hr5, hs29⟩
     have hsn : L (k + 1) = L k ++ [((k : Int), l1 k)] := by rw [hL]; exact cerL_yes (p := fun g => 0 ≤ l1 g ∧ l2 g = l1 g) h3
     refine rl_v rfl rfl rfl (ov_assign rfl rfl) <| rl_nil <| run_inBlock <| run_region <| rl_v rfl rfl rfl (ov_add rfl rfl rfl (by omega)) ?_
     refine rl_v rfl rfl rfl (ov_move rfl rfl) <| rl_nil ?_
     refine Run.use (ih21 (k + 1) (v5) _ ?_ ?_) (And.intro (by exact slot_int rfl (by first | omega)) (And.intro rfl (And.intro rfl (And.intro rfl (And.intro rfl trivial)))))
     ·first | omega | (dsimp only; omega)
     ·exact ⟨c5, by omega, by rw [hsn, List.length_append]; exact hr5.congr fun j j0 j1 => prG_snoc _ ((k : Int), l1 k) j j0 j1, hO28⟩
    ·have hsn : L (k + 1) = L k := by rw [hL]; exact cerL_no (p := fun g => 0 ≤ l1 g ∧ l2 g = l1 g) h3
     refine run_skip <| run_inBlock <| run_region <| rl_v rfl rfl rfl (ov_add rfl rfl rfl (by omega)) ?_
     refine rl_v rfl rfl rfl (ov_move rfl rfl) <| rl_nil ?_
     refine Run.use (ih21 (k + 1) (v) _ ?_ ?_) (And.intro (by exact slot_int rfl (by first | omega)) (And.intro rfl (And.intro rfl (And.intro rfl (And.intro rfl trivial)))))
     ·first | omega | (dsimp only; omega)
     ·exact ⟨c, by omega, by rw [hsn]; exact hr, hO⟩
  ·have hkn : k = f.n := by omega
   refine run_exit rfl <| run_seq <| run_region <| rl_v rfl rfl rfl (ov_move rfl rfl) <| rl_v rfl rfl rfl (ov_assign rfl rfl) <| rl_v rfl rfl rfl (ov_assign rfl rfl) <| rl_nil <| run_ret Tryz.func19 (res2 Tryz.results19 rfl rfl) ?_
   exact ⟨v, c, l1, l2, nb, rfl, hB, hA, hDn, by rw [← hL, ← hkn]; exact hr, hO.sub (.cons_cons _ (List.nil_sublist _))⟩
end
end Go.Proofs.YtlldeifbfpmbaaaGreat
set_option maxRecDepth 100000
namespace Go.Proofs.YtlldeifbfpmbaaaGreat
open Go.RowKit Go.Proofs Go.MapKept
set_option maxHeartbeats 2000000 in
theorem refCertain_any (aa : Option Addr) (N ac n : Nat) (A : Int → Int → Int) (w : World) (hN1 : 1 ≤ N) (hN : N ≤ 1000000) (hn : n ≤ 1000) (hA : ITab w.heap.size w aa N (fun _ => n) (fun r c => iv (A r c))) :
  Calls Tryz.prog 20 #[.slice aa N ac] w fun e w' => ∃ (v : Value) (c : Option Blk), e = .returned v ∧ SRow v 47 2 (cerL (fun g => 0 ≤ A 0 g ∧ ∀ r : Int, 1 ≤ r → r < N → A r g = A 0 g) (A 0) n).length (prG (cerL (fun g => 0 ≤ A 0 g ∧ ∀ r : Int, 1 ≤ r → r < N → A r g = A 0 g) (A 0) n)) c ∧ Own w.heap.size w w' [c] := by
 obtain ⟨RA, RC, RB, RO, gb, go, hga, hrow, hra, hel, hcan⟩ := hA.open
 obtain ⟨p, hp⟩ : ∃ p : Int → Prop, p = fun g => 0 ≤ A 0 g ∧ ∀ r : Int, 1 ≤ r → r < N → A r g = A 0 g := ⟨_, rfl⟩
 rw [← hp]
 have hpi : ∀ g, p g ↔ 0 ≤ A 0 g ∧ ∀ r : Int, 1 ≤ r → r < N → A r g = A 0 g := fun g => by rw [hp]
 clear hp
 have hlen := cerL_len p (A 0)
 refine calls_of_run (F := [(0, _)]) Tryz.func20 rfl Tryz.ntmps20 rfl rfl ?_
 have hO0 := Own.init w
 refine run_seq <| run_region <| rl_v rfl rfl rfl (ov_assign rfl rfl) <| rl_nil <| run_seq <| run_region <| rl_v rfl rfl rfl (ov_assign rfl rfl) <| rl_nil <| run_seq <| run_seq <| run_region <| rl_v rfl rfl rfl (ov_assign rfl rfl) <| rl_nil <| run_block <| Run.keep [0, 3, 4] (F' := [(0, _), (3, _), (4, _)]) rfl <| run_loop2 (fun (k : Nat) (v : Value) => [(4, .int .i64 (k : Int)), (3, v)]) [0] (fun (k : Nat) (v : Value) (w1 : World) => ∃ c : Option Blk, k ≤ n ∧ SRow v 47 2 (cerL p (A 0) k).length (prG (cerL p (A 0) k)) c ∧ Own w.heap.size w w1 [c]) (fun (k : Nat) (v : Value) => n - k) (0) (.slice none 0 0) ?_ (And.intro (by exact slot_int rfl (by first | omega)) (And.intro rfl (And.intro rfl trivial))) ?_
 ·exact ⟨none, by omega, SRow.nil _ _ _, hO0.nil_cons⟩
 intro k v w1 hIw1 ih2
 obtain ⟨c, hk, hr, hO⟩ := hIw1
 show Run _ _ _ _ [(4, _), (3, _), (0, _)] _ _
 refine run_seq <| run_seq <| run_region <| rl_v rfl rfl rfl (ov_move rfl rfl) <| rl_v rfl rfl rfl (ov_move rfl rfl) <| rl_v rfl rfl rfl (ov_index1 rfl Tryz.underlying22 (by kernel_rfl) rfl rfl ⟨by omega, by omega⟩ (by exact hga (by omega))) ?_
 refine rl_v rfl rfl rfl (ov_load rfl Tryz.underlying23 rfl rfl (by exact hrow _ hO.below _ (by omega) (by omega))) ?_
 refine rl_v rfl rfl rfl (ov_len rfl Tryz.underlying23 rfl) <| rl_v rfl rfl rfl (ov_lss rfl rfl rfl) <| rl_nil ?_
 first | refine run_cond_dec rfl (fun h2 => ?_) (fun h2 => ?_) | refine run_cond rfl (fun h2 => ?_) (fun h2 => ?_)
 ·have hlk := hlen k
  refine run_skip <| run_seq <| run_block <| run_seq <| run_region <| rl_v rfl rfl rfl (ov_move rfl rfl) <| rl_v rfl rfl rfl (ov_index1 rfl Tryz.underlying22 (by kernel_rfl) rfl rfl ⟨by omega, by omega⟩ (by exact hga (by omega))) ?_
  refine rl_v rfl rfl rfl (ov_load rfl Tryz.underlying23 rfl rfl (by exact hrow _ hO.below _ (by omega) (by omega))) ?_
  refine rl_v rfl rfl rfl (ov_move rfl rfl) <| rl_v rfl rfl rfl (ov_index1 rfl Tryz.underlying23 (by kernel_rfl) rfl rfl ⟨by omega, by omega⟩ (by exact hra _ (by omega) (by omega) (by omega))) ?_
  refine rl_v rfl rfl rfl (ov_load rfl Tryz.underlying3 rfl rfl (by exact hel _ hO.below _ (by omega) (by omega) _ (by omega) (by omega))) ?_
  refine rl_v rfl rfl rfl (ov_geq rfl rfl rfl) <| rl_v rfl rfl rfl (ov_assign rfl rfl) <| rl_nil <| run_seq <| run_seq <| run_region <| rl_v rfl rfl rfl (ov_assign rfl rfl) <| rl_nil <| run_block <| Run.keep [0, 3, 4, 5, 6] (F' := [(0, _), (3, _), (4, _), (5, _), (6, _)]) rfl <| run_loop2 (fun (i : Int) (s : Bool) => [(6, .int .i64 i), (5, .bool s)]) [0, 3, 4] (fun (i : Int) (s : Bool) (w3 : World) => 1 ≤ i ∧ i ≤ N ∧ (s = true ↔ 0 ≤ A 0 k ∧ ∀ r : Int, 1 ≤ r → r < i → A r k = A 0 k) ∧ Own w.heap.size w w3 [c]) (fun (i : Int) (s : Bool) => ((N : Int) - i).toNat) (1) (decide (0 ≤ A 0 k)) ?_ (And.intro (by exact slot_int rfl (by first | omega)) (And.intro (by rfl) (And.intro rfl (And.intro rfl (And.intro rfl trivial))))) ?_
  ·exact ⟨by omega, by omega, by rw [decide_eq_true_iff]; exact ⟨fun h => ⟨h, fun r r0 r1 => by omega⟩, And.left⟩, hO⟩
  intro i s w3 hIw3 ih4
  obtain ⟨hi0, hi1, hs, hO⟩ := hIw3
  show Run _ _ _ _ [(6, _), (5, _), (0, _), (3, _), (4, _)] _ _
  refine run_seq <| run_seq <| run_region <| rl_v rfl rfl rfl (ov_move rfl rfl) <| rl_v rfl rfl rfl (ov_move rfl rfl) <| rl_v rfl rfl rfl (ov_len rfl Tryz.underlying22 rfl) <| rl_v rfl rfl rfl (ov_lss rfl rfl rfl) <| rl_nil ?_
  first | refine run_cond_dec rfl (fun h3 => ?_) (fun h3 => ?_) | refine run_cond rfl (fun h3 => ?_) (fun h3 => ?_)
  ·refine run_skip <| run_seq <| run_block <| run_quiet mixed (by kernel_rfl) ?_
   refine rq_v rfl rfl rfl (fun _ => ov_move rfl rfl) ?_
   refine rq_v rfl rfl rfl (fun _ => ov_move rfl rfl) ?_
   first | refine rq_split_dec 29 rfl (fun q1 => ?_) (fun q1 => ?_) | refine rq_split 29 rfl (fun q1 => ?_) (fun q1 => ?_)
   ·refine rq_gv rfl rfl rfl rfl rfl (fun _ => ov_move rfl rfl) ?_
    refine rq_gv rfl rfl rfl rfl rfl (fun _ => ov_move rfl rfl) ?_
    refine rq_gv rfl rfl rfl rfl rfl (fun _ => ov_index1 rfl Tryz.underlying22 (by kernel_rfl) rfl rfl ⟨by omega, by omega⟩ (by exact hga (by omega))) ?_
    refine rq_gv rfl rfl rfl rfl rfl (fun _ => ov_load rfl Tryz.underlying23 rfl rfl (by show World.cell? w3 _ = _; first | exact hrow _ hO.below _ (by omega) (by omega) | exact hel _ hO.below _ (by omega) (by omega) _ (by omega) (by omega) | exact hO.cellI 0 rfl _ (by omega) (by omega) | exact hO.cellL 0 rfl rfl | exact hO.cellI 1 rfl _ (by omega) (by omega) | exact hO.cellL 1 rfl rfl | exact hO.cellI 2 rfl _ (by omega) (by omega) | exact hO.cellL 2 rfl rfl | exact hO.cellI 3 rfl _ (by omega) (by omega) | exact hO.cellL 3 rfl rfl | exact hO.cellI 4 rfl _ (by omega) (by omega) | exact hO.cellL 4 rfl rfl | exact hO.cellI 5 rfl _ (by omega) (by omega) | exact hO.cellL 5 rfl rfl)) ?_
    refine rq_gv rfl rfl rfl rfl rfl (fun _ => ov_move rfl rfl) ?_
    refine rq_gv rfl rfl rfl rfl rfl (fun _ => ov_index1 rfl Tryz.underlying23 (by kernel_rfl) rfl rfl ⟨by omega, by omega⟩ (by exact hra _ (by omega) (by omega) (by omega))) ?_
    refine rq_gv rfl rfl rfl rfl rfl (fun _ => ov_load rfl Tryz.underlying3 rfl rfl (by show World.cell? w3 _ = _; first | exact hrow _ hO.below _ (by omega) (by omega) | exact hel _ hO.below _ (by omega) (by omega) _ (by omega) (by omega) | exact hO.cellI 0 rfl _ (by omega) (by omega) | exact hO.cellL 0 rfl rfl | exact hO.cellI 1 rfl _ (by omega) (by omega) | exact hO.cellL 1 rfl rfl | exact hO.cellI 2 rfl _ (by omega) (by omega) | exact hO.cellL 2 rfl rfl | exact hO.cellI 3 rfl _ (by omega) (by omega) | exact hO.cellL 3 rfl rfl | exact hO.cellI 4 rfl _ (by omega) (by omega) | exact hO.cellL 4 rfl rfl | exact hO.cellI 5 rfl _ (by omega) (by omega) | exact hO.cellL 5 rfl rfl)) ?_
    refine rq_gv rfl rfl rfl rfl rfl (fun _ => ov_move rfl rfl) ?_
    refine rq_gv rfl rfl rfl rfl rfl (fun _ => ov_index1 rfl Tryz.underlying22 (by kernel_rfl) rfl rfl ⟨by omega, by omega⟩ (by exact hga (by omega))) ?_
    refine rq_gv rfl rfl rfl rfl rfl (fun _ => ov_load rfl Tryz.underlying23 rfl rfl (by show World.cell? w3 _ = _; first | exact hrow _ hO.below _ (by omega) (by omega) | exact hel _ hO.below _ (by omega) (by omega) _ (by omega) (by omega) | exact hO.cellI 0 rfl _ (by omega) (by omega) | exact hO.cellL 0 rfl rfl | exact hO.cellI 1 rfl _ (by omega) (by omega) | exact hO.cellL 1 rfl rfl | exact hO.cellI 2 rfl _ (by omega) (by omega) | exact hO.cellL 2 rfl rfl | exact hO.cellI 3 rfl _ (by omega) (by omega) | exact hO.cellL 3 rfl rfl | exact hO.cellI 4 rfl _ (by omega) (by omega) | exact hO.cellL 4 rfl rfl | exact hO.cellI 5 rfl _ (by omega) (by omega) | exact hO.cellL 5 rfl rfl)) ?_
    refine rq_gv rfl rfl rfl rfl rfl (fun _ => ov_move rfl rfl) ?_
    refine rq_gv rfl rfl rfl rfl rfl (fun _ => ov_index1 rfl Tryz.underlying23 (by kernel_rfl) rfl rfl ⟨by omega, by omega⟩ (by exact hra _ (by omega) (by omega) (by omega))) ?_
    refine rq_gv rfl rfl rfl rfl rfl (fun _ => ov_load rfl Tryz.underlying3 rfl rfl (by show World.cell? w3 _ = _; first | exact hrow _ hO.below _ (by omega) (by omega) | exact hel _ hO.below _ (by omega) (by omega) _ (by omega) (by omega) | exact hO.cellI 0 rfl _ (by omega) (by omega) | exact hO.cellL 0 rfl rfl | exact hO.cellI 1 rfl _ (by omega) (by omega) | exact hO.cellL 1 rfl rfl | exact hO.cellI 2 rfl _ (by omega) (by omega) | exact hO.cellL 2 rfl rfl | exact hO.cellI 3 rfl _ (by omega) (by omega) | exact hO.cellL 3 rfl rfl | exact hO.cellI 4 rfl _ (by omega) (by omega) | exact hO.cellL 4 rfl rfl | exact hO.cellI 5 rfl _ (by omega) (by omega) | exact hO.cellL 5 rfl rfl)) ?_
    refine rq_gv rfl rfl rfl rfl rfl (fun _ => ov_eql rfl rfl rfl) ?_
    refine rq_v rfl rfl rfl (fun _ => ov_pick_t rfl rfl rfl) ?_
    refine rq_v rfl rfl rfl (fun _ => ov_assign rfl rfl) ?_
    refine rq_nil (fun n6 => ?_)
    have hO8 := hO.drewN n6
    generalize World.drewN w3 n6 = w7 at hO8 ⊢
    refine run_inBlock <| run_region <| rl_v rfl rfl rfl (ov_move rfl rfl) <| rl_v rfl rfl rfl (ov_add rfl rfl rfl (by omega)) ?_
    refine rl_v rfl rfl rfl (ov_assign rfl rfl) <| rl_nil ?_
    refine Run.use (ih4 (i + 1) (decide (A i k = A 0 k)) _ ?_ ?_) (And.intro (by exact slot_int rfl (by first | omega)) (And.intro (by rfl) (And.intro rfl (And.intro rfl (And.intro rfl trivial)))))
    ·first | omega | (dsimp only; omega)
    ·exact ⟨by omega, by omega, by rw [decide_eq_true_iff]; exact ⟨fun h => ⟨(hs.1 q1).1, fun r r0 r1 => by by_cases e : r = i; (rw [e]; exact h); (exact (hs.1 q1).2 r r0 (by omega))⟩, fun h => h.2 i (by omega) (by omega)⟩, hO8⟩
   ·refine rq_gskip rfl rfl rfl rfl rfl rfl <| rq_gskip rfl rfl rfl rfl rfl rfl <| rq_gskip rfl rfl rfl rfl rfl rfl <| rq_gskip rfl rfl rfl rfl rfl rfl <| rq_gskip rfl rfl rfl rfl rfl rfl <| rq_gskip rfl rfl rfl rfl rfl rfl <| rq_gskip rfl rfl rfl rfl rfl rfl <| rq_gskip rfl rfl rfl rfl rfl rfl <| rq_gskip rfl rfl rfl rfl rfl rfl <| rq_gskip rfl rfl rfl rfl rfl rfl <| rq_gskip rfl rfl rfl rfl rfl rfl <| rq_gskip rfl rfl rfl rfl rfl rfl <| rq_gskip rfl rfl rfl rfl rfl rfl <| rq_gskip rfl rfl rfl rfl rfl rfl <| rq_v rfl rfl rfl (fun _ => ov_pick_f rfl rfl rfl) ?_
    refine rq_v rfl rfl rfl (fun _ => ov_assign rfl rfl) ?_
    refine rq_nil (fun n9 => ?_)
    have hO11 := hO.drewN n9
    generalize World.drewN w3 n9 = w10 at hO11 ⊢
    refine run_inBlock <| run_region <| rl_v rfl rfl rfl (ov_move rfl rfl) <| rl_v rfl rfl rfl (ov_add rfl rfl rfl (by omega)) ?_
    refine rl_v rfl rfl rfl (ov_assign rfl rfl) <| rl_nil ?_
    refine Run.use (ih4 (i + 1) (false) _ ?_ ?_) (And.intro (by exact slot_int rfl (by first | omega)) (And.intro (by rfl) (And.intro rfl (And.intro rfl (And.intro rfl trivial)))))
    ·first | omega | (dsimp only; omega)
    ·exact ⟨by omega, by omega, ⟨fun h => Bool.noConfusion h, fun h => by rw [hs.2 ⟨h.1, fun r r0 r1 => h.2 r r0 (by omega)⟩] at q1; exact Bool.noConfusion q1⟩, hO11⟩
  ·have hiN : i = N := by omega
   refine run_exit rfl <| run_seq <| run_region <| rl_v rfl rfl rfl (ov_move rfl rfl) <| rl_nil ?_
   first | refine run_cond_dec rfl (fun h4 => ?_) (fun h4 => ?_) | refine run_cond rfl (fun h4 => ?_) (fun h4 => ?_)
   ·have hpk : p k := (hpi k).2 (by rw [← hiN]; exact hs.1 h4)
    refine run_region <| rl_v rfl rfl rfl (ov_move rfl rfl) <| rl_v rfl rfl rfl (ov_move rfl rfl) <| rl_v rfl rfl rfl (ov_move rfl rfl) <| rl_v rfl rfl rfl (ov_index1 rfl Tryz.underlying22 (by kernel_rfl) rfl rfl ⟨by omega, by omega⟩ (by exact hga (by omega))) ?_
    refine rl_v rfl rfl rfl (ov_load rfl Tryz.underlying23 rfl rfl (by exact hrow _ hO.below _ (by omega) (by omega))) ?_
    refine rl_v rfl rfl rfl (ov_move rfl rfl) <| rl_v rfl rfl rfl (ov_index1 rfl Tryz.underlying23 (by kernel_rfl) rfl rfl ⟨by omega, by omega⟩ (by exact hra _ (by omega) (by omega) (by omega))) ?_
    refine rl_v rfl rfl rfl (ov_load rfl Tryz.underlying3 rfl rfl (by exact hel _ hO.below _ (by omega) (by omega) _ (by omega) (by omega))) ?_
    refine rl_v rfl rfl rfl (ov_buildL rfl lay_47 rfl (us := [_, _]) rfl) <| rl_ow rfl (ow_build [_] rfl rfl rfl rfl rfl Tryz.underlying44 info_47 (by decide) hO rfl rfl) ?_
    rintro _ w12 ⟨b5, rfl, hO13, hs14⟩
    refine rl_ow rfl (ow_appR1 rfl rfl rfl Tryz.underlying44 info_47 rfl rfl hO13 0 hr rfl rfl rfl rfl rfl ⟨by omega, by omega⟩) ?_
    rintro _ w15 ⟨v5, c5, rfl, hO16, hr5, hs17⟩
    refine rl_v rfl rfl rfl (ov_assign rfl rfl) <| rl_nil <| run_inBlock <| run_region <| rl_v rfl rfl rfl (ov_move rfl rfl) <| rl_v rfl rfl rfl (ov_add rfl rfl rfl (by omega)) ?_
    refine rl_v rfl rfl rfl (ov_assign rfl rfl) <| rl_nil ?_
    refine Run.use (ih2 (k + 1) (v5) _ ?_ ?_) (And.intro (by exact slot_int rfl (by first | omega)) (And.intro rfl (And.intro rfl trivial)))
    ·first | omega | (dsimp only; omega)
    ·exact ⟨c5, by omega, by rw [cerL_yes hpk, List.length_append]; exact hr5.congr fun j j0 j1 => prG_snoc _ ((k : Int), A 0 k) j j0 j1, hO16⟩
   ·have hpk : ¬ p k := fun h => by
     have h5 := hs.2 (by rw [hiN]; exact (hpi k).1 h)
     rw [h5] at h4; exact Bool.noConfusion h4
    refine run_skip <| run_inBlock <| run_region <| rl_v rfl rfl rfl (ov_move rfl rfl) <| rl_v rfl rfl rfl (ov_add rfl rfl rfl (by omega)) ?_
    refine rl_v rfl rfl rfl (ov_assign rfl rfl) <| rl_nil ?_
    refine Run.use (ih2 (k + 1) (v) _ ?_ ?_) (And.intro (by exact slot_int rfl (by first | omega)) (And.intro rfl (And.intro rfl trivial)))
    ·first | omega | (dsimp only; omega)
    ·exact ⟨c, by omega, by rw [cerL_no hpk]; exact hr, hO⟩
 ·have hkn : k = n := by omega
  refine run_exit rfl <| run_seq <| run_region <| rl_v rfl rfl rfl (ov_move rfl rfl) <| rl_v rfl rfl rfl (ov_assign rfl rfl) <| rl_nil <| run_ret Tryz.func20 (res1 Tryz.results20 rfl) ?_
  exact ⟨v, c, rfl, by rw [← hkn]; exact hr, hO⟩
end Go.Proofs.YtlldeifbfpmbaaaGreat
