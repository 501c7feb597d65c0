import Derived.Test.YtbepolognfdkeaaGreatGbD
import Derived.Test.YtbepolognfdkeaaGreatGbE
import Derived.Test.YtbepolognfdkeaaGreatGaH
set_option maxRecDepth 100000
namespace Go.Proofs.YtbepolognfdkeaaGreat
open Go.RowKit Go.Proofs Go.MapKept
theorem sub_l1 {α : Type} {x y a b : α} {M : List α} : [a].Sublist (x :: y :: (M ++ [a, b])) := .cons _ (.cons _ (((List.Sublist.refl [a]).trans (.cons_cons _ (List.nil_sublist _))).trans (List.sublist_append_right _ _)))
theorem sub_l2 {α : Type} {x y a b : α} {M : List α} : [b].Sublist (x :: y :: (M ++ [a, b])) := .cons _ (.cons _ ((List.Sublist.cons a (List.Sublist.refl [b])).trans (List.sublist_append_right _ _)))
theorem sub_l0 {α : Type} {x y a : α} {M : List α} : [a].Sublist (x :: y :: (M ++ [a])) := .cons _ (.cons _ (List.sublist_append_right _ _))
theorem sub_ld {α : Type} {x y a b : α} {M : List α} : (x :: y :: (M ++ [a])).Sublist (x :: y :: (M ++ [a, b])) := .cons_cons _ (.cons_cons _ ((List.Sublist.cons_cons a (List.nil_sublist _)).append_left M))
theorem perm_nn {α : Type} {k : Nat} {z ob wk cs : α} : (List.replicate (k + 1) z ++ [ob, wk, cs]).Perm (wk :: z :: ((ob :: List.replicate k z) ++ [cs])) := by
 classical
 rw [List.perm_iff_count, List.replicate_succ]
 intro y
 simp only [List.count_append, List.count_cons, List.count_nil]
 omega
theorem perm_t9 {α : Type} {t x y a : α} {M : List α} : (t :: x :: y :: (M ++ [a])).Perm (x :: y :: (M ++ [a, t])) := by
 classical
 rw [List.perm_iff_count]
 intro z
 simp only [List.count_append, List.count_cons, List.count_nil]
 omega
theorem Cuts.rng {l : Lds} {c : Nat} {X : Int → Int} {M : Int} (h : Cuts l c X) (hF : l.Fit M) {j : Int} (j0 : 0 ≤ j) (j1 : j < c) : 0 ≤ X j ∧ X j ≤ M := by
 obtain ⟨i, hi, e⟩ := (h.mem (X j)).1 ⟨j, ⟨j0, j1⟩, rfl⟩
 have h1 := hF.r0 i hi.1 hi.2
 have h2 := hF.rd i hi.1 hi.2
 have h3 := hF.dM i hi.1 hi.2
 omega
structure WkO (l : Lds) (c : Nat) (X : Int → Int) (kilns : Int) (G : Net) (L : Int → Int) (fl : Int) (LV : Int → Int) (sa : Option Addr) (sc : Nat) (pa : Option Addr) (pc : Nat) (oa : Option Addr) (oc : Nat) (cp : Option Blk) (HO : List (Option Blk)) (cs : Option Blk) : Prop where
 b : Built l c X kilns G
 sm : G.Sm
 f : G.Flow L fl
 f0 : 0 ≤ fl
 lev : G.Lev L LV
 cut : LV (G.nn - 1) < 0
 pip : SRow (.slice pa (2 * G.np) pc) 118 2 (2 * G.np) (pipF G L) cp
 out : OTab (.slice oa G.nn oc) 36 3 G.nn G.OL (fun t k => iv (G.OE t k)) HO
 spn : SRow (.slice sa (c - 1) sc) 79 2 (c - 1) (spF X) cs
theorem olb_conn {G : Net} {u v m : Int} (hne : u ≠ v) (h : ∀ t : Int, G.OL t ≤ G.np) : ∀ t : Int, (G.conn u v m).OL t ≤ (G.conn u v m).np := fun t => by
 show _ ≤ G.np + 1
 rw [Net.conn_ol hne]
 have h1 := h v
 have h2 := h u
 have h3 := h t
 split
 ·omega
 ·split <;> omega
abbrev wkB (wb : Nat) (la : Option Addr) (n lc : Nat) (sa : Option Addr) (m sc : Nat) (pa : Option Addr) (np pc : Nat) (oa : Option Addr) (nn oc : Nat) (fl : Int) : Option Blk := some (lch wb 71 (wkL la n lc sa m sc pa np pc oa nn oc fl))
set_option maxHeartbeats 4000000 in
theorem newWorks_any (la : Option Addr) (lc : Nat) (l : Lds) (kilns : Int) (w : World) (hn : l.n ≤ 256) (hF : l.Fit 1000000000) (hk : 0 ≤ kilns ∧ kilns ≤ 1000) (hl : SAt w.heap.size w la 4 l.n (ldF l)) :
  Calls Tryz.prog 25 #[.slice la l.n lc, iv kilns] w fun e w' => ∃ (wb c : Nat) (X : Int → Int) (G : Net) (L : Int → Int) (fl : Int) (LV : Int → Int) (sa : Option Addr) (sc : Nat) (pa : Option Addr) (pc : Nat) (oa : Option Addr) (oc : Nat) (cp : Option Blk) (HO : List (Option Blk)) (cs : Option Blk), e = .returned (ptr wb) ∧ WkO l c X kilns G L fl LV sa sc pa pc oa oc cp HO cs ∧
   Own w.heap.size w w' (wkB wb la l.n lc sa (c - 1) sc pa (2 * G.np) pc oa G.nn oc fl :: cp :: (HO ++ [cs])) := by
 obtain ⟨lb, lo, hla, hlr⟩ := hl.open (by decide)
 refine calls_of_run (F := [(0, _), (1, _)]) Tryz.func25 rfl Tryz.ntmps25 rfl rfl ?_
 have hO0 := Own.init w
 refine run_seq <| run_region <| rl_v rfl rfl rfl (ov_assign rfl rfl) <| rl_nil <| run_seq <| run_region <| rl_v rfl rfl rfl (ov_move rfl rfl) <| rl_v rfl rfl rfl (ov_move rfl rfl) ?_
 refine rl_call callable_45 rfl rfl rfl rfl rfl rfl (spans_any la lc l _ (by omega) (fun i i0 i1 => ⟨hF.r0 i i0 i1, Int.le_trans (hF.dM i i0 i1) (by decide)⟩) (hO0.satU hl)) (fun e1 w2 hp3 => ?_)
 obtain ⟨sa, sc, c, X, cs, rfl, hC, hsp, hO1⟩ := hp3
 refine ⟨_, rfl, ?_⟩
 have hO4 := hO0.join hO1
 refine rl_v rfl rfl rfl (ov_buildL rfl lay_71 rfl (us := [_, _, _, _, _]) rfl) <| rl_ow rfl (ow_box _ rfl rfl rfl rfl rfl hO4) ?_
 rintro _ w5 ⟨wb, rfl, hO6, hs7⟩
 have hcle := hC.le
 obtain ⟨m, hm⟩ : ∃ m, m = c - 1 := ⟨_, rfl⟩
 rw [← hm] at hsp hO6 ⊢
 refine rl_v rfl rfl rfl (ov_assign rfl rfl) <| rl_nil <| run_seq <| run_quiet mixed (by kernel_rfl) ?_
 refine rq_v rfl rfl rfl (fun _ => ov_move rfl rfl) ?_
 refine rq_v rfl rfl rfl (fun _ => ov_len rfl Tryz.underlying24 rfl) ?_
 refine rq_v rfl rfl rfl (fun _ => ov_move rfl rfl) ?_
 refine rq_v rfl rfl rfl (fun _ => ov_nil rfl rfl) ?_
 refine rq_v rfl rfl rfl (fun _ => ov_fieldS rfl Tryz.underlying71 rfl (fo := 1) rfl (by kernel_rfl) rfl) ?_
 refine rq_v rfl rfl rfl (fun _ => ov_load rfl Tryz.underlying37 rfl rfl (by show World.cell? w5 _ = _; first | exact hO6.cellL 0 rfl (off := 1) rfl)) ?_
 refine rq_v rfl rfl rfl (fun _ => ov_len rfl Tryz.underlying37 rfl) ?_
 refine rq_v rfl rfl rfl (fun _ => ov_assign rfl rfl) ?_
 refine rq_v rfl rfl rfl (fun _ => ov_assign rfl rfl) ?_
 refine rq_nil (fun n8 => ?_)
 have hO10 := hO6.drewN n8
 generalize World.drewN w5 n8 = w9 at hO10 ⊢
 refine run_seq <| run_region <| rl_v rfl rfl rfl (ov_move rfl rfl) <| rl_v rfl rfl rfl (ov_move rfl rfl) <| rl_v rfl rfl rfl (ov_move rfl rfl) <| rl_v rfl rfl rfl (ov_add rfl rfl rfl (by omega)) ?_
 refine rl_v rfl rfl rfl (ov_add rfl rfl rfl (by omega)) ?_
 refine rl_make (l.n+m+2) rfl rfl rfl rfl Tryz.underlying69 info_36 rfl hO10 rfl rfl (by rfl) (by rfl) ⟨by omega, by omega⟩ (fun ob w11 hO12 hs13 => ?_)
 refine rl_v rfl rfl rfl (ov_nil rfl rfl) <| rl_v rfl rfl rfl (ov_fieldS rfl Tryz.underlying71 rfl (fo := 3) rfl (by kernel_rfl) rfl) ?_
 refine rl_ow rfl (ow_storeL rfl rfl (by kernel_rfl) hO12 1 rfl rfl rfl rfl rfl) ?_
 rintro _ w14 ⟨rfl, hO15, hs16⟩
 have hOi : Own w.heap.size w w14 (wkB wb la l.n lc sa m sc none 0 0 (some ⟨ob, 0, none⟩) (l.n + m + 2) (l.n + m + 2) 0 :: none :: ((some (vch ob 36 (l.n + m + 2) (fun _ => .slice none 0 0)) :: (List.range (l.n + m + 2)).map fun _ => none) ++ [cs])) := by
  rw [List.map_const', List.length_range]
  exact (hO15.nones (l.n + m + 2 + 1)).perm perm_nn
 obtain ⟨sb, hsa⟩ := hsp.addr
 have hXr : ∀ j : Int, 0 ≤ j → j ≤ m → 0 < m → 0 ≤ X j ∧ X j ≤ 1000000000 := fun j j0 j1 hm0 => hC.rng hF j0 (by omega)
 have hlenI : ∀ i : Nat, i ≤ l.n → (l.arcI X m i).length ≤ 256 * 512 := fun i hi => Nat.le_trans (l.arcI_len i) (Nat.mul_le_mul (by omega) (by omega))
 refine rl_nil <| run_seq <| run_seq <| run_region <| rl_v rfl rfl rfl (ov_move rfl rfl) <| rl_v rfl rfl rfl (ov_len rfl Tryz.underlying24 rfl) <| rl_v rfl rfl rfl (ov_move rfl rfl) <| rl_nil <| run_block <| Run.keep [1, 5, 6, 7, 34, 35, 36] (F' := [(1, _), (5, _), (6, _), (7, _), (34, _), (35, _), (36, _)]) rfl <| run_loop1 (fun (i : Nat) => [(36, .int .i64 (i : Int))]) [1, 5, 6, 7, 34, 35] (fun (i : Nat) (w17 : World) => i ≤ l.n ∧ ∃ (G : Net) (L : Int → Int) (pa : Option Addr) (pc : Nat) (cp : Option Blk) (HO : List (Option Blk)), Net.Is (l.n + m + 2) (l.arcI X m i) G ∧ G.Ok ∧ G.Fresh L ∧ (∀ t : Int, G.OL t ≤ G.np) ∧ OTab (.slice (some ⟨ob, 0, none⟩) G.nn (l.n + m + 2)) 36 3 G.nn G.OL (fun t k => iv (G.OE t k)) HO ∧ SRow (.slice pa (2 * G.np) pc) 118 2 (2 * G.np) (pipF G L) cp ∧ Own w.heap.size w w17 (wkB wb la l.n lc sa m sc pa (2 * G.np) pc (some ⟨ob, 0, none⟩) G.nn (l.n + m + 2) 0 :: cp :: (HO ++ [cs]))) (fun (i : Nat) => l.n - i) (0) ?_ (And.intro (by exact slot_int rfl (by first | omega)) (And.intro rfl (And.intro rfl (And.intro rfl (And.intro rfl (And.intro rfl (And.intro rfl trivial))))))) ?_
 ·exact ⟨Nat.zero_le _, Net.empty (l.n + m + 2), fun _ => 0, none, 0, none, _, Net.Is.nil _, Net.Ok.empty (by omega), Net.Fresh.nil _ _, fun _ => Nat.le_refl 0, OTab.nils ob _ _ _ _ _ (by show l.n + m + 2 ≤ 9223372036854775807; omega) (fun _ _ _ => rfl), SRow.nil _ _ _, hOi⟩
 intro i w17 hIw17 ih18
 obtain ⟨hi, G, L, pa, pc, cp, HO, hIs, hG, hFr, hob, hT, hr, hO2⟩ := hIw17
 show Run _ _ _ _ [(36, _), (1, _), (5, _), (6, _), (7, _), (34, _), (35, _)] _ _
 refine run_seq <| run_region <| rl_v rfl rfl rfl (ov_lss rfl rfl rfl) <| rl_nil <| run_seq ?_
 first | refine run_cond_dec rfl (fun c1 => ?_) (fun c1 => ?_) | refine run_cond rfl (fun c1 => ?_) (fun c1 => ?_)
 ·have hi' : i < l.n := by omega
  have hGn := hIs.nn
  have hGp := hIs.np
  have hlI := hlenI i (by omega)
  have hri := hF.r0 i (by omega) c1
  have hrd := hF.rd i (by omega) c1
  have hdM := hF.dM i (by omega) c1
  have hl1 := hF.len1 i (by omega) c1
  refine run_skip <| run_seq <| run_block <| run_seq <| run_region <| rl_v rfl rfl rfl (ov_move rfl rfl) <| rl_v rfl rfl rfl (ov_index rfl Tryz.underlying24 (by kernel_rfl) (s := 4) rfl rfl ⟨by omega, by omega⟩ (by exact hla (by omega))) ?_
  refine rl_v rfl rfl rfl (ov_loadE rfl Tryz.underlying58 rfl (by kernel_rfl) rfl ⟨by omega, by omega⟩ rfl (hlr _ hO2.below)) ?_
  refine rl_ow rfl (ow_alloc _ rfl rfl rfl zero_58 rfl hO2) ?_
  rintro _ w19 ⟨t9, rfl, hO20, hs21⟩
  refine rl_v rfl rfl rfl (ov_assign rfl rfl) <| rl_ow rfl (ow_storeW rfl rfl (by kernel_rfl) hO20 0 rfl rfl (by rfl) rfl (by rfl)) ?_
  rintro _ w22 ⟨rfl, hO23, hs24⟩
  have hOp := hO23.perm perm_t9
  refine rl_nil <| run_seq <| run_region <| rl_v rfl rfl rfl (ov_move rfl rfl) <| rl_v rfl rfl rfl (ov_move rfl rfl) <| rl_v rfl rfl rfl (ov_add rfl rfl rfl (by omega)) ?_
  refine rl_v rfl rfl rfl (ov_fieldS rfl Tryz.underlying58 rfl (fo := 2) rfl (by kernel_rfl) rfl) ?_
  refine rl_v rfl rfl rfl (ov_load rfl Tryz.underlying3 rfl rfl (by exact (hOp.sub sub_l2).cellL 0 rfl (off := 2) rfl)) ?_
  refine rl_call callable_55 rfl rfl rfl rfl rfl rfl (connect_any L 0 (1 + (i : Int)) (l.len i) _ (Int.le_refl _) (by omega) (by omega) (by omega) (by omega) (by omega) (by omega) (fun t _ _ => by have := hob t; omega) hT hr hOp) (fun e25 w26 hp27 => ?_)
  obtain ⟨rfl, pa2, pc2, cp2, HO2, hT2, hr2, hO3⟩ := hp27
  refine ⟨_, rfl, ?_⟩
  have hIs2 := hIs.conn (0, 1 + (i : Int), l.len i)
  have hG2 : (G.conn 0 (1 + (i : Int)) (l.len i)).Ok := hG.conn (Int.le_refl _) (by omega) (by omega) (by omega) (by omega) (by omega)
  have hFr2 := hFr.conn 0 (1 + (i : Int)) (l.len i)
  have hob2 := olb_conn (G := G) (m := l.len i) (show (0 : Int) ≠ 1 + (i : Int) by omega) hob
  refine rl_nil <| run_seq <| run_region <| rl_v rfl rfl rfl (ov_move rfl rfl) <| rl_v rfl rfl rfl (ov_nil rfl rfl) <| rl_v rfl rfl rfl (ov_fieldS rfl Tryz.underlying71 rfl (fo := 1) rfl (by kernel_rfl) rfl) ?_
  refine rl_v rfl rfl rfl (ov_load rfl Tryz.underlying37 rfl rfl (by exact hO3.cellL 0 rfl (off := 1) rfl)) ?_
  refine rl_v rfl rfl rfl (ov_len rfl Tryz.underlying37 rfl) <| rl_v rfl rfl rfl (ov_move rfl rfl) <| rl_nil <| run_block <| Run.keep [1, 5, 6, 7, 8, 9, 34, 35, 36, 50, 51, 52] (F' := [(1, _), (5, _), (6, _), (7, _), (8, _), (9, _), (34, _), (35, _), (36, _), (50, _), (51, _), (52, _)]) rfl <| run_loop1 (fun (k : Nat) => [(52, .int .i64 (k : Int))]) [1, 5, 6, 7, 8, 9, 34, 35, 36, 50, 51] (fun (k : Nat) (w28 : World) => k ≤ m ∧ ∃ (G : Net) (L : Int → Int) (pa : Option Addr) (pc : Nat) (cp : Option Blk) (HO : List (Option Blk)), Net.Is (l.n + m + 2) (l.arcI X m i ++ ((0, 1 + (i : Int), l.len i) :: l.arcK X i k)) G ∧ G.Ok ∧ G.Fresh L ∧ (∀ t : Int, G.OL t ≤ G.np) ∧ OTab (.slice (some ⟨ob, 0, none⟩) G.nn (l.n + m + 2)) 36 3 G.nn G.OL (fun t k => iv (G.OE t k)) HO ∧ SRow (.slice pa (2 * G.np) pc) 118 2 (2 * G.np) (pipF G L) cp ∧ Own w.heap.size w w28 (wkB wb la l.n lc sa m sc pa (2 * G.np) pc (some ⟨ob, 0, none⟩) G.nn (l.n + m + 2) 0 :: cp :: (HO ++ [cs, some (lch t9 58 (ldF l i))]))) (fun (k : Nat) => m - k) (0) ?_ (And.intro (by exact slot_int rfl (by first | omega)) (And.intro rfl (And.intro rfl (And.intro rfl (And.intro rfl (And.intro rfl (And.intro rfl (And.intro rfl (And.intro rfl (And.intro rfl (And.intro rfl (And.intro rfl trivial)))))))))))) ?_
  ·exact ⟨Nat.zero_le _, _, _, pa2, pc2, cp2, HO2, hIs2, hG2, hFr2, hob2, hT2, hr2, hO3⟩
  intro k w28 hIw28 ih29
  obtain ⟨hk1, G3, L3, pa3, pc3, cp3, HO3, hIs3, hG3, hFr3, hob3, hT3, hr3, hO4⟩ := hIw28
  show Run _ _ _ _ [(52, _), (1, _), (5, _), (6, _), (7, _), (8, _), (9, _), (34, _), (35, _), (36, _), (50, _), (51, _)] _ _
  refine run_seq <| run_region <| rl_v rfl rfl rfl (ov_lss rfl rfl rfl) <| rl_nil <| run_seq ?_
  first | refine run_cond_dec rfl (fun c2 => ?_) (fun c2 => ?_) | refine run_cond rfl (fun c2 => ?_) (fun c2 => ?_)
  ·have hGn3 := hIs3.nn
   have hGp3 := hIs3.np
   have hlK := l.arcK_len (X := X) (i : Int) k
   rw [List.length_append, List.length_cons] at hGp3
   have hXk := hXr k (by omega) (by omega) (by omega)
   have hXk1 := hXr (k + 1) (by omega) (by omega) (by omega)
   refine run_skip <| run_seq <| run_block <| run_seq <| run_region <| rl_v rfl rfl rfl (ov_move rfl rfl) <| rl_v rfl rfl rfl (ov_index rfl Tryz.underlying37 (by kernel_rfl) (s := 2) rfl rfl ⟨by omega, by omega⟩ (by exact hsa (by omega))) ?_
   refine rl_v rfl rfl rfl (ov_loadE rfl Tryz.underlying79 rfl (by kernel_rfl) rfl ⟨by omega, by omega⟩ rfl ((hsp.cellU (hO4.sub sub_l1) 0 rfl (hsa (by omega))))) ?_
   refine rl_ow rfl (ow_alloc [iv 0, iv 0] rfl rfl rfl zero_79 rfl hO4) ?_
   rintro _ w30 ⟨t11, rfl, hO31, hs32⟩
   refine rl_v rfl rfl rfl (ov_assign rfl rfl) <| rl_ow rfl (ow_storeW rfl rfl (by kernel_rfl) hO31 0 rfl rfl (by rfl) rfl (by rfl)) ?_
   rintro _ w33 ⟨rfl, hO34, hs35⟩
   refine rl_nil <| run_seq <| run_region_join 68 (.bool (decide (l.r i ≤ X k ∧ X (k + 1) ≤ l.d i))) [1, 5, 6, 7, 8, 9, 10, 11, 34, 35, 36, 50, 51, 52] (fun hk36 => ?_) ?_
   ·refine rl_v rfl rfl rfl (ov_indexA1 rfl Tryz.underlying79 (by kernel_rfl) rfl rfl ⟨by omega, by omega⟩) ?_
    refine rl_v rfl rfl rfl (ov_load rfl Tryz.underlying3 rfl rfl (by exact hO34.cellL 0 rfl (off := 0) rfl)) ?_
    refine rl_v rfl rfl rfl (ov_fieldS rfl Tryz.underlying58 rfl (fo := 0) rfl (by kernel_rfl) rfl) ?_
    refine rl_v rfl rfl rfl (ov_load rfl Tryz.underlying3 rfl rfl (by exact (hO34.tail.sub sub_l2).cellL 0 rfl (off := 0) rfl)) ?_
    refine rl_v rfl rfl rfl (ov_geq rfl rfl rfl) <| rl_v rfl rfl rfl (ov_move rfl rfl) ?_
    first | refine rl_split_dec 62 rfl (fun hg37 => ?_) (fun hg37 => ?_) | refine rl_split 62 rfl (fun hg37 => ?_) (fun hg37 => ?_)
    ·refine rl_gv rfl rfl rfl rfl rfl (ov_indexA1 rfl Tryz.underlying79 (by kernel_rfl) rfl rfl ⟨by omega, by omega⟩) ?_
     refine rl_gv rfl rfl rfl rfl rfl (ov_load rfl Tryz.underlying3 rfl rfl (by exact hO34.cellL 0 rfl (off := 1) rfl)) ?_
     refine rl_gv rfl rfl rfl rfl rfl (ov_fieldS rfl Tryz.underlying58 rfl (fo := 1) rfl (by kernel_rfl) rfl) ?_
     refine rl_gv rfl rfl rfl rfl rfl (ov_load rfl Tryz.underlying3 rfl rfl (by exact (hO34.tail.sub sub_l2).cellL 0 rfl (off := 1) rfl)) ?_
     refine rl_gv rfl rfl rfl rfl rfl (ov_leq rfl rfl rfl) <| rl_v rfl rfl rfl (ov_pick_t rfl rfl rfl) ?_
     refine rl_nil (hk36 _ (jbd rfl (by omega)) (And.intro rfl (And.intro rfl (And.intro rfl (And.intro rfl (And.intro rfl (And.intro rfl (And.intro rfl (And.intro rfl (And.intro rfl (And.intro rfl (And.intro rfl (And.intro rfl (And.intro rfl (And.intro rfl trivial)))))))))))))))
    ·refine rl_gskip rfl rfl rfl rfl rfl rfl <| rl_gskip rfl rfl rfl rfl rfl rfl <| rl_gskip rfl rfl rfl rfl rfl rfl <| rl_gskip rfl rfl rfl rfl rfl rfl <| rl_gskip rfl rfl rfl rfl rfl rfl <| rl_v rfl rfl rfl (ov_pick_f rfl rfl rfl) ?_
     refine rl_nil (hk36 _ (jbf rfl (by omega)) (And.intro rfl (And.intro rfl (And.intro rfl (And.intro rfl (And.intro rfl (And.intro rfl (And.intro rfl (And.intro rfl (And.intro rfl (And.intro rfl (And.intro rfl (And.intro rfl (And.intro rfl (And.intro rfl trivial)))))))))))))))
   ·show Run _ _ _ _ [(68, _), (1, _), (5, _), (6, _), (7, _), (8, _), (9, _), (10, _), (11, _), (34, _), (35, _), (36, _), (50, _), (51, _), (52, _)] _ _
    first | refine run_cond_dec rfl (fun c3 => ?_) (fun c3 => ?_) | refine run_cond rfl (fun c3 => ?_) (fun c3 => ?_)
    ·have hinc := hC.inc k (k + 1) (by omega) (by omega) (by omega)
     refine run_region <| rl_v rfl rfl rfl (ov_move rfl rfl) <| rl_v rfl rfl rfl (ov_move rfl rfl) <| rl_v rfl rfl rfl (ov_add rfl rfl rfl (by omega)) ?_
     refine rl_v rfl rfl rfl (ov_move rfl rfl) <| rl_v rfl rfl rfl (ov_add rfl rfl rfl (by omega)) ?_
     refine rl_v rfl rfl rfl (ov_move rfl rfl) <| rl_v rfl rfl rfl (ov_add rfl rfl rfl (by omega)) ?_
     refine rl_v rfl rfl rfl (ov_indexA1 rfl Tryz.underlying79 (by kernel_rfl) rfl rfl ⟨by omega, by omega⟩) ?_
     refine rl_v rfl rfl rfl (ov_load rfl Tryz.underlying3 rfl rfl (by exact hO34.cellL 0 rfl (off := 1) rfl)) ?_
     refine rl_v rfl rfl rfl (ov_indexA1 rfl Tryz.underlying79 (by kernel_rfl) rfl rfl ⟨by omega, by omega⟩) ?_
     refine rl_v rfl rfl rfl (ov_load rfl Tryz.underlying3 rfl rfl (by exact hO34.cellL 0 rfl (off := 0) rfl)) ?_
     refine rl_v rfl rfl rfl (ov_sub rfl rfl rfl (by omega)) ?_
     refine rl_call callable_55 rfl rfl rfl rfl rfl rfl (connect_any L3 (1 + (i : Int)) (1 + (l.n : Int) + k) (X (k + 1) - X k) _ (by omega) (by omega) (by omega) (by omega) (by omega) (by omega) (by omega) (fun t _ _ => by have := hob3 t; omega) hT3 hr3 hO34.tail) (fun e38 w39 hp40 => ?_)
     obtain ⟨rfl, pa4, pc4, cp4, HO4, hT4, hr4, hO5⟩ := hp40
     refine ⟨_, rfl, ?_⟩
     have hIs4 := hIs3.conn (1 + (i : Int), 1 + (l.n : Int) + k, X (k + 1) - X k)
     rw [List.append_assoc, List.cons_append, ← Lds.arcK_yes (l := l) (X := X) (i := (i : Int)) (k := k) c3] at hIs4
     have hG4 : (G3.conn (1 + (i : Int)) (1 + (l.n : Int) + k) (X (k + 1) - X k)).Ok := hG3.conn (by omega) (by omega) (by omega) (by omega) (by omega) (by omega)
     have hob4 := olb_conn (G := G3) (m := X (k + 1) - X k) (show 1 + (i : Int) ≠ 1 + (l.n : Int) + k by omega) hob3
     refine rl_nil <| run_inBlock <| run_region <| rl_v rfl rfl rfl (ov_add rfl rfl rfl (by omega)) ?_
     refine rl_v rfl rfl rfl (ov_move rfl rfl) <| rl_nil ?_
     refine Run.use (ih29 (k + 1) _ ?_ ?_) (And.intro (by exact slot_int rfl (by first | omega)) (And.intro rfl (And.intro rfl (And.intro rfl (And.intro rfl (And.intro rfl (And.intro rfl (And.intro rfl (And.intro rfl (And.intro rfl (And.intro rfl (And.intro rfl trivial))))))))))))
     ·first | omega | (dsimp only; omega)
     ·exact ⟨by omega, _, _, pa4, pc4, cp4, HO4, hIs4, hG4, hFr3.conn _ _ _, hob4, hT4, hr4, hO5⟩
    ·have hIs4 := hIs3
     rw [← Lds.arcK_no (l := l) (X := X) (i := (i : Int)) (k := k) c3] at hIs4
     refine run_skip <| run_inBlock <| run_region <| rl_v rfl rfl rfl (ov_add rfl rfl rfl (by omega)) ?_
     refine rl_v rfl rfl rfl (ov_move rfl rfl) <| rl_nil ?_
     refine Run.use (ih29 (k + 1) _ ?_ ?_) (And.intro (by exact slot_int rfl (by first | omega)) (And.intro rfl (And.intro rfl (And.intro rfl (And.intro rfl (And.intro rfl (And.intro rfl (And.intro rfl (And.intro rfl (And.intro rfl (And.intro rfl (And.intro rfl trivial))))))))))))
     ·first | omega | (dsimp only; omega)
     ·exact ⟨by omega, G3, L3, pa3, pc3, cp3, HO3, hIs4, hG3, hFr3, hob3, hT3, hr3, hO34.tail⟩
  ·have hkm : k = m := by omega
   subst hkm
   refine run_exit rfl <| run_inBlock <| run_region <| rl_v rfl rfl rfl (ov_add rfl rfl rfl (by omega)) ?_
   refine rl_v rfl rfl rfl (ov_move rfl rfl) <| rl_nil ?_
   refine Run.use (ih18 (i + 1) _ ?_ ?_) (And.intro (by exact slot_int rfl (by first | omega)) (And.intro rfl (And.intro rfl (And.intro rfl (And.intro rfl (And.intro rfl (And.intro rfl trivial)))))))
   ·first | omega | (dsimp only; omega)
   ·exact ⟨by omega, G3, L3, pa3, pc3, cp3, HO3, hIs3, hG3, hFr3, hob3, hT3, hr3, hO4.sub sub_ld⟩
 ·have hin : i = l.n := by omega
  rw [hin] at hIs
  refine run_exit rfl <| run_seq <| run_seq <| run_region <| rl_v rfl rfl rfl (ov_move rfl rfl) <| rl_v rfl rfl rfl (ov_nil rfl rfl) <| rl_v rfl rfl rfl (ov_fieldS rfl Tryz.underlying71 rfl (fo := 1) rfl (by kernel_rfl) rfl) ?_
  refine rl_v rfl rfl rfl (ov_load rfl Tryz.underlying37 rfl rfl (by exact hO2.cellL 0 rfl (off := 1) rfl)) ?_
  refine rl_v rfl rfl rfl (ov_len rfl Tryz.underlying37 rfl) <| rl_v rfl rfl rfl (ov_move rfl rfl) <| rl_nil <| run_block <| Run.keep [1, 5, 6, 7, 87, 88, 89] (F' := [(1, _), (5, _), (6, _), (7, _), (87, _), (88, _), (89, _)]) rfl <| run_loop1 (fun (k : Nat) => [(89, .int .i64 (k : Int))]) [1, 5, 6, 7, 87, 88] (fun (k : Nat) (w41 : World) => k ≤ m ∧ ∃ (G : Net) (L : Int → Int) (pa : Option Addr) (pc : Nat) (cp : Option Blk) (HO : List (Option Blk)), Net.Is (l.n + m + 2) (l.arcI X m l.n ++ l.arcS X m kilns k) G ∧ G.Ok ∧ G.Fresh L ∧ (∀ t : Int, G.OL t ≤ G.np) ∧ OTab (.slice (some ⟨ob, 0, none⟩) G.nn (l.n + m + 2)) 36 3 G.nn G.OL (fun t k => iv (G.OE t k)) HO ∧ SRow (.slice pa (2 * G.np) pc) 118 2 (2 * G.np) (pipF G L) cp ∧ Own w.heap.size w w41 (wkB wb la l.n lc sa m sc pa (2 * G.np) pc (some ⟨ob, 0, none⟩) G.nn (l.n + m + 2) 0 :: cp :: (HO ++ [cs]))) (fun (k : Nat) => m - k) (0) ?_ (And.intro (by exact slot_int rfl (by first | omega)) (And.intro rfl (And.intro rfl (And.intro rfl (And.intro rfl (And.intro rfl (And.intro rfl trivial))))))) ?_
  ·exact ⟨Nat.zero_le _, G, L, pa, pc, cp, HO, (by show Net.Is _ (l.arcI X m l.n ++ []) G; rw [List.append_nil]; exact hIs), hG, hFr, hob, hT, hr, hO2⟩
  intro k w41 hIw41 ih42
  obtain ⟨hk1, G3, L3, pa3, pc3, cp3, HO3, hIs3, hG3, hFr3, hob3, hT3, hr3, hO4⟩ := hIw41
  show Run _ _ _ _ [(89, _), (1, _), (5, _), (6, _), (7, _), (87, _), (88, _)] _ _
  have hGn3 := hIs3.nn
  have hGp3 := hIs3.np
  have hlI := hlenI l.n (Nat.le_refl _)
  rw [List.length_append, Lds.arcS_len] at hGp3
  refine run_seq <| run_region <| rl_v rfl rfl rfl (ov_lss rfl rfl rfl) <| rl_nil <| run_seq ?_
  first | refine run_cond_dec rfl (fun c2 => ?_) (fun c2 => ?_) | refine run_cond rfl (fun c2 => ?_) (fun c2 => ?_)
  ·have hXk := hXr k (by omega) (by omega) (by omega)
   have hXk1 := hXr (k + 1) (by omega) (by omega) (by omega)
   have hinc := hC.inc k (k + 1) (by omega) (by omega) (by omega)
   have hmul := mulb hk.1 hk.2 (show 0 ≤ X (k + 1) - X k by omega) (show X (k + 1) - X k ≤ 1000000000 by omega)
   refine run_skip <| run_seq <| run_block <| run_seq <| run_region <| rl_v rfl rfl rfl (ov_move rfl rfl) <| rl_v rfl rfl rfl (ov_index rfl Tryz.underlying37 (by kernel_rfl) (s := 2) rfl rfl ⟨by omega, by omega⟩ (by exact hsa (by omega))) ?_
   refine rl_v rfl rfl rfl (ov_loadE rfl Tryz.underlying79 rfl (by kernel_rfl) rfl ⟨by omega, by omega⟩ rfl ((hsp.cellU (hO4.sub sub_l0) 0 rfl (hsa (by omega))))) ?_
   refine rl_ow rfl (ow_alloc [iv 0, iv 0] rfl rfl rfl zero_79 rfl hO4) ?_
   rintro _ w43 ⟨t13, rfl, hO44, hs45⟩
   refine rl_v rfl rfl rfl (ov_assign rfl rfl) <| rl_ow rfl (ow_storeW rfl rfl (by kernel_rfl) hO44 0 rfl rfl (by rfl) rfl (by rfl)) ?_
   rintro _ w46 ⟨rfl, hO47, hs48⟩
   refine rl_nil <| run_region <| rl_v rfl rfl rfl (ov_move rfl rfl) <| rl_v rfl rfl rfl (ov_move rfl rfl) <| rl_v rfl rfl rfl (ov_add rfl rfl rfl (by omega)) ?_
   refine rl_v rfl rfl rfl (ov_move rfl rfl) <| rl_v rfl rfl rfl (ov_add rfl rfl rfl (by omega)) ?_
   refine rl_v rfl rfl rfl (ov_move rfl rfl) <| rl_v rfl rfl rfl (ov_move rfl rfl) <| rl_v rfl rfl rfl (ov_add rfl rfl rfl (by omega)) ?_
   refine rl_v rfl rfl rfl (ov_add rfl rfl rfl (by omega)) ?_
   refine rl_v rfl rfl rfl (ov_move rfl rfl) <| rl_v rfl rfl rfl (ov_indexA1 rfl Tryz.underlying79 (by kernel_rfl) rfl rfl ⟨by omega, by omega⟩) ?_
   refine rl_v rfl rfl rfl (ov_load rfl Tryz.underlying3 rfl rfl (by exact hO47.cellL 0 rfl (off := 1) rfl)) ?_
   refine rl_v rfl rfl rfl (ov_indexA1 rfl Tryz.underlying79 (by kernel_rfl) rfl rfl ⟨by omega, by omega⟩) ?_
   refine rl_v rfl rfl rfl (ov_load rfl Tryz.underlying3 rfl rfl (by exact hO47.cellL 0 rfl (off := 0) rfl)) ?_
   refine rl_v rfl rfl rfl (ov_sub rfl rfl rfl (by omega)) ?_
   refine rl_v rfl rfl rfl (ov_mul rfl rfl rfl (by show -9223372036854775808 ≤ kilns * (X (k + 1) - X k) ∧ kilns * (X (k + 1) - X k) ≤ 9223372036854775807; omega)) ?_
   refine rl_call callable_55 rfl rfl rfl rfl rfl rfl (connect_any L3 (1 + (l.n : Int) + k) ((l.n : Int) + m + 1) (kilns * (X (k + 1) - X k)) _ (by omega) (by omega) (by omega) (by omega) (by omega) (by omega) (by omega) (fun t _ _ => by have := hob3 t; omega) hT3 hr3 hO47.tail) (fun e49 w50 hp51 => ?_)
   obtain ⟨rfl, pa4, pc4, cp4, HO4, hT4, hr4, hO5⟩ := hp51
   refine ⟨_, rfl, ?_⟩
   have hIs4 := hIs3.conn (1 + (l.n : Int) + k, (l.n : Int) + m + 1, kilns * (X (k + 1) - X k))
   rw [List.append_assoc] at hIs4
   have hG4 : (G3.conn (1 + (l.n : Int) + k) ((l.n : Int) + m + 1) (kilns * (X (k + 1) - X k))).Ok := hG3.conn (by omega) (by omega) (by omega) (by omega) (by omega) hmul.1
   have hob4 := olb_conn (G := G3) (m := kilns * (X (k + 1) - X k)) (show 1 + (l.n : Int) + k ≠ (l.n : Int) + m + 1 by omega) hob3
   refine rl_nil <| run_inBlock <| run_region <| rl_v rfl rfl rfl (ov_add rfl rfl rfl (by omega)) ?_
   refine rl_v rfl rfl rfl (ov_move rfl rfl) <| rl_nil ?_
   refine Run.use (ih42 (k + 1) _ ?_ ?_) (And.intro (by exact slot_int rfl (by first | omega)) (And.intro rfl (And.intro rfl (And.intro rfl (And.intro rfl (And.intro rfl (And.intro rfl trivial)))))))
   ·first | omega | (dsimp only; omega)
   ·exact ⟨by omega, _, _, pa4, pc4, cp4, HO4, hIs4, hG4, hFr3.conn _ _ _, hob4, hT4, hr4, hO5⟩
  ·have hkm : k = m := by omega
   rw [hkm] at hIs3 hGp3
   have hB : Built l c X kilns G3 := ⟨hC, by rw [← hm]; exact hIs3, hG3⟩
   have hSm : G3.Sm := by
    refine ⟨by omega, by omega, fun j j0 j1 => ?_, fun t _ _ => by have := hob3 t; omega⟩
    rcases hB.kind j0 j1 with ⟨i', hi', e⟩ | ⟨i', k', hi', hk', _, e⟩ | ⟨k', hk', e⟩
    ·simp only [Prod.mk.injEq] at e
     have h2 := hF.len2 i' hi'.1 hi'.2
     have h3 := hF.dM i' hi'.1 hi'.2
     have h4 := hF.r0 i' hi'.1 hi'.2
     omega
    ·simp only [Prod.mk.injEq] at e
     have h2 := hXr k' (by omega) (by omega) (by omega)
     have h3 := hXr (k' + 1) (by omega) (by omega) (by omega)
     omega
    ·simp only [Prod.mk.injEq] at e
     have h2 := hXr k' (by omega) (by omega) (by omega)
     have h3 := hXr (k' + 1) (by omega) (by omega) (by omega)
     have h5 := hC.inc k' (k' + 1) (by omega) (by omega) (by omega)
     have h4 := mulb hk.1 hk.2 (show 0 ≤ X (k' + 1) - X k' by omega) (show X (k' + 1) - X k' ≤ 1000000000 by omega)
     omega
   have hneed : sm l.len l.n ≤ (l.n : Int) * 1000000000 := sm_bound _ (by omega) fun i i0 i1 => by
    have h2 := hF.len2 i i0 i1
    have h3 := hF.dM i i0 i1
    have h4 := hF.r0 i i0 i1
    omega
   refine run_exit rfl <| run_seq <| run_region <| rl_v rfl rfl rfl (ov_move rfl rfl) ?_
   refine rl_call callable_56 rfl rfl rfl rfl rfl rfl (fill_any hG3 hSm (hT3.town.sub (List.sublist_append_left _ _)) (sm l.len l.n) (by omega) (fun L' fl' hf => hB.fl_le hf) L3 0 cp3 _ (hFr3.flow hG3) (Int.le_refl _) hr3 hO4) (fun e52 w53 hp54 => ?_)
   obtain ⟨rfl, L5, fl5, cp5, LV, hF5, hf5, hLV, hcut, hr5, hO6⟩ := hp54
   refine ⟨_, rfl, ?_⟩
   refine rl_nil <| run_seq <| run_region <| rl_v rfl rfl rfl (ov_move rfl rfl) <| rl_v rfl rfl rfl (ov_assign rfl rfl) <| rl_nil <| run_ret Tryz.func25 (res1 Tryz.results25 rfl) ?_
   exact ⟨wb, c, X, G3, L5, fl5, LV, sa, sc, pa3, pc3, some ⟨ob, 0, none⟩, l.n + m + 2, cp5, HO3, cs, rfl, ⟨hB, hSm, hF5, hf5, hLV, hcut, hr5, hT3, by rw [← hm]; exact hsp⟩, by rw [← hm]; exact hO6⟩
end Go.Proofs.YtbepolognfdkeaaGreat
