import Derived.Test.YtbepolognfdkeaaGreatGbF
import Derived.Test.YtbepolognfdkeaaGreatRgf
import Derived.Test.YtbepolognfdkeaaGreatGaN
import Derived.Test.YtbepolognfdkeaaGreatStr
import Derived.Shelf.SlSortCmp.NoneTotal
import Derived.Shelf.SlSortCmp.WholeK
import Derived.Ground.SlsfProg
set_option maxRecDepth 100000
namespace Go.Proofs.YtbepolognfdkeaaGreat
open Go.RowKit Go.Proofs Go.MapKept
theorem need_any (la : Option Addr) (lc : Nat) (l : Lds) (w : World) (hn : l.n ≤ 256) (hF : ∀ i : Int, 0 ≤ i → i < l.n → 0 ≤ l.len i ∧ l.len i ≤ 1000000000) (hl : SAt w.heap.size w la 4 l.n (ldF l)) :
  Calls Tryz.prog 26 #[.slice la l.n lc] w fun e w' => e = .returned (iv (sm l.len l.n)) ∧ Own w.heap.size w w' [] := by
 obtain ⟨lb, lo, hla, hlr⟩ := hl.open (by decide)
 refine calls_of_run (F := [(0, _)]) Tryz.func26 rfl Tryz.ntmps26 rfl rfl ?_
 have hO0 := Own.init w
 refine run_seq <| run_region <| rl_v rfl rfl rfl (ov_assign rfl rfl) <| rl_nil <| run_seq <| run_region <| rl_v rfl rfl rfl (ov_assign rfl rfl) <| rl_nil <| run_seq <| run_seq <| run_region <| rl_v rfl rfl rfl (ov_move rfl rfl) <| rl_v rfl rfl rfl (ov_len rfl Tryz.underlying24 rfl) <| rl_v rfl rfl rfl (ov_move rfl rfl) <| rl_nil <| run_block <| Run.keep [3, 6, 7, 8] (F' := [(3, _), (6, _), (7, _), (8, _)]) rfl <| run_loop2 (fun (i : Nat) (s : Int) => [(8, .int .i64 (i : Int)), (3, .int .i64 s)]) [6, 7] (fun (i : Nat) (s : Int) (w1 : World) => i ≤ l.n ∧ s = sm l.len i ∧ Own w.heap.size w w1 []) (fun (i : Nat) (s : Int) => l.n - i) (0) (0) ?_ (And.intro (by exact slot_int rfl (by first | omega)) (And.intro (by exact slot_int rfl (by first | omega)) (And.intro rfl (And.intro rfl trivial)))) ?_
 ·exact ⟨Nat.zero_le _, rfl, hO0⟩
 intro i s w1 hIw1 ih2
 obtain ⟨hi, hs, hO1⟩ := hIw1
 show Run _ _ _ _ [(8, _), (3, _), (6, _), (7, _)] _ _
 refine run_seq <| run_region <| rl_v rfl rfl rfl (ov_lss rfl rfl rfl) <| rl_nil <| run_seq ?_
 first | refine run_cond_dec rfl (fun c1 => ?_) (fun c1 => ?_) | refine run_cond rfl (fun c1 => ?_) (fun c1 => ?_)
 ·refine run_skip <| run_seq <| run_block <| run_seq <| run_region <| rl_v rfl rfl rfl (ov_index rfl Tryz.underlying24 (by kernel_rfl) (s := 4) rfl rfl ⟨by omega, by omega⟩ (by exact hla (by omega))) ?_
  refine rl_v rfl rfl rfl (ov_loadE rfl Tryz.underlying58 rfl (by kernel_rfl) rfl ⟨by omega, by omega⟩ rfl (hlr _ hO1.below)) ?_
  refine rl_ow rfl (ow_alloc _ rfl rfl rfl zero_58 rfl hO1) ?_
  rintro _ w3 ⟨b5, rfl, hO4, hs5⟩
  refine rl_ow rfl (ow_storeW rfl rfl (by kernel_rfl) hO4 0 rfl rfl (by rfl) rfl (by rfl)) ?_
  rintro _ w6 ⟨rfl, hO7, hs8⟩
  have hs0 : 0 ≤ sm l.len i := sm_nonneg fun j j0 j1 => (hF j j0 (by omega)).1
  have hs1 := sm_bound (f := l.len) (k := i) 1000000000 (by omega) fun j j0 j1 => (hF j j0 (by omega)).2
  have hli := hF i (by omega) c1
  have hsu : sm l.len i + l.len i = sm l.len ((i + 1 : Nat) : Int) := by rw [show ((i + 1 : Nat) : Int) = (i : Int) + 1 by omega, sm_succ _ (by omega)]
  refine rl_nil <| run_region <| rl_v rfl rfl rfl (ov_move rfl rfl) <| rl_v rfl rfl rfl (ov_fieldS rfl Tryz.underlying58 rfl (fo := 2) rfl (by kernel_rfl) rfl) ?_
  refine rl_v rfl rfl rfl (ov_load rfl Tryz.underlying3 rfl rfl (by exact hO7.cellL 0 rfl (off := 2) rfl)) ?_
  refine rl_v rfl rfl rfl (ov_add rfl rfl rfl (by omega)) ?_
  refine rl_v rfl rfl rfl (ov_assign rfl rfl) <| rl_nil <| run_inBlock <| run_region <| rl_v rfl rfl rfl (ov_add rfl rfl rfl (by omega)) ?_
  refine rl_v rfl rfl rfl (ov_move rfl rfl) <| rl_nil ?_
  refine Run.use (ih2 (i + 1) (s + l.len i) _ ?_ ?_) (And.intro (by exact slot_int rfl (by first | omega)) (And.intro (by exact slot_int rfl (by first | omega)) (And.intro rfl (And.intro rfl trivial))))
  ·first | omega | (dsimp only; omega)
  ·exact ⟨by omega, by rw [hs, hsu], hO7.tail⟩
 ·have hin : i = l.n := by omega
  subst hin
  subst hs
  refine run_exit rfl <| run_seq <| run_region <| rl_v rfl rfl rfl (ov_move rfl rfl) <| rl_v rfl rfl rfl (ov_assign rfl rfl) <| rl_nil <| run_ret Tryz.func26 (res1 Tryz.results26 rfl) ?_
  exact ⟨rfl, hO1⟩
theorem fits_val {l : Lds} {c : Nat} {X : Int → Int} {kilns : Int} {G : Net} {L : Int → Int} {fl : Int} {LV : Int → Int} {sa : Option Addr} {sc : Nat} {pa : Option Addr} {pc : Nat} {oa : Option Addr} {oc : Nat} {cp : Option Blk} {HO : List (Option Blk)} {cs : Option Blk} (hF : l.Fit 1000000000) (hk : 0 ≤ kilns) (h : WkO l c X kilns G L fl LV sa sc pa pc oa oc cp HO cs) : fl = sm l.len l.n ↔ l.Can kilns := h.b.can hF hk h.f h.lev h.cut
noncomputable instance (l : Lds) (k : Int) : Decidable (l.Can k) := Classical.propDecidable _
theorem fits_any (la : Option Addr) (lc : Nat) (l : Lds) (kilns : Int) (w : World) (hn : l.n ≤ 256) (hF : l.Fit 1000000000) (hk : 0 ≤ kilns ∧ kilns ≤ 1000) (hl : SAt w.heap.size w la 4 l.n (ldF l)) :
  Calls Tryz.prog 24 #[.slice la l.n lc, iv kilns] w fun e w' => e = .returned (.bool (decide (l.Can kilns))) ∧ (¬ l.Can kilns → l.Cr kilns) ∧ Own w.heap.size w w' [] := by
 have hF2 : ∀ i : Int, 0 ≤ i → i < l.n → 0 ≤ l.len i ∧ l.len i ≤ 1000000000 := fun i i0 i1 => by
  have h1 := hF.len1 i i0 i1
  have h2 := hF.len2 i i0 i1
  have h3 := hF.dM i i0 i1
  have h4 := hF.r0 i i0 i1
  omega
 refine calls_of_run (F := [(0, _), (1, _)]) Tryz.func24 rfl Tryz.ntmps24 rfl rfl ?_
 have hO0 := Own.init w
 refine run_seq <| run_region <| rl_v rfl rfl rfl (ov_assign rfl rfl) <| rl_nil <| run_seq <| run_held (fun w' => Own w.heap.size w w' ([])) mixed ?_
 have hO2 := hO0.drew
 generalize World.drew w = w1 at hO2 ⊢
 have hS3 : Own w.heap.size w w1 ([]) := by exact hO2.sub (List.nil_sublist _)
 refine rh_v 0 rfl (by kernel_rfl) rfl rfl rfl hS3 (fun _ hS => ov_move rfl rfl) ?_
 refine rh_v 1 rfl (by kernel_rfl) rfl rfl rfl hS3 (fun _ hS => ov_move rfl rfl) ?_
 refine rh_v 6 rfl (by kernel_rfl) rfl rfl rfl hS3 (fun _ hS => ov_move rfl rfl) ?_
 refine rh_any1 2 (by kernel_rfl) ?_
 refine rc_op rfl rfl (ow_call2 callable_25 rfl rfl rfl rfl rfl (newWorks_any la lc l kilns _ hn hF hk (hO2.satU hl)) (by intro e w' hp; obtain ⟨wb, c, X, G, L, fl, LV, sa, sc, pa, pc, oa, oc, cp, HO, cs, rfl, hW, hO1⟩ := hp; exact ⟨_, rfl⟩)) ?_
 rintro _ w6 ⟨_, v4, he7, rfl, hp5⟩
 obtain ⟨wb, c, X, G, L, fl, LV, sa, sc, pa, pc, oa, oc, cp, HO, cs, rfl, hW, hO1⟩ := hp5
 injection he7 with he7; subst he7
 have hO8 := hO2.join hO1
 have hS9 : Own w.heap.size w w6 ([]) := by exact hO8.sub (List.nil_sublist _)
 refine ⟨hS9, ?_⟩
 refine rh_v 3 rfl (by kernel_rfl) rfl rfl rfl hS9 (fun _ hS => ov_nil rfl rfl) ?_
 refine rh_v 4 rfl (by kernel_rfl) rfl rfl rfl hS9 (fun _ hS => ov_fieldS rfl Tryz.underlying71 rfl (fo := 4) rfl (by kernel_rfl) rfl) ?_
 refine rh_any2 5 7 (by kernel_rfl) ?_ ?_
 ·refine rc_op rfl rfl (ow_v rfl rfl (ov_load rfl Tryz.underlying3 rfl rfl (by exact hO8.cellL 0 rfl (off := 4) rfl))) ?_
  rintro _ _ ⟨rfl, hw10⟩
  replace hw10 := hw10.symm; subst hw10
  refine ⟨hS9, ?_⟩
  refine rh_any1 7 (by kernel_rfl) ?_
  refine rc_op rfl rfl (ow_call2 callable_26 rfl rfl rfl rfl rfl (need_any la lc l _ hn hF2 (hO8.satU hl)) (by intro e w' hp; obtain ⟨rfl, hO2⟩ := hp; exact ⟨_, rfl⟩)) ?_
  rintro _ w13 ⟨_, v11, he14, rfl, hp12⟩
  obtain ⟨rfl, hO2⟩ := hp12
  injection he14 with he14; subst he14
  have hO15 := hO8.join hO2
  have hS16 : Own w.heap.size w w13 ([]) := by exact hO15.sub (List.nil_sublist _)
  refine ⟨hS16, ?_⟩
  refine rh_v 8 rfl (by kernel_rfl) rfl rfl rfl hS16 (fun _ hS => ov_eql rfl rfl rfl) ?_
  refine rh_v 9 rfl (by kernel_rfl) rfl rfl rfl hS16 (fun _ hS => ov_assign rfl rfl) ?_
  refine rh_done (by kernel_rfl) ?_
  refine run_ret Tryz.func24 (res1 Tryz.results24 rfl) ?_
  exact ⟨by rw [decide_eq_decide.2 (fits_val hF hk.1 hW)], fun hc => hW.b.cr hF hW.f hW.lev hW.cut fun h => hc ((fits_val hF hk.1 hW).1 h), hO15.sub (List.nil_sublist _)⟩
 ·refine rc_op rfl rfl (ow_call2 callable_26 rfl rfl rfl rfl rfl (need_any la lc l _ hn hF2 (hO8.satU hl)) (by intro e w' hp; obtain ⟨rfl, hO2⟩ := hp; exact ⟨_, rfl⟩)) ?_
  rintro _ w19 ⟨_, v17, he20, rfl, hp18⟩
  obtain ⟨rfl, hO2⟩ := hp18
  injection he20 with he20; subst he20
  have hO21 := hO8.join hO2
  have hS22 : Own w.heap.size w w19 ([]) := by exact hO21.sub (List.nil_sublist _)
  refine ⟨hS22, ?_⟩
  refine rh_any1 5 (by kernel_rfl) ?_
  refine rc_op rfl rfl (ow_v rfl rfl (ov_load rfl Tryz.underlying3 rfl rfl (by exact hO21.cellL 0 rfl (off := 4) rfl))) ?_
  rintro _ _ ⟨rfl, hw23⟩
  replace hw23 := hw23.symm; subst hw23
  refine ⟨hS22, ?_⟩
  refine rh_v 8 rfl (by kernel_rfl) rfl rfl rfl hS22 (fun _ hS => ov_eql rfl rfl rfl) ?_
  refine rh_v 9 rfl (by kernel_rfl) rfl rfl rfl hS22 (fun _ hS => ov_assign rfl rfl) ?_
  refine rh_done (by kernel_rfl) ?_
  refine run_ret Tryz.func24 (res1 Tryz.results24 rfl) ?_
  exact ⟨by rw [decide_eq_decide.2 (fits_val hF hk.1 hW)], fun hc => hW.b.cr hF hW.f hW.lev hW.cut fun h => hc ((fits_val hF hk.1 hW).1 h), hO21.sub (List.nil_sublist _)⟩
end Go.Proofs.YtbepolognfdkeaaGreat
set_option maxRecDepth 100000
namespace Go.Proofs.YtbepolognfdkeaaGreat
open Go.RowKit Go.Proofs Go.MapKept
theorem check7_any (la : Option Addr) (lc : Nat) (l : Lds) (w : World) (hn : l.n ≤ 100000) (hI : l.I64) (hl : SAt w.heap.size w la 4 l.n (ldF l)) :
  Calls Tryz.prog 8 #[.slice la l.n lc] w fun e w' => e = .returned (iv l.chk) ∧ Own w.heap.size w w' [] := by
 obtain ⟨lb, lo, hla, hlr⟩ := hl.open (by decide)
 refine calls_of_run (F := [(0, _)]) Tryz.func8 rfl Tryz.ntmps8 rfl rfl ?_
 have hO0 := Own.init w
 refine run_seq <| run_region <| rl_v rfl rfl rfl (ov_assign rfl rfl) <| rl_nil <| run_seq <| run_seq <| run_region <| rl_v rfl rfl rfl (ov_move rfl rfl) <| rl_v rfl rfl rfl (ov_len rfl Tryz.underlying24 rfl) <| rl_v rfl rfl rfl (ov_gtr rfl rfl rfl) <| rl_nil ?_
 first | refine run_cond_dec rfl (fun c0 => ?_) (fun c0 => ?_) | refine run_cond rfl (fun c0 => ?_) (fun c0 => ?_)
 ·rw [Lds.chk_long (by omega)]
  refine run_seq <| run_region <| rl_v rfl rfl rfl (ov_assign rfl rfl) <| rl_nil <| run_ret Tryz.func8 (res1 Tryz.results8 rfl) ?_
  exact ⟨rfl, hO0⟩
 ·refine run_skip <| run_seq <| run_seq <| run_region <| rl_v rfl rfl rfl (ov_move rfl rfl) <| rl_v rfl rfl rfl (ov_len rfl Tryz.underlying24 rfl) <| rl_v rfl rfl rfl (ov_move rfl rfl) <| rl_nil <| run_block <| Run.keep [8, 9, 10] (F' := [(8, _), (9, _), (10, _)]) rfl <| run_loop1 (fun (i : Nat) => [(10, .int .i64 (i : Int))]) [8, 9] (fun (i : Nat) (w1 : World) => i ≤ l.n ∧ (∀ j : Int, 0 ≤ j → j < i → l.Val j) ∧ Own w.heap.size w w1 []) (fun (i : Nat) => l.n - i) (0) ?_ (And.intro (by exact slot_int rfl (by first | omega)) (And.intro rfl (And.intro rfl trivial))) ?_
  ·exact ⟨Nat.zero_le _, fun j a b => by omega, hO0⟩
  intro i w1 hIw1 ih2
  obtain ⟨hi, hv, hO1⟩ := hIw1
  show Run _ _ _ _ [(10, _), (8, _), (9, _)] _ _
  refine run_seq <| run_region <| rl_v rfl rfl rfl (ov_lss rfl rfl rfl) <| rl_nil <| run_seq ?_
  first | refine run_cond_dec rfl (fun c1 => ?_) (fun c1 => ?_) | refine run_cond rfl (fun c1 => ?_) (fun c1 => ?_)
  ·have h1 := hI.r i (by omega) c1
   have h2 := hI.d i (by omega) c1
   have h3 := hI.len i (by omega) c1
   have h4 := hI.wo i (by omega) c1
   refine run_skip <| run_seq <| run_block <| run_seq <| run_region <| rl_v rfl rfl rfl (ov_index rfl Tryz.underlying24 (by kernel_rfl) (s := 4) rfl rfl ⟨by omega, by omega⟩ (by exact hla (by omega))) ?_
   refine rl_v rfl rfl rfl (ov_loadE rfl Tryz.underlying58 rfl (by kernel_rfl) rfl ⟨by omega, by omega⟩ rfl (hlr _ hO1.below)) ?_
   refine rl_ow rfl (ow_alloc _ rfl rfl rfl zero_58 rfl hO1) ?_
   rintro _ w3 ⟨b5, rfl, hO4, hs5⟩
   refine rl_ow rfl (ow_storeW rfl rfl (by kernel_rfl) hO4 0 rfl rfl (by rfl) rfl (by rfl)) ?_
   rintro _ w6 ⟨rfl, hO7, hs8⟩
   refine rl_nil <| run_seq <| run_region_join 53 (.bool (decide (¬ (0 ≤ l.r i ∧ l.r i < l.d i ∧ l.d i ≤ 1000000 ∧ 1 ≤ l.len i ∧ l.len i ≤ l.d i - l.r i ∧ 0 ≤ l.wo i ∧ l.wo i ≤ 1000000)))) [8, 9, 10] (fun hk9 => ?_) ?_
   ·refine rl_v rfl rfl rfl (ov_fieldS rfl Tryz.underlying58 rfl (fo := 0) rfl (by kernel_rfl) rfl) ?_
    refine rl_v rfl rfl rfl (ov_load rfl Tryz.underlying3 rfl rfl (by exact hO7.cellL 0 rfl (off := 0) rfl)) ?_
    refine rl_v rfl rfl rfl (ov_lss rfl rfl rfl) <| rl_v rfl rfl rfl (ov_move rfl rfl) ?_
    first | refine rl_split_dec 17 rfl (fun hg10 => ?_) (fun hg10 => ?_) | refine rl_split 17 rfl (fun hg10 => ?_) (fun hg10 => ?_)
    ·refine rl_gskip rfl rfl rfl rfl rfl rfl <| rl_gskip rfl rfl rfl rfl rfl rfl <| rl_gskip rfl rfl rfl rfl rfl rfl <| rl_gskip rfl rfl rfl rfl rfl rfl <| rl_gskip rfl rfl rfl rfl rfl rfl <| rl_v rfl rfl rfl (ov_pick_t rfl rfl rfl) <| rl_v rfl rfl rfl (ov_move rfl rfl) <| rl_gskip rfl rfl rfl rfl rfl rfl <| rl_gskip rfl rfl rfl rfl rfl rfl <| rl_gskip rfl rfl rfl rfl rfl rfl <| rl_v rfl rfl rfl (ov_pick_t rfl rfl rfl) <| rl_v rfl rfl rfl (ov_move rfl rfl) <| rl_gskip rfl rfl rfl rfl rfl rfl <| rl_gskip rfl rfl rfl rfl rfl rfl <| rl_gskip rfl rfl rfl rfl rfl rfl <| rl_v rfl rfl rfl (ov_pick_t rfl rfl rfl) <| rl_v rfl rfl rfl (ov_move rfl rfl) <| rl_gskip rfl rfl rfl rfl rfl rfl <| rl_gskip rfl rfl rfl rfl rfl rfl <| rl_gskip rfl rfl rfl rfl rfl rfl <| rl_gskip rfl rfl rfl rfl rfl rfl <| rl_gskip rfl rfl rfl rfl rfl rfl <| rl_gskip rfl rfl rfl rfl rfl rfl <| rl_gskip rfl rfl rfl rfl rfl rfl ?_
     refine rl_gskip rfl rfl rfl rfl rfl rfl <| rl_v rfl rfl rfl (ov_pick_t rfl rfl rfl) <| rl_v rfl rfl rfl (ov_move rfl rfl) <| rl_gskip rfl rfl rfl rfl rfl rfl <| rl_gskip rfl rfl rfl rfl rfl rfl <| rl_gskip rfl rfl rfl rfl rfl rfl <| rl_v rfl rfl rfl (ov_pick_t rfl rfl rfl) <| rl_v rfl rfl rfl (ov_move rfl rfl) <| rl_gskip rfl rfl rfl rfl rfl rfl <| rl_gskip rfl rfl rfl rfl rfl rfl <| rl_gskip rfl rfl rfl rfl rfl rfl <| rl_v rfl rfl rfl (ov_pick_t rfl rfl rfl) ?_
     refine rl_nil (hk9 _ (jbt rfl (by omega)) (And.intro rfl (And.intro rfl (And.intro rfl trivial))))
    ·refine rl_gv rfl rfl rfl rfl rfl (ov_fieldS rfl Tryz.underlying58 rfl (fo := 1) rfl (by kernel_rfl) rfl) ?_
     refine rl_gv rfl rfl rfl rfl rfl (ov_load rfl Tryz.underlying3 rfl rfl (by exact hO7.cellL 0 rfl (off := 1) rfl)) ?_
     refine rl_gv rfl rfl rfl rfl rfl (ov_fieldS rfl Tryz.underlying58 rfl (fo := 0) rfl (by kernel_rfl) rfl) ?_
     refine rl_gv rfl rfl rfl rfl rfl (ov_load rfl Tryz.underlying3 rfl rfl (by exact hO7.cellL 0 rfl (off := 0) rfl)) ?_
     refine rl_gv rfl rfl rfl rfl rfl (ov_leq rfl rfl rfl) <| rl_v rfl rfl rfl (ov_pick_f rfl rfl rfl) <| rl_v rfl rfl rfl (ov_move rfl rfl) ?_
     first | refine rl_split_dec 24 rfl (fun hg11 => ?_) (fun hg11 => ?_) | refine rl_split 24 rfl (fun hg11 => ?_) (fun hg11 => ?_)
     ·refine rl_gskip rfl rfl rfl rfl rfl rfl <| rl_gskip rfl rfl rfl rfl rfl rfl <| rl_gskip rfl rfl rfl rfl rfl rfl <| rl_v rfl rfl rfl (ov_pick_t rfl rfl rfl) <| rl_v rfl rfl rfl (ov_move rfl rfl) <| rl_gskip rfl rfl rfl rfl rfl rfl <| rl_gskip rfl rfl rfl rfl rfl rfl <| rl_gskip rfl rfl rfl rfl rfl rfl <| rl_v rfl rfl rfl (ov_pick_t rfl rfl rfl) <| rl_v rfl rfl rfl (ov_move rfl rfl) <| rl_gskip rfl rfl rfl rfl rfl rfl <| rl_gskip rfl rfl rfl rfl rfl rfl <| rl_gskip rfl rfl rfl rfl rfl rfl <| rl_gskip rfl rfl rfl rfl rfl rfl <| rl_gskip rfl rfl rfl rfl rfl rfl <| rl_gskip rfl rfl rfl rfl rfl rfl <| rl_gskip rfl rfl rfl rfl rfl rfl <| rl_gskip rfl rfl rfl rfl rfl rfl <| rl_v rfl rfl rfl (ov_pick_t rfl rfl rfl) <| rl_v rfl rfl rfl (ov_move rfl rfl) <| rl_gskip rfl rfl rfl rfl rfl rfl <| rl_gskip rfl rfl rfl rfl rfl rfl <| rl_gskip rfl rfl rfl rfl rfl rfl <| rl_v rfl rfl rfl (ov_pick_t rfl rfl rfl) ?_
      refine rl_v rfl rfl rfl (ov_move rfl rfl) <| rl_gskip rfl rfl rfl rfl rfl rfl <| rl_gskip rfl rfl rfl rfl rfl rfl <| rl_gskip rfl rfl rfl rfl rfl rfl <| rl_v rfl rfl rfl (ov_pick_t rfl rfl rfl) ?_
      refine rl_nil (hk9 _ (jbt rfl (by omega)) (And.intro rfl (And.intro rfl (And.intro rfl trivial))))
     ·refine rl_gv rfl rfl rfl rfl rfl (ov_fieldS rfl Tryz.underlying58 rfl (fo := 1) rfl (by kernel_rfl) rfl) ?_
      refine rl_gv rfl rfl rfl rfl rfl (ov_load rfl Tryz.underlying3 rfl rfl (by exact hO7.cellL 0 rfl (off := 1) rfl)) ?_
      refine rl_gv rfl rfl rfl rfl rfl (ov_gtr rfl rfl rfl) <| rl_v rfl rfl rfl (ov_pick_f rfl rfl rfl) <| rl_v rfl rfl rfl (ov_move rfl rfl) ?_
      first | refine rl_split_dec 29 rfl (fun hg12 => ?_) (fun hg12 => ?_) | refine rl_split 29 rfl (fun hg12 => ?_) (fun hg12 => ?_)
      ·refine rl_gskip rfl rfl rfl rfl rfl rfl <| rl_gskip rfl rfl rfl rfl rfl rfl <| rl_gskip rfl rfl rfl rfl rfl rfl <| rl_v rfl rfl rfl (ov_pick_t rfl rfl rfl) <| rl_v rfl rfl rfl (ov_move rfl rfl) <| rl_gskip rfl rfl rfl rfl rfl rfl <| rl_gskip rfl rfl rfl rfl rfl rfl <| rl_gskip rfl rfl rfl rfl rfl rfl <| rl_gskip rfl rfl rfl rfl rfl rfl <| rl_gskip rfl rfl rfl rfl rfl rfl <| rl_gskip rfl rfl rfl rfl rfl rfl <| rl_gskip rfl rfl rfl rfl rfl rfl <| rl_gskip rfl rfl rfl rfl rfl rfl <| rl_v rfl rfl rfl (ov_pick_t rfl rfl rfl) <| rl_v rfl rfl rfl (ov_move rfl rfl) <| rl_gskip rfl rfl rfl rfl rfl rfl <| rl_gskip rfl rfl rfl rfl rfl rfl <| rl_gskip rfl rfl rfl rfl rfl rfl <| rl_v rfl rfl rfl (ov_pick_t rfl rfl rfl) <| rl_v rfl rfl rfl (ov_move rfl rfl) <| rl_gskip rfl rfl rfl rfl rfl rfl <| rl_gskip rfl rfl rfl rfl rfl rfl <| rl_gskip rfl rfl rfl rfl rfl rfl <| rl_v rfl rfl rfl (ov_pick_t rfl rfl rfl) ?_
       refine rl_nil (hk9 _ (jbt rfl (by omega)) (And.intro rfl (And.intro rfl (And.intro rfl trivial))))
      ·refine rl_gv rfl rfl rfl rfl rfl (ov_fieldS rfl Tryz.underlying58 rfl (fo := 2) rfl (by kernel_rfl) rfl) ?_
       refine rl_gv rfl rfl rfl rfl rfl (ov_load rfl Tryz.underlying3 rfl rfl (by exact hO7.cellL 0 rfl (off := 2) rfl)) ?_
       refine rl_gv rfl rfl rfl rfl rfl (ov_lss rfl rfl rfl) <| rl_v rfl rfl rfl (ov_pick_f rfl rfl rfl) <| rl_v rfl rfl rfl (ov_move rfl rfl) ?_
       first | refine rl_split_dec 34 rfl (fun hg13 => ?_) (fun hg13 => ?_) | refine rl_split 34 rfl (fun hg13 => ?_) (fun hg13 => ?_)
       ·refine rl_gskip rfl rfl rfl rfl rfl rfl <| rl_gskip rfl rfl rfl rfl rfl rfl <| rl_gskip rfl rfl rfl rfl rfl rfl <| rl_gskip rfl rfl rfl rfl rfl rfl <| rl_gskip rfl rfl rfl rfl rfl rfl <| rl_gskip rfl rfl rfl rfl rfl rfl <| rl_gskip rfl rfl rfl rfl rfl rfl <| rl_gskip rfl rfl rfl rfl rfl rfl <| rl_v rfl rfl rfl (ov_pick_t rfl rfl rfl) <| rl_v rfl rfl rfl (ov_move rfl rfl) <| rl_gskip rfl rfl rfl rfl rfl rfl <| rl_gskip rfl rfl rfl rfl rfl rfl <| rl_gskip rfl rfl rfl rfl rfl rfl <| rl_v rfl rfl rfl (ov_pick_t rfl rfl rfl) <| rl_v rfl rfl rfl (ov_move rfl rfl) <| rl_gskip rfl rfl rfl rfl rfl rfl <| rl_gskip rfl rfl rfl rfl rfl rfl <| rl_gskip rfl rfl rfl rfl rfl rfl <| rl_v rfl rfl rfl (ov_pick_t rfl rfl rfl) ?_
        refine rl_nil (hk9 _ (jbt rfl (by omega)) (And.intro rfl (And.intro rfl (And.intro rfl trivial))))
       ·refine rl_gv rfl rfl rfl rfl rfl (ov_fieldS rfl Tryz.underlying58 rfl (fo := 2) rfl (by kernel_rfl) rfl) ?_
        refine rl_gv rfl rfl rfl rfl rfl (ov_load rfl Tryz.underlying3 rfl rfl (by exact hO7.cellL 0 rfl (off := 2) rfl)) ?_
        refine rl_gv rfl rfl rfl rfl rfl (ov_fieldS rfl Tryz.underlying58 rfl (fo := 1) rfl (by kernel_rfl) rfl) ?_
        refine rl_gv rfl rfl rfl rfl rfl (ov_load rfl Tryz.underlying3 rfl rfl (by exact hO7.cellL 0 rfl (off := 1) rfl)) ?_
        refine rl_gv rfl rfl rfl rfl rfl (ov_fieldS rfl Tryz.underlying58 rfl (fo := 0) rfl (by kernel_rfl) rfl) ?_
        refine rl_gv rfl rfl rfl rfl rfl (ov_load rfl Tryz.underlying3 rfl rfl (by exact hO7.cellL 0 rfl (off := 0) rfl)) ?_
        refine rl_gv rfl rfl rfl rfl rfl (ov_sub rfl rfl rfl (by omega)) ?_
        refine rl_gv rfl rfl rfl rfl rfl (ov_gtr rfl rfl rfl) <| rl_v rfl rfl rfl (ov_pick_f rfl rfl rfl) <| rl_v rfl rfl rfl (ov_move rfl rfl) ?_
        first | refine rl_split_dec 44 rfl (fun hg14 => ?_) (fun hg14 => ?_) | refine rl_split 44 rfl (fun hg14 => ?_) (fun hg14 => ?_)
        ·refine rl_gskip rfl rfl rfl rfl rfl rfl <| rl_gskip rfl rfl rfl rfl rfl rfl <| rl_gskip rfl rfl rfl rfl rfl rfl <| rl_v rfl rfl rfl (ov_pick_t rfl rfl rfl) <| rl_v rfl rfl rfl (ov_move rfl rfl) <| rl_gskip rfl rfl rfl rfl rfl rfl <| rl_gskip rfl rfl rfl rfl rfl rfl <| rl_gskip rfl rfl rfl rfl rfl rfl <| rl_v rfl rfl rfl (ov_pick_t rfl rfl rfl) ?_
         refine rl_nil (hk9 _ (jbt rfl (by omega)) (And.intro rfl (And.intro rfl (And.intro rfl trivial))))
        ·refine rl_gv rfl rfl rfl rfl rfl (ov_fieldS rfl Tryz.underlying58 rfl (fo := 3) rfl (by kernel_rfl) rfl) ?_
         refine rl_gv rfl rfl rfl rfl rfl (ov_load rfl Tryz.underlying3 rfl rfl (by exact hO7.cellL 0 rfl (off := 3) rfl)) ?_
         refine rl_gv rfl rfl rfl rfl rfl (ov_lss rfl rfl rfl) <| rl_v rfl rfl rfl (ov_pick_f rfl rfl rfl) <| rl_v rfl rfl rfl (ov_move rfl rfl) ?_
         first | refine rl_split_dec 49 rfl (fun hg15 => ?_) (fun hg15 => ?_) | refine rl_split 49 rfl (fun hg15 => ?_) (fun hg15 => ?_)
         ·refine rl_gskip rfl rfl rfl rfl rfl rfl <| rl_gskip rfl rfl rfl rfl rfl rfl <| rl_gskip rfl rfl rfl rfl rfl rfl <| rl_v rfl rfl rfl (ov_pick_t rfl rfl rfl) ?_
          refine rl_nil (hk9 _ (jbt rfl (by omega)) (And.intro rfl (And.intro rfl (And.intro rfl trivial))))
         ·refine rl_gv rfl rfl rfl rfl rfl (ov_fieldS rfl Tryz.underlying58 rfl (fo := 3) rfl (by kernel_rfl) rfl) ?_
          refine rl_gv rfl rfl rfl rfl rfl (ov_load rfl Tryz.underlying3 rfl rfl (by exact hO7.cellL 0 rfl (off := 3) rfl)) ?_
          refine rl_gv rfl rfl rfl rfl rfl (ov_gtr rfl rfl rfl) <| rl_v rfl rfl rfl (ov_pick_f rfl rfl rfl) ?_
          refine rl_nil (hk9 _ (jbd rfl (by omega)) (And.intro rfl (And.intro rfl (And.intro rfl trivial))))
   ·show Run _ _ _ _ [(53, _), (8, _), (9, _), (10, _)] _ _
    first | refine run_cond_dec rfl (fun c2 => ?_) (fun c2 => ?_) | refine run_cond rfl (fun c2 => ?_) (fun c2 => ?_)
    ·rw [Lds.chk_bad (by omega) fun h => c2 (h i (by omega) c1)]
     refine run_seq <| run_region <| rl_v rfl rfl rfl (ov_assign rfl rfl) <| rl_nil <| run_ret Tryz.func8 (res1 Tryz.results8 rfl) ?_
     exact ⟨rfl, hO7.sub (List.nil_sublist _)⟩
    ·have hv2 : ∀ j : Int, 0 ≤ j → j < ((i + 1 : Nat) : Int) → l.Val j := fun j j0 j1 => by
      by_cases e : j = i
      ·rw [e]; exact Classical.not_not.1 c2
      ·exact hv j j0 (by omega)
     refine run_skip <| run_inBlock <| run_region <| rl_v rfl rfl rfl (ov_add rfl rfl rfl (by omega)) ?_
     refine rl_v rfl rfl rfl (ov_move rfl rfl) <| rl_nil ?_
     refine Run.use (ih2 (i + 1) _ ?_ ?_) (And.intro (by exact slot_int rfl (by first | omega)) (And.intro rfl (And.intro rfl trivial)))
     ·first | omega | (dsimp only; omega)
     ·exact ⟨by omega, hv2, hO7.tail⟩
  ·rw [Lds.chk_ok (by omega) fun j j0 j1 => hv j j0 (by omega)]
   refine run_exit rfl <| run_seq <| run_region <| rl_v rfl rfl rfl (ov_assign rfl rfl) <| rl_nil <| run_ret Tryz.func8 (res1 Tryz.results8 rfl) ?_
   exact ⟨rfl, hO1⟩
theorem checkKilns_any (la : Option Addr) (lc : Nat) (l : Lds) (k : Int) (w : World) (hn : l.n ≤ 100000) (hI : l.I64) (hl : SAt w.heap.size w la 4 l.n (ldF l)) :
  Calls Tryz.prog 23 #[.slice la l.n lc, iv k] w fun e w' => e = .returned (iv (l.chkK k)) ∧ Own w.heap.size w w' [] := by
 refine calls_of_run (F := [(0, _), (1, _)]) Tryz.func23 rfl Tryz.ntmps23 rfl rfl ?_
 have hO0 := Own.init w
 refine run_seq <| run_region <| rl_v rfl rfl rfl (ov_assign rfl rfl) <| rl_nil <| run_seq <| run_seq <| run_region <| rl_v rfl rfl rfl (ov_move rfl rfl) ?_
 refine rl_call callable_8 rfl rfl rfl rfl rfl rfl (check7_any la lc l _ hn hI (hO0.satU hl)) (fun e1 w2 hp3 => ?_)
 obtain ⟨rfl, hO1⟩ := hp3
 refine ⟨_, rfl, ?_⟩
 have hO4 := hO0.join hO1
 refine rl_v rfl rfl rfl (ov_assign rfl rfl) <| rl_nil <| run_seq <| run_region <| rl_v rfl rfl rfl (ov_move rfl rfl) <| rl_v rfl rfl rfl (ov_neq rfl rfl rfl) <| rl_nil ?_
 first | refine run_cond_dec rfl (fun c1 => ?_) (fun c1 => ?_) | refine run_cond rfl (fun c1 => ?_) (fun c1 => ?_)
 ·rw [show l.chkK k = l.chk by unfold Lds.chkK; rw [if_neg c1]]
  refine run_seq <| run_region <| rl_v rfl rfl rfl (ov_move rfl rfl) <| rl_v rfl rfl rfl (ov_assign rfl rfl) <| rl_nil <| run_ret Tryz.func23 (res1 Tryz.results23 rfl) ?_
  exact ⟨rfl, hO4⟩
 ·have c1' : l.chk = 0 := Classical.not_not.1 c1
  refine run_skip <| run_seq <| run_seq <| run_region_join 16 (.bool (decide (k < 1 ∨ 64 < k))) [] (fun hk5 => ?_) ?_
  ·refine rl_v rfl rfl rfl (ov_move rfl rfl) <| rl_v rfl rfl rfl (ov_lss rfl rfl rfl) <| rl_v rfl rfl rfl (ov_move rfl rfl) ?_
   first | refine rl_split_dec 13 rfl (fun hg6 => ?_) (fun hg6 => ?_) | refine rl_split 13 rfl (fun hg6 => ?_) (fun hg6 => ?_)
   ·refine rl_gskip rfl rfl rfl rfl rfl rfl <| rl_gskip rfl rfl rfl rfl rfl rfl <| rl_v rfl rfl rfl (ov_pick_t rfl rfl rfl) ?_
    refine rl_nil (hk5 _ (jbt rfl (by omega)) trivial)
   ·refine rl_gv rfl rfl rfl rfl rfl (ov_move rfl rfl) <| rl_gv rfl rfl rfl rfl rfl (ov_gtr rfl rfl rfl) <| rl_v rfl rfl rfl (ov_pick_f rfl rfl rfl) ?_
    refine rl_nil (hk5 _ (jbd rfl (by omega)) trivial)
  ·show Run _ _ _ _ [(16, _)] _ _
   first | refine run_cond_dec rfl (fun c2 => ?_) (fun c2 => ?_) | refine run_cond rfl (fun c2 => ?_) (fun c2 => ?_)
   ·rw [show l.chkK k = 1 by unfold Lds.chkK; rw [if_pos c1', if_neg (by omega)]]
    refine run_seq <| run_region <| rl_v rfl rfl rfl (ov_assign rfl rfl) <| rl_nil <| run_ret Tryz.func23 (res1 Tryz.results23 rfl) ?_
    exact ⟨rfl, hO4⟩
   ·rw [show l.chkK k = 0 by unfold Lds.chkK; rw [if_pos c1', if_pos (by omega)]]
    refine run_skip <| run_seq <| run_region <| rl_v rfl rfl rfl (ov_assign rfl rfl) <| rl_nil <| run_ret Tryz.func23 (res1 Tryz.results23 rfl) ?_
    exact ⟨rfl, hO4⟩
theorem Lds.chkK_ne {l : Lds} {k : Int} (h : l.chkK k = 0) : l.n ≤ 256 ∧ l.Valid ∧ (1 ≤ k ∧ k ≤ 64) ∧ l.Fit 1000000000 :=
 have h' := Lds.of_chkK h
 ⟨h'.1, h'.2.1, h'.2.2, h'.2.1.fit.mono (by decide)⟩
theorem Fits_any (la : Option Addr) (lc : Nat) (l : Lds) (k : Int) (w : World) (hn : l.n ≤ 100000) (hI : l.I64) (hl : SAt w.heap.size w la 4 l.n (ldF l)) :
  Calls Tryz.prog 11 #[.slice la l.n lc, iv k] w fun e w' => e = .returned (.tuple #[.bool (decide (l.chkK k = 0 ∧ l.Can k)), iv (l.chkK k)]) ∧ Own w.heap.size w w' [] := by
 refine calls_of_run (F := [(0, _), (1, _)]) Tryz.func11 rfl Tryz.ntmps11 rfl rfl ?_
 have hO0 := Own.init w
 refine run_seq <| run_region <| rl_v rfl rfl rfl (ov_assign rfl rfl) <| rl_v rfl rfl rfl (ov_assign rfl rfl) <| rl_nil <| run_seq <| run_seq <| run_region <| rl_v rfl rfl rfl (ov_move rfl rfl) <| rl_v rfl rfl rfl (ov_move rfl rfl) ?_
 refine rl_call callable_23 rfl rfl rfl rfl rfl rfl (checkKilns_any la lc l k _ hn hI (hO0.satU hl)) (fun e1 w2 hp3 => ?_)
 obtain ⟨rfl, hO1⟩ := hp3
 refine ⟨_, rfl, ?_⟩
 have hO4 := hO0.join hO1
 refine rl_v rfl rfl rfl (ov_assign rfl rfl) <| rl_nil <| run_seq <| run_region <| rl_v rfl rfl rfl (ov_move rfl rfl) <| rl_v rfl rfl rfl (ov_neq rfl rfl rfl) <| rl_nil ?_
 first | refine run_cond_dec rfl (fun c1 => ?_) (fun c1 => ?_) | refine run_cond rfl (fun c1 => ?_) (fun c1 => ?_)
 ·refine run_seq <| run_region <| rl_v rfl rfl rfl (ov_move rfl rfl) <| rl_v rfl rfl rfl (ov_assign rfl rfl) <| rl_v rfl rfl rfl (ov_assign rfl rfl) <| rl_nil <| run_ret Tryz.func11 (res2 Tryz.results11 rfl rfl) ?_
  exact ⟨by rw [decide_eq_false fun h => c1 h.1], hO4⟩
 ·have c1' : l.chkK k = 0 := Classical.not_not.1 c1
  obtain ⟨h1, h2, h3, h4⟩ := Lds.chkK_ne c1'
  refine run_skip <| run_seq <| run_region <| rl_v rfl rfl rfl (ov_move rfl rfl) <| rl_v rfl rfl rfl (ov_move rfl rfl) ?_
  refine rl_call callable_24 rfl rfl rfl rfl rfl rfl (fits_any la lc l k _ h1 h4 (by omega) (hO4.satU hl)) (fun e5 w6 hp7 => ?_)
  obtain ⟨rfl, _, hO2⟩ := hp7
  refine ⟨_, rfl, ?_⟩
  have hO8 := hO4.join hO2
  refine rl_v rfl rfl rfl (ov_assign rfl rfl) <| rl_v rfl rfl rfl (ov_assign rfl rfl) <| rl_nil <| run_ret Tryz.func11 (res2 Tryz.results11 rfl rfl) ?_
  exact ⟨by rw [c1', decide_eq_decide.2 (show l.Can k ↔ ((0 : Int) = 0 ∧ l.Can k) from ⟨fun h => ⟨rfl, h⟩, And.right⟩)], hO8⟩
end Go.Proofs.YtbepolognfdkeaaGreat
set_option maxRecDepth 100000
namespace Go.Proofs.YtbepolognfdkeaaGreat
open Go.RowKit Go.Proofs Go.MapKept Go.Shelf Go.Lib Go.Sort
def Tryz.sortTurns_ren : Go.Shelf.Ren := ⟨fun | 6 => 28 | 15 => 61 | 14 => 60 | 28 => 96 | 29 => 97 | 20 => 88 | 21 => 89 | 22 => 90 | 23 => 91 | 24 => 92 | 25 => 93 | 26 => 94 | 27 => 95 | 46 => 130 | 47 => 131 | 48 => 132 | 49 => 133 | 50 => 134 | 57 => 150 | n => n, fun | 22 => 33 | 24 => 76 | 25 => 77 | 3 => 3 | 39 => 56 | 0 => 0 | 53 => 151 | 55 => 153 | 4 => 4 | 46 => 144 | 45 => 143 | 50 => 148 | 5 => 5 | 9 => 9 | 66 => 187 | 70 => 191 | 76 => 205 | 77 => 206 | n => n, fun | n => n⟩
theorem Tryz.sortTurns : Go.Proofs.SlLaysF0.n6 Tryz.prog Tryz.sortTurns_ren := {
  mixed := by kernel_rfl
  f6 := ⟨Tryz.f28.name, by decide, Tryz.func28.trans (congrArg some (by kernel_rfl))⟩
  f14 := ⟨Tryz.f60.name, by decide, Tryz.func60.trans (congrArg some (by kernel_rfl))⟩
  f15 := Tryz.func61.trans (congrArg some (by kernel_rfl))
  f20 := ⟨Tryz.f88.name, by decide, Tryz.func88.trans (congrArg some (by kernel_rfl))⟩
  f21 := ⟨Tryz.f89.name, by decide, Tryz.func89.trans (congrArg some (by kernel_rfl))⟩
  f22 := ⟨Tryz.f90.name, by decide, Tryz.func90.trans (congrArg some (by kernel_rfl))⟩
  f23 := ⟨Tryz.f91.name, by decide, Tryz.func91.trans (congrArg some (by kernel_rfl))⟩
  f24 := ⟨Tryz.f92.name, by decide, Tryz.func92.trans (congrArg some (by kernel_rfl))⟩
  f25 := ⟨Tryz.f93.name, by decide, Tryz.func93.trans (congrArg some (by kernel_rfl))⟩
  f26 := ⟨Tryz.f94.name, by decide, Tryz.func94.trans (congrArg some (by kernel_rfl))⟩
  f27 := ⟨Tryz.f95.name, by decide, Tryz.func95.trans (congrArg some (by kernel_rfl))⟩
  f28 := Tryz.func96.trans (congrArg some (by kernel_rfl))
  f29 := Tryz.func97.trans (congrArg some (by kernel_rfl))
  f46 := ⟨Tryz.f130.name, by decide, Tryz.func130.trans (congrArg some (by kernel_rfl))⟩
  f47 := Tryz.func131.trans (congrArg some (by kernel_rfl))
  f48 := Tryz.func132.trans (congrArg some (by kernel_rfl))
  f49 := ⟨Tryz.f133.name, by decide, Tryz.func133.trans (congrArg some (by kernel_rfl))⟩
  f50 := ⟨Tryz.f134.name, by decide, Tryz.func134.trans (congrArg some (by kernel_rfl))⟩
  f57 := ⟨Tryz.f150.name, by decide, Tryz.func150.trans (congrArg some (by kernel_rfl))⟩
  t0 := Tryz.underlying0
  a0 := Tryz.isAgg0
  z0 := Tryz.sizeOf0
  v0 := Tryz.zeroValue0
  t3 := Tryz.underlying3
  a3 := Tryz.isAgg3
  z3 := Tryz.sizeOf3
  v3 := Tryz.zeroValue3
  t4 := Tryz.underlying4
  a4 := Tryz.isAgg4
  z4 := Tryz.sizeOf4
  v4 := Tryz.zeroValue4
  t5 := Tryz.underlying5
  a5 := Tryz.isAgg5
  z5 := Tryz.sizeOf5
  v5 := Tryz.zeroValue5
  t9 := Tryz.underlying9
  a9 := Tryz.isAgg9
  z9 := Tryz.sizeOf9
  v9 := Tryz.zeroValue9
  t22 := Tryz.underlying33
  a22 := Tryz.isAgg33
  z22 := Tryz.sizeOf33
  v22 := Tryz.zeroValue33
  t25 := Tryz.underlying77
  a25 := Tryz.isAgg77
  z25 := Tryz.sizeOf77
  v25 := Tryz.zeroValue77
  t39 := Tryz.underlying56
  a39 := Tryz.isAgg56
  z39 := Tryz.sizeOf56
  v39 := Tryz.zeroValue56
  t45 := Tryz.underlying143
  a45 := Tryz.isAgg143
  z45 := Tryz.sizeOf143
  v45 := Tryz.zeroValue143
  t46 := Tryz.underlying144
  a46 := Tryz.isAgg144
  z46 := Tryz.sizeOf144
  v46 := Tryz.zeroValue144
  t50 := Tryz.underlying148
  a50 := Tryz.isAgg148
  z50 := Tryz.sizeOf148
  v50 := Tryz.zeroValue148
  t53 := Tryz.underlying151
  a53 := Tryz.isAgg151
  z53 := Tryz.sizeOf151
  v53 := Tryz.zeroValue151
  t55 := Tryz.underlying153
  a55 := Tryz.isAgg153
  z55 := Tryz.sizeOf153
  v55 := Tryz.zeroValue153
  t66 := Tryz.underlying187
  a66 := Tryz.isAgg187
  z66 := Tryz.sizeOf187
  v66 := Tryz.zeroValue187
  t70 := Tryz.underlying191
  a70 := Tryz.isAgg191
  z70 := Tryz.sizeOf191
  v70 := Tryz.zeroValue191
  t76 := Tryz.underlying205
  a76 := Tryz.isAgg205
  z76 := Tryz.sizeOf205
  v76 := Tryz.zeroValue205
  t77 := Tryz.underlying206
  a77 := Tryz.isAgg206
  z77 := Tryz.sizeOf206
  v77 := Tryz.zeroValue206 }
end Go.Proofs.YtbepolognfdkeaaGreat
