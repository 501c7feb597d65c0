import Derived.Test.YtbepolognfdkeaaGbF
import Derived.Test.YtbepolognfdkeaaGaJ
set_option maxRecDepth 100000
namespace Go.Proofs.Ytbepolognfdkeaa
open Go.RowKit Go.Proofs Go.MapKept
theorem need_any (la : Option Addr) (lc : Nat) (l : Lds) (w : World) (hn : l.n ≤ 256) (hF : ∀ i : Int, 0 ≤ i → i < l.n → 0 ≤ l.len i ∧ l.len i ≤ 1000000000) (hl : SAt w.heap.size w la 4 l.n (ldF l)) :
  Calls Try.prog 56 #[.slice la l.n lc] w fun e w' => e = .returned (iv (sm l.len l.n)) ∧ Own w.heap.size w w' [] := by
 obtain ⟨lb, lo, hla, hlr⟩ := hl.open (by decide)
 refine calls_of_run (F := [(0, _)]) Try.func56 rfl Try.ntmps56 rfl rfl ?_
 have hO0 := Own.init w
 refine run_seq <| run_region <| rl_v rfl rfl rfl (ov_assign rfl rfl) <| rl_nil <| run_seq <| run_region <| rl_v rfl rfl rfl (ov_assign rfl rfl) <| rl_nil <| run_seq <| run_seq <| run_region <| rl_v rfl rfl rfl (ov_move rfl rfl) <| rl_v rfl rfl rfl (ov_len rfl Try.underlying27 rfl) <| rl_v rfl rfl rfl (ov_move rfl rfl) <| rl_nil <| run_block <| Run.keep [3, 6, 7, 8] (F' := [(3, _), (6, _), (7, _), (8, _)]) rfl <| run_loop2 (fun (i : Nat) (s : Int) => [(8, .int .i64 (i : Int)), (3, .int .i64 s)]) [6, 7] (fun (i : Nat) (s : Int) (w1 : World) => i ≤ l.n ∧ s = sm l.len i ∧ Own w.heap.size w w1 []) (fun (i : Nat) (s : Int) => l.n - i) (0) (0) ?_ (And.intro (by exact slot_int rfl (by first | omega)) (And.intro (by exact slot_int rfl (by first | omega)) (And.intro rfl (And.intro rfl trivial)))) ?_
 ·exact ⟨Nat.zero_le _, rfl, hO0⟩
 intro i s w1 hIw1 ih2
 obtain ⟨hi, hs, hO1⟩ := hIw1
 show Run _ _ _ _ [(8, _), (3, _), (6, _), (7, _)] _ _
 refine run_seq <| run_region <| rl_v rfl rfl rfl (ov_lss rfl rfl rfl) <| rl_nil <| run_seq ?_
 first | refine run_cond_dec rfl (fun c1 => ?_) (fun c1 => ?_) | refine run_cond rfl (fun c1 => ?_) (fun c1 => ?_)
 ·refine run_skip <| run_seq <| run_block <| run_seq <| run_region <| rl_v rfl rfl rfl (ov_index rfl Try.underlying27 (by kernel_rfl) (s := 4) rfl rfl ⟨by omega, by omega⟩ (by exact hla (by omega))) ?_
  refine rl_v rfl rfl rfl (ov_loadE rfl Try.underlying84 rfl (by kernel_rfl) rfl ⟨by omega, by omega⟩ rfl (hlr _ hO1.below)) ?_
  refine rl_ow rfl (ow_alloc _ rfl rfl rfl zero_84 rfl hO1) ?_
  rintro _ w3 ⟨b5, rfl, hO4, hs5⟩
  refine rl_ow rfl (ow_storeW rfl rfl (by kernel_rfl) hO4 0 rfl rfl (by rfl) rfl (by rfl)) ?_
  rintro _ w6 ⟨rfl, hO7, hs8⟩
  have hs0 : 0 ≤ sm l.len i := sm_nonneg fun j j0 j1 => (hF j j0 (by omega)).1
  have hs1 := sm_bound (f := l.len) (k := i) 1000000000 (by omega) fun j j0 j1 => (hF j j0 (by omega)).2
  have hli := hF i (by omega) c1
  have hsu : sm l.len i + l.len i = sm l.len ((i + 1 : Nat) : Int) := by rw [show ((i + 1 : Nat) : Int) = (i : Int) + 1 by omega, sm_succ _ (by omega)]
  refine rl_nil <| run_region <| rl_v rfl rfl rfl (ov_move rfl rfl) <| rl_v rfl rfl rfl (ov_fieldS rfl Try.underlying84 rfl (fo := 2) rfl (by kernel_rfl) rfl) ?_
  refine rl_v rfl rfl rfl (ov_load rfl Try.underlying3 rfl rfl (by exact hO7.cellL 0 rfl (off := 2) rfl)) ?_
  refine rl_v rfl rfl rfl (ov_add rfl rfl rfl (by omega)) ?_
  refine rl_v rfl rfl rfl (ov_assign rfl rfl) <| rl_nil <| run_inBlock <| run_region <| rl_v rfl rfl rfl (ov_add rfl rfl rfl (by omega)) ?_
  refine rl_v rfl rfl rfl (ov_move rfl rfl) <| rl_nil ?_
  refine Run.use (ih2 (i + 1) (s + l.len i) _ ?_ ?_) (And.intro (by exact slot_int rfl (by first | omega)) (And.intro (by exact slot_int rfl (by first | omega)) (And.intro rfl (And.intro rfl trivial))))
  ·first | omega | (dsimp only; omega)
  ·exact ⟨by omega, by rw [hs, hsu], hO7.tail⟩
 ·have hin : i = l.n := by omega
  subst hin
  subst hs
  refine run_exit rfl <| run_seq <| run_region <| rl_v rfl rfl rfl (ov_move rfl rfl) <| rl_v rfl rfl rfl (ov_assign rfl rfl) <| rl_nil <| run_ret Try.func56 (res1 Try.results56 rfl) ?_
  exact ⟨rfl, hO1⟩
theorem fits_val {l : Lds} {c : Nat} {X : Int → Int} {kilns : Int} {G : Net} {L : Int → Int} {fl : Int} {LV : Int → Int} {sa : Option Addr} {sc : Nat} {pa : Option Addr} {pc : Nat} {oa : Option Addr} {oc : Nat} {cp : Option Blk} {HO : List (Option Blk)} {cs : Option Blk} (hF : l.Fit 1000000000) (hk : 0 ≤ kilns) (h : WkO l c X kilns G L fl LV sa sc pa pc oa oc cp HO cs) : fl = sm l.len l.n ↔ l.Can kilns := h.b.can hF hk h.f h.lev h.cut
noncomputable instance (l : Lds) (k : Int) : Decidable (l.Can k) := Classical.propDecidable _
theorem fits_any (la : Option Addr) (lc : Nat) (l : Lds) (kilns : Int) (w : World) (hn : l.n ≤ 256) (hF : l.Fit 1000000000) (hk : 0 ≤ kilns ∧ kilns ≤ 1000) (hl : SAt w.heap.size w la 4 l.n (ldF l)) :
  Calls Try.prog 42 #[.slice la l.n lc, iv kilns] w fun e w' => e = .returned (.bool (decide (l.Can kilns))) ∧ (¬ l.Can kilns → l.Cr kilns) ∧ Own w.heap.size w w' [] := by
 have hF2 : ∀ i : Int, 0 ≤ i → i < l.n → 0 ≤ l.len i ∧ l.len i ≤ 1000000000 := fun i i0 i1 => by
  have h1 := hF.len1 i i0 i1
  have h2 := hF.len2 i i0 i1
  have h3 := hF.dM i i0 i1
  have h4 := hF.r0 i i0 i1
  omega
 refine calls_of_run (F := [(0, _), (1, _)]) Try.func42 rfl Try.ntmps42 rfl rfl ?_
 have hO0 := Own.init w
 refine run_seq <| run_region <| rl_v rfl rfl rfl (ov_assign rfl rfl) <| rl_nil <| run_seq <| run_held (fun w' => Own w.heap.size w w' ([])) mixed ?_
 have hO2 := hO0.drew
 generalize World.drew w = w1 at hO2 ⊢
 have hS3 : Own w.heap.size w w1 ([]) := by exact hO2.sub (List.nil_sublist _)
 refine rh_v 0 rfl (by kernel_rfl) rfl rfl rfl hS3 (fun _ hS => ov_move rfl rfl) ?_
 refine rh_v 1 rfl (by kernel_rfl) rfl rfl rfl hS3 (fun _ hS => ov_move rfl rfl) ?_
 refine rh_v 6 rfl (by kernel_rfl) rfl rfl rfl hS3 (fun _ hS => ov_move rfl rfl) ?_
 refine rh_any1 2 (by kernel_rfl) ?_
 refine rc_op rfl rfl (ow_call2 callable_55 rfl rfl rfl rfl rfl (newWorks_any la lc l kilns _ hn hF hk (hO2.satU hl)) (by intro e w' hp; obtain ⟨wb, c, X, G, L, fl, LV, sa, sc, pa, pc, oa, oc, cp, HO, cs, rfl, hW, hO1⟩ := hp; exact ⟨_, rfl⟩)) ?_
 rintro _ w6 ⟨_, v4, he7, rfl, hp5⟩
 obtain ⟨wb, c, X, G, L, fl, LV, sa, sc, pa, pc, oa, oc, cp, HO, cs, rfl, hW, hO1⟩ := hp5
 injection he7 with he7; subst he7
 have hO8 := hO2.join hO1
 have hS9 : Own w.heap.size w w6 ([]) := by exact hO8.sub (List.nil_sublist _)
 refine ⟨hS9, ?_⟩
 refine rh_v 3 rfl (by kernel_rfl) rfl rfl rfl hS9 (fun _ hS => ov_nil rfl rfl) ?_
 refine rh_v 4 rfl (by kernel_rfl) rfl rfl rfl hS9 (fun _ hS => ov_fieldS rfl Try.underlying103 rfl (fo := 4) rfl (by kernel_rfl) rfl) ?_
 refine rh_any2 5 7 (by kernel_rfl) ?_ ?_
 ·refine rc_op rfl rfl (ow_v rfl rfl (ov_load rfl Try.underlying3 rfl rfl (by exact hO8.cellL 0 rfl (off := 4) rfl))) ?_
  rintro _ _ ⟨rfl, hw10⟩
  replace hw10 := hw10.symm; subst hw10
  refine ⟨hS9, ?_⟩
  refine rh_any1 7 (by kernel_rfl) ?_
  refine rc_op rfl rfl (ow_call2 callable_56 rfl rfl rfl rfl rfl (need_any la lc l _ hn hF2 (hO8.satU hl)) (by intro e w' hp; obtain ⟨rfl, hO2⟩ := hp; exact ⟨_, rfl⟩)) ?_
  rintro _ w13 ⟨_, v11, he14, rfl, hp12⟩
  obtain ⟨rfl, hO2⟩ := hp12
  injection he14 with he14; subst he14
  have hO15 := hO8.join hO2
  have hS16 : Own w.heap.size w w13 ([]) := by exact hO15.sub (List.nil_sublist _)
  refine ⟨hS16, ?_⟩
  refine rh_v 8 rfl (by kernel_rfl) rfl rfl rfl hS16 (fun _ hS => ov_eql rfl rfl rfl) ?_
  refine rh_v 9 rfl (by kernel_rfl) rfl rfl rfl hS16 (fun _ hS => ov_assign rfl rfl) ?_
  refine rh_done (by kernel_rfl) ?_
  refine run_ret Try.func42 (res1 Try.results42 rfl) ?_
  exact ⟨by rw [decide_eq_decide.2 (fits_val hF hk.1 hW)], fun hc => hW.b.cr hF hW.f hW.lev hW.cut fun h => hc ((fits_val hF hk.1 hW).1 h), hO15.sub (List.nil_sublist _)⟩
 ·refine rc_op rfl rfl (ow_call2 callable_56 rfl rfl rfl rfl rfl (need_any la lc l _ hn hF2 (hO8.satU hl)) (by intro e w' hp; obtain ⟨rfl, hO2⟩ := hp; exact ⟨_, rfl⟩)) ?_
  rintro _ w19 ⟨_, v17, he20, rfl, hp18⟩
  obtain ⟨rfl, hO2⟩ := hp18
  injection he20 with he20; subst he20
  have hO21 := hO8.join hO2
  have hS22 : Own w.heap.size w w19 ([]) := by exact hO21.sub (List.nil_sublist _)
  refine ⟨hS22, ?_⟩
  refine rh_any1 5 (by kernel_rfl) ?_
  refine rc_op rfl rfl (ow_v rfl rfl (ov_load rfl Try.underlying3 rfl rfl (by exact hO21.cellL 0 rfl (off := 4) rfl))) ?_
  rintro _ _ ⟨rfl, hw23⟩
  replace hw23 := hw23.symm; subst hw23
  refine ⟨hS22, ?_⟩
  refine rh_v 8 rfl (by kernel_rfl) rfl rfl rfl hS22 (fun _ hS => ov_eql rfl rfl rfl) ?_
  refine rh_v 9 rfl (by kernel_rfl) rfl rfl rfl hS22 (fun _ hS => ov_assign rfl rfl) ?_
  refine rh_done (by kernel_rfl) ?_
  refine run_ret Try.func42 (res1 Try.results42 rfl) ?_
  exact ⟨by rw [decide_eq_decide.2 (fits_val hF hk.1 hW)], fun hc => hW.b.cr hF hW.f hW.lev hW.cut fun h => hc ((fits_val hF hk.1 hW).1 h), hO21.sub (List.nil_sublist _)⟩
end Go.Proofs.Ytbepolognfdkeaa
