import Derived.Test.YtbcjfjldmfljgaaGreatPrJ
import Derived.Test.YtbcjfjldmfljgaaGreatGcB
set_option maxRecDepth 100000
namespace Go.Proofs.YtbcjfjldmfljgaaGreat
open Go.RowKit Go.Proofs Go.MapKept
def tkP (N : Nat) (v : Int → Int) (p i : Int) : Prop := (i < N ∧ p ≤ v i) ∨ (¬ i < N ∧ 1 ≤ p)
theorem takes_any (N n : Nat) (v : Int → Int) (p i : Int) (w : World) : Calls Tryz.prog 72 #[.agg (bdF N n v i).toArray, iv p] w fun e w' => (∃ b : Bool, e = .returned (.bool b) ∧ (b = true ↔ tkP N v p i)) ∧ Own w.heap.size w w' [] := by
 refine calls_of_run (F := [(0, _), (1, _)]) Tryz.func72 rfl Tryz.ntmps72 rfl rfl ?_
 have hO0 := Own.init w
 refine run_seq <| run_region <| rl_ow rfl (ow_box _ rfl rfl rfl rfl rfl hO0) ?_
 rintro _ w1 ⟨b2, rfl, hO2, hs3⟩
 have hOb : Own w.heap.size w w1 [some (lch b2 28 (bdF N n v i))] := hO2
 refine rl_v rfl rfl rfl (ov_assign rfl rfl) <| rl_nil <| run_seq <| run_seq <| run_region <| rl_v rfl rfl rfl (ov_fieldS rfl Tryz.underlying28 rfl (fo := 0) rfl (by kernel_rfl) rfl) ?_
 refine rl_v rfl rfl rfl (ov_load rfl Tryz.underlying3 rfl rfl (by exact hOb.cellL 0 rfl (off := 0) rfl)) ?_
 refine rl_v rfl rfl rfl (ov_eql rfl rfl rfl) <| rl_nil ?_
 first | refine run_cond_dec rfl (fun c1 => ?_) (fun c1 => ?_) | refine run_cond rfl (fun c1 => ?_) (fun c1 => ?_)
 ·have hi : i < N := Classical.byContradiction fun hn => by unfold mkS at c1; rw [if_neg hn] at c1; omega
  refine run_seq <| run_region <| rl_v rfl rfl rfl (ov_fieldS rfl Tryz.underlying28 rfl (fo := 1) rfl (by kernel_rfl) rfl) ?_
  refine rl_v rfl rfl rfl (ov_load rfl Tryz.underlying2 rfl rfl (by exact hOb.cellL 0 rfl (off := 1) rfl)) ?_
  refine rl_v rfl rfl rfl (ov_move rfl rfl) <| rl_v rfl rfl rfl (ov_geq rfl rfl rfl) <| rl_v rfl rfl rfl (ov_assign rfl rfl) <| rl_nil <| run_ret Tryz.func72 (res1 Tryz.results72 rfl) ?_
  exact ⟨⟨_, rfl, by rw [decide_eq_true_iff]; unfold tkP mkP; rw [if_pos hi]; exact ⟨fun q => .inl ⟨hi, q⟩, fun q => q.elim (·.2) fun q => absurd hi q.1⟩⟩, hOb.tail⟩
 ·have hi : ¬ i < N := fun hi => c1 (by unfold mkS; rw [if_pos hi])
  refine run_skip <| run_seq <| run_region <| rl_v rfl rfl rfl (ov_fieldS rfl Tryz.underlying28 rfl (fo := 1) rfl (by kernel_rfl) rfl) ?_
  refine rl_v rfl rfl rfl (ov_load rfl Tryz.underlying2 rfl rfl (by exact hOb.cellL 0 rfl (off := 1) rfl)) ?_
  refine rl_v rfl rfl rfl (ov_move rfl rfl) <| rl_v rfl rfl rfl (ov_leq rfl rfl rfl) <| rl_v rfl rfl rfl (ov_assign rfl rfl) <| rl_nil <| run_ret Tryz.func72 (res1 Tryz.results72 rfl) ?_
  exact ⟨⟨_, rfl, by rw [decide_eq_true_iff]; unfold tkP mkP; rw [if_neg hi]; exact ⟨fun q => .inr ⟨hi, q⟩, fun q => q.elim (fun q => absurd q.1 hi) (·.2)⟩⟩, hOb.tail⟩
def cntP (v : Int → Int) (p k : Int) : Int := sm (fun i => if p ≤ v i then 1 else 0) k
theorem sums_any (la : Option Addr) (lc N n : Nat) (v : Int → Int) (p : Int) (w : World) (hN : N ≤ 8) (hn : n ≤ 8) (hp : 1 ≤ p) (hl : SAt w.heap.size w la 3 (N + 1) (bdF N n v)) :
  Calls Tryz.prog 45 #[.slice la (N + 1 : Nat) lc, iv p] w fun e w' => e = .returned (.tuple #[iv (cntP v p N), iv n]) ∧ Own w.heap.size w w' [] := by
 obtain ⟨lb, lo, hla, hlr⟩ := hl.open (by decide)
 refine calls_of_run (F := [(0, _), (1, _)]) Tryz.func45 rfl Tryz.ntmps45 rfl rfl ?_
 have hO0 := Own.init w
 refine run_seq <| run_region <| rl_v rfl rfl rfl (ov_assign rfl rfl) <| rl_v rfl rfl rfl (ov_assign rfl rfl) <| rl_nil <| run_seq <| run_seq <| run_region <| rl_v rfl rfl rfl (ov_move rfl rfl) <| rl_v rfl rfl rfl (ov_len rfl Tryz.underlying24 rfl) <| rl_v rfl rfl rfl (ov_move rfl rfl) <| rl_nil <| run_block <| Run.keep [1, 4, 5, 8, 9, 10] (F' := [(1, _), (4, _), (5, _), (8, _), (9, _), (10, _)]) rfl <| run_loop3 (fun (i : Nat) (d : Int) (s : Int) => [(10, .int .i64 (i : Int)), (4, .int .i64 d), (5, .int .i64 s)]) [1, 8, 9] (fun (i : Nat) (d : Int) (s : Int) (w1 : World) => i ≤ N + 1 ∧ d = cntP v p (min (i : Int) N) ∧ s = (if (i : Int) = N + 1 then (n : Int) else 0) ∧ Own w.heap.size w w1 []) (fun (i : Nat) (d : Int) (s : Int) => N + 1 - i) (0) (0) (0) ?_ (And.intro (by exact slot_int rfl (by first | omega)) (And.intro (by exact slot_int rfl (by first | omega)) (And.intro (by exact slot_int rfl (by first | omega)) (And.intro rfl (And.intro rfl (And.intro rfl trivial)))))) ?_
 ·exact ⟨Nat.zero_le _, by rw [show min ((0 : Nat) : Int) N = 0 by omega]; rfl, by rw [if_neg (by omega)], hO0⟩
 intro i d s w1 hIw1 ih2
 obtain ⟨hi, hd, hs, hO1⟩ := hIw1
 show Run _ _ _ _ [(10, _), (4, _), (5, _), (1, _), (8, _), (9, _)] _ _
 refine run_seq <| run_region <| rl_v rfl rfl rfl (ov_lss rfl rfl rfl) <| rl_nil <| run_seq ?_
 first | refine run_cond_dec rfl (fun c1 => ?_) (fun c1 => ?_) | refine run_cond rfl (fun c1 => ?_) (fun c1 => ?_)
 ·refine run_skip <| run_seq <| run_block <| run_seq <| run_region <| rl_v rfl rfl rfl (ov_index rfl Tryz.underlying24 (by kernel_rfl) (s := 3) rfl rfl ⟨by omega, by omega⟩ (by exact hla (by omega))) ?_
  refine rl_v rfl rfl rfl (ov_loadE rfl Tryz.underlying28 rfl (by kernel_rfl) rfl ⟨by omega, by omega⟩ rfl ((hlr _ hO1.below))) ?_
  refine rl_ow rfl (ow_alloc _ rfl rfl rfl zero_28 rfl hO1) ?_
  rintro _ w3 ⟨x7, rfl, hO4, hs5⟩
  refine rl_ow rfl (ow_storeW rfl rfl (by kernel_rfl) hO4 0 rfl rfl (by rfl) rfl (by rfl)) ?_
  rintro _ w6 ⟨rfl, hO7, hs8⟩
  have hO2 : Own w.heap.size w w6 [some (lch x7 28 (bdF N n v i))] := hO7
  have hdr : 0 ≤ d ∧ d ≤ 8 := by
   rw [hd]
   have h1 : 0 ≤ cntP v p (min (i : Int) N) := sm_nonneg fun j _ _ => by split <;> omega
   have h2 := sm_bound (f := fun j => if p ≤ v j then (1 : Int) else 0) 1 (show (0 : Int) ≤ min (i : Int) N by omega) fun j _ _ => by split <;> omega
   unfold cntP at h1 ⊢
   omega
  refine rl_nil <| run_block <| run_seq <| run_region <| rl_v rfl rfl rfl (ov_loadW rfl Tryz.underlying28 rfl (by kernel_rfl) rfl hO2 0 rfl) ?_
  refine rl_v rfl rfl rfl (ov_move rfl rfl) ?_
  refine rl_call callable_72 rfl rfl rfl rfl rfl rfl (takes_any N n v p i _) (fun e9 w10 hp11 => ?_)
  obtain ⟨⟨b, rfl, hb⟩, hOa⟩ := hp11
  refine ⟨_, rfl, ?_⟩
  have hO12 := hO2.join hOa
  refine rl_v rfl rfl rfl (ov_not rfl rfl) <| rl_v rfl rfl rfl (ov_assign rfl rfl) <| rl_nil ?_
  first | refine run_cond_dec rfl (fun c2 => ?_) (fun c2 => ?_) | refine run_cond rfl (fun c2 => ?_) (fun c2 => ?_)
  ·have hbf : b = false := by simpa using c2
   have hnt : ¬ tkP N v p i := fun q => by rw [hb.2 q] at hbf; exact Bool.noConfusion hbf
   have hiN : (i : Int) < N := Classical.byContradiction fun q => hnt (.inr ⟨q, hp⟩)
   have hnp : ¬ p ≤ v i := fun q => hnt (.inl ⟨hiN, q⟩)
   have hcs : cntP v p (min ((i + 1 : Nat) : Int) N) = cntP v p (min (i : Int) N) := by
    rw [show min ((i + 1 : Nat) : Int) N = (i : Int) + 1 by omega, show min (i : Int) N = i by omega]
    unfold cntP
    rw [sm_succ _ (by omega), if_neg hnp]; omega
   refine run_skip <| run_inBlock <| run_inBlock <| run_region <| rl_v rfl rfl rfl (ov_add rfl rfl rfl (by omega)) ?_
   refine rl_v rfl rfl rfl (ov_move rfl rfl) <| rl_nil ?_
   refine Run.use (ih2 (i + 1) (d) (s) _ ?_ ?_) (And.intro (by exact slot_int rfl (by first | omega)) (And.intro (by exact slot_int rfl (by first | omega)) (And.intro (by exact slot_int rfl (by first | omega)) (And.intro rfl (And.intro rfl (And.intro rfl trivial))))))
   ·first | omega | (dsimp only; omega)
   ·exact ⟨by omega, by rw [hcs]; exact hd, by rw [hs, if_neg (by omega), if_neg (by omega)], hO12.sub (List.nil_sublist _)⟩
  ·have hbt : b = true := by simpa using c2
   have htk := hb.1 hbt
   refine run_seq <| run_region <| rl_v rfl rfl rfl (ov_fieldS rfl Tryz.underlying28 rfl (fo := 0) rfl (by kernel_rfl) rfl) ?_
   refine rl_v rfl rfl rfl (ov_load rfl Tryz.underlying3 rfl rfl (by exact hO12.cellL 0 rfl (off := 0) rfl)) ?_
   refine rl_v rfl rfl rfl (ov_eql rfl rfl rfl) <| rl_v rfl rfl rfl (ov_assign rfl rfl) <| rl_nil ?_
   first | refine run_cond_dec rfl (fun c3 => ?_) (fun c3 => ?_) | refine run_cond rfl (fun c3 => ?_) (fun c3 => ?_)
   ·have hiN : (i : Int) < N := Classical.byContradiction fun hn => by unfold mkS at c3; rw [if_neg hn] at c3; omega
    have hq : mkQ N n i = 1 := if_pos hiN
    have hpp : p ≤ v i := htk.elim (·.2) fun q => absurd hiN q.1
    have hcs : cntP v p (min ((i + 1 : Nat) : Int) N) = cntP v p (min (i : Int) N) + 1 := by
     rw [show min ((i + 1 : Nat) : Int) N = (i : Int) + 1 by omega, show min (i : Int) N = i by omega]
     unfold cntP
     rw [sm_succ _ (by omega), if_pos hpp]
    refine run_region <| rl_v rfl rfl rfl (ov_move rfl rfl) <| rl_v rfl rfl rfl (ov_fieldS rfl Tryz.underlying28 rfl (fo := 2) rfl (by kernel_rfl) rfl) ?_
    refine rl_v rfl rfl rfl (ov_load rfl Tryz.underlying2 rfl rfl (by exact hO12.cellL 0 rfl (off := 2) rfl)) ?_
    refine rl_v rfl rfl rfl (ov_add rfl rfl rfl (by omega)) ?_
    refine rl_v rfl rfl rfl (ov_assign rfl rfl) <| rl_nil <| run_inBlock <| run_inBlock <| run_region <| rl_v rfl rfl rfl (ov_add rfl rfl rfl (by omega)) ?_
    refine rl_v rfl rfl rfl (ov_move rfl rfl) <| rl_nil ?_
    refine Run.use (ih2 (i + 1) (d + mkQ N n i) (s) _ ?_ ?_) (And.intro (by exact slot_int rfl (by first | omega)) (And.intro (by exact slot_int rfl (by first | omega)) (And.intro (by exact slot_int rfl (by first | omega)) (And.intro rfl (And.intro rfl (And.intro rfl trivial))))))
    ·first | omega | (dsimp only; omega)
    ·exact ⟨by omega, by rw [hcs, hq, hd], by rw [hs, if_neg (by omega), if_neg (by omega)], hO12.sub (List.nil_sublist _)⟩
   ·have hiN : (i : Int) = N := Classical.byContradiction fun hn => c3 (by unfold mkS; rw [if_pos (by omega)])
    have hq : mkQ N n i = n := if_neg (by omega)
    have hs0 : s = 0 := by rw [hs, if_neg (by omega)]
    refine run_region <| rl_v rfl rfl rfl (ov_move rfl rfl) <| rl_v rfl rfl rfl (ov_fieldS rfl Tryz.underlying28 rfl (fo := 2) rfl (by kernel_rfl) rfl) ?_
    refine rl_v rfl rfl rfl (ov_load rfl Tryz.underlying2 rfl rfl (by exact hO12.cellL 0 rfl (off := 2) rfl)) ?_
    refine rl_v rfl rfl rfl (ov_add rfl rfl rfl (by omega)) ?_
    refine rl_v rfl rfl rfl (ov_assign rfl rfl) <| rl_nil <| run_inBlock <| run_inBlock <| run_region <| rl_v rfl rfl rfl (ov_add rfl rfl rfl (by omega)) ?_
    refine rl_v rfl rfl rfl (ov_move rfl rfl) <| rl_nil ?_
    refine Run.use (ih2 (i + 1) (d) (s + mkQ N n i) _ ?_ ?_) (And.intro (by exact slot_int rfl (by first | omega)) (And.intro (by exact slot_int rfl (by first | omega)) (And.intro (by exact slot_int rfl (by first | omega)) (And.intro rfl (And.intro rfl (And.intro rfl trivial))))))
    ·first | omega | (dsimp only; omega)
    ·exact ⟨by omega, by rw [show min ((i + 1 : Nat) : Int) N = min (i : Int) N by omega]; exact hd, by rw [hs0, hq, if_pos (by omega)]; omega, hO12.sub (List.nil_sublist _)⟩
 ·have hin : (i : Int) = N + 1 := by omega
  rw [show min (i : Int) N = (N : Int) by omega] at hd
  rw [if_pos hin] at hs
  refine run_exit rfl <| run_seq <| run_region <| rl_v rfl rfl rfl (ov_move rfl rfl) <| rl_v rfl rfl rfl (ov_move rfl rfl) <| rl_v rfl rfl rfl (ov_assign rfl rfl) <| rl_v rfl rfl rfl (ov_assign rfl rfl) <| rl_nil <| run_ret Tryz.func45 (res2 Tryz.results45 rfl rfl) ?_
  exact ⟨by rw [hd, hs], hO1⟩
theorem byTime1_any (la : Option Addr) (lc : Nat) (t q : Int) (w : World) (ht : 0 ≤ t ∧ t ≤ 1000) (hq : 0 ≤ q ∧ q ≤ 1000) (hl : IAt w.heap.size w la 1 (fun _ => iv q)) :
  Calls Tryz.prog 74 #[iv t, .slice la 1 lc] w fun e w' => ∃ ob, e = .returned (.slice (some ⟨ob, 0, none⟩) 1 1) ∧ Own w.heap.size w w' [some (vch ob 2 1 (fun _ => iv (min q t)))] := by
 obtain ⟨lb, lo, hla, hlr⟩ := hl.open
 refine calls_of_run (F := [(0, _), (1, _)]) Tryz.func74 rfl Tryz.ntmps74 rfl rfl ?_
 have hO0 := Own.init w
 refine run_seq <| run_region <| rl_v rfl rfl rfl (ov_assign rfl rfl) <| rl_nil <| run_seq <| run_region <| rl_v rfl rfl rfl (ov_move rfl rfl) <| rl_v rfl rfl rfl (ov_len rfl Tryz.underlying22 rfl) ?_
 refine rl_make (1) rfl rfl rfl rfl Tryz.underlying22 info_2 rfl hO0 rfl rfl (by rfl) (by rfl) ⟨by omega, by omega⟩ (fun ob w1 hO2 hs3 => ?_)
 refine rl_v rfl rfl rfl (ov_assign rfl rfl) <| rl_nil <| run_seq <| run_seq <| run_region <| rl_v rfl rfl rfl (ov_move rfl rfl) <| rl_v rfl rfl rfl (ov_len rfl Tryz.underlying22 rfl) <| rl_v rfl rfl rfl (ov_move rfl rfl) <| rl_nil <| run_block <| run_once <| run_seq <| run_region <| rl_v rfl rfl rfl (ov_lss rfl rfl rfl) <| rl_nil <| run_seq ?_
 first | refine run_cond_dec rfl (fun q1 => ?_) (fun q1 => ?_) | refine run_cond rfl (fun q1 => ?_) (fun q1 => ?_)
 ·refine run_skip <| run_seq <| run_block <| run_seq <| run_region <| rl_v rfl rfl rfl (ov_move rfl rfl) <| rl_v rfl rfl rfl (ov_index1 rfl Tryz.underlying22 (by kernel_rfl) rfl rfl ⟨by omega, by omega⟩ (by exact hla (by omega))) ?_
  refine rl_v rfl rfl rfl (ov_load rfl Tryz.underlying2 rfl rfl (by exact hlr _ hO2.below 0 (by omega) (by omega))) ?_
  refine rl_v rfl rfl rfl (ov_assign rfl rfl) <| rl_v rfl rfl rfl (ov_assign rfl rfl) <| rl_nil <| run_seq <| run_region <| rl_v rfl rfl rfl (ov_move rfl rfl) <| rl_v rfl rfl rfl (ov_move rfl rfl) <| rl_v rfl rfl rfl (ov_move rfl rfl) <| rl_v rfl rfl rfl (ov_move rfl rfl) <| rl_v rfl rfl rfl (ov_min rfl rfl rfl) <| rl_v rfl rfl rfl (ov_index1 rfl Tryz.underlying22 (by kernel_rfl) rfl rfl ⟨by omega, by omega⟩ (by rfl)) ?_
  refine rl_ow rfl (ow_store rfl rfl (by kernel_rfl) hO2 0 rfl rfl ⟨by omega, by omega⟩ rfl rfl) ?_
  rintro _ w4 ⟨rfl, hO5, hs6⟩
  refine rl_nil <| run_region <| rl_v rfl rfl rfl (ov_move rfl rfl) <| rl_v rfl rfl rfl (ov_move rfl rfl) <| rl_v rfl rfl rfl (ov_move rfl rfl) <| rl_v rfl rfl rfl (ov_index1 rfl Tryz.underlying22 (by kernel_rfl) rfl rfl ⟨by omega, by omega⟩ (by rfl)) ?_
  refine rl_v rfl rfl rfl (ov_load rfl Tryz.underlying2 rfl rfl (by exact (hO5.cellI 0 rfl 0 (by decide) (by decide)).trans (congrArg some (upd_same ..)))) ?_
  refine rl_v rfl rfl rfl (ov_sub rfl rfl rfl (by omega)) ?_
  refine rl_v rfl rfl rfl (ov_assign rfl rfl) <| rl_nil <| run_inBlock <| run_region <| rl_v rfl rfl rfl (ov_add rfl rfl rfl (by omega)) ?_
  refine rl_v rfl rfl rfl (ov_move rfl rfl) <| rl_nil <| run_again <| run_seq <| run_region <| rl_v rfl rfl rfl (ov_lss rfl rfl rfl) <| rl_nil <| run_seq ?_
  first | refine run_cond_dec rfl (fun q2 => ?_) (fun q2 => ?_) | refine run_cond rfl (fun q2 => ?_) (fun q2 => ?_)
  ·exfalso; omega
  ·refine run_exit rfl <| run_seq <| run_region <| rl_v rfl rfl rfl (ov_move rfl rfl) <| rl_v rfl rfl rfl (ov_assign rfl rfl) <| rl_nil <| run_ret Tryz.func74 (res1 Tryz.results74 rfl) ?_
   exact ⟨ob, rfl, hO5.congrI 0 rfl (G' := fun _ => iv (min q t)) fun x x0 x1 => by rw [show x = 0 by omega, upd_same]⟩
 ·exfalso; omega
end Go.Proofs.YtbcjfjldmfljgaaGreat
