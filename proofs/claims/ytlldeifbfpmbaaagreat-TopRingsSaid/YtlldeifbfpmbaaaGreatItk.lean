import Derived.Test.YtlldeifbfpmbaaaGreatPrw
import Derived.Test.YtlldeifbfpmbaaaGreatUti
import Derived.Test.YtlldeifbfpmbaaaGreatFbE
import Derived.Test.YtlldeifbfpmbaaaGreatGaH
import Derived.Test.YtlldeifbfpmbaaaGreatHeld
import Derived.RangeFuncLeaves
import Derived.RangeFuncRecord
import Derived.RangeFuncSeq
import Derived.OrdersIn
import Derived.TacticsIn
import Derived.Test.YtlldeifbfpmbaaaGreatLate
import Derived.Maps.RangeRun
set_option maxRecDepth 100000
namespace Go.Proofs.YtlldeifbfpmbaaaGreat
open Go.RowKit Go.Proofs Go.MapKept
theorem modsT {x m : Int} (hm : 0 < m ∧ m ≤ 1000000000000) : IntKind.i64.wrap (IntKind.u64.wrap x % m) = x % 18446744073709551616 % m ∧ 0 ≤ x % 18446744073709551616 % m ∧ x % 18446744073709551616 % m < m := by
 have h1 := Int.emod_nonneg (x % 18446744073709551616) (show m ≠ 0 by omega)
 have h2 := Int.emod_lt_of_pos (x % 18446744073709551616) hm.1
 exact ⟨by rw [IntKind.wrap_u64, IntKind.wrap_i64]; omega, h1, h2⟩
set_option maxHeartbeats 1000000 in
theorem list_any (ao : Option Addr) (n c N : Nat) (X : Int → Int) (w : World) (hN : N ≤ 1000) (h : IAt w.heap.size w ao n (fun i => iv (X i))) :
  Calls Tryz.prog 30 #[.slice ao n c, iv N] w fun e w' => ∃ (v : Value) (k : Nat) (E : Int → Int) (c' : Option Blk), e = .returned v ∧ k ≤ 12 ∧ IsL k E N ∧ IRow v 3 k (fun i => iv (E i)) c' ∧ Own w.heap.size w w' [c'] := by
 obtain ⟨gb, go, hga, hrow⟩ := h.open
 refine calls_of_run (F := [(0, _), (1, _)]) Tryz.func30 rfl Tryz.ntmps30 rfl rfl ?_
 have hO0 := Own.init w
 refine run_seq <| run_region <| rl_v rfl rfl rfl (ov_assign rfl rfl) <| rl_nil <| run_seq <| run_region <| rl_v rfl rfl rfl (ov_assign rfl rfl) <| rl_nil <| run_seq <| run_seq <| run_region <| rl_v rfl rfl rfl (ov_assign rfl rfl) <| rl_nil <| run_block <| Run.keep [0, 1, 5, 6] (F' := [(0, _), (1, _), (5, _), (6, _)]) rfl <| run_loop3 (fun (i : Nat) (k : Nat) (v : Value) => [(6, .int .i64 (i : Int)), (5, v)]) [0, 1] (fun (i : Nat) (k : Nat) (v : Value) (w1 : World) => ∃ (E : Int → Int) (c' : Option Blk), i ≤ n ∧ i ≤ 12 ∧ k ≤ i ∧ IsL k E N ∧ IRow v 3 k (fun i => iv (E i)) c' ∧ Own w.heap.size w w1 [c']) (fun (i : Nat) (k : Nat) (v : Value) => 12 - i) (0) (0) (.slice none 0 0) ?_ (And.intro (by exact slot_int rfl (by first | omega)) (And.intro rfl (And.intro rfl (And.intro rfl trivial)))) ?_
 ·exact ⟨fun _ => 0, none, by omega, by omega, by omega, ⟨fun k k0 k1 => by omega, fun a b a0 a1 => by omega⟩, IRow.nil _ _, hO0.nil_cons⟩
 intro i k v w1 hIw1 ih2
 obtain ⟨E, c', hi1, hi2, hki, hL, hr, hO⟩ := hIw1
 show Run _ _ _ _ [(6, _), (5, _), (0, _), (1, _)] _ _
 refine run_seq <| run_seq <| run_region_join 21 (.bool (decide ((i : Int) < n ∧ (i : Int) < 12 ∧ (0 : Int) < N))) [0, 1, 5, 6] (fun hk3 => ?_) ?_
 ·refine rl_v rfl rfl rfl (ov_move rfl rfl) <| rl_v rfl rfl rfl (ov_move rfl rfl) <| rl_v rfl rfl rfl (ov_len rfl Tryz.underlying23 rfl) <| rl_v rfl rfl rfl (ov_lss rfl rfl rfl) <| rl_v rfl rfl rfl (ov_move rfl rfl) ?_
  first | refine rl_split_dec 14 rfl (fun hg4 => ?_) (fun hg4 => ?_) | refine rl_split 14 rfl (fun hg4 => ?_) (fun hg4 => ?_)
  ·refine rl_gv rfl rfl rfl rfl rfl (ov_move rfl rfl) <| rl_gv rfl rfl rfl rfl rfl (ov_lss rfl rfl rfl) <| rl_v rfl rfl rfl (ov_pick_t rfl rfl rfl) <| rl_v rfl rfl rfl (ov_move rfl rfl) ?_
   first | refine rl_split_dec 18 rfl (fun hg5 => ?_) (fun hg5 => ?_) | refine rl_split 18 rfl (fun hg5 => ?_) (fun hg5 => ?_)
   ·refine rl_gv rfl rfl rfl rfl rfl (ov_move rfl rfl) <| rl_gv rfl rfl rfl rfl rfl (ov_gtr rfl rfl rfl) <| rl_v rfl rfl rfl (ov_pick_t rfl rfl rfl) ?_
    refine rl_nil (hk3 _ (jbd rfl (by omega)) (And.intro rfl (And.intro rfl (And.intro rfl (And.intro rfl trivial)))))
   ·refine rl_gskip rfl rfl rfl rfl rfl rfl <| rl_gskip rfl rfl rfl rfl rfl rfl <| rl_v rfl rfl rfl (ov_pick_f rfl rfl rfl) ?_
    refine rl_nil (hk3 _ (jbf rfl (by omega)) (And.intro rfl (And.intro rfl (And.intro rfl (And.intro rfl trivial)))))
  ·refine rl_gskip rfl rfl rfl rfl rfl rfl <| rl_gskip rfl rfl rfl rfl rfl rfl <| rl_v rfl rfl rfl (ov_pick_f rfl rfl rfl) <| rl_v rfl rfl rfl (ov_move rfl rfl) <| rl_gskip rfl rfl rfl rfl rfl rfl <| rl_gskip rfl rfl rfl rfl rfl rfl <| rl_v rfl rfl rfl (ov_pick_f rfl rfl rfl) ?_
   refine rl_nil (hk3 _ (jbf rfl (by omega)) (And.intro rfl (And.intro rfl (And.intro rfl (And.intro rfl trivial)))))
 ·show Run _ _ _ _ [(21, _), (0, _), (1, _), (5, _), (6, _)] _ _
  first | refine run_cond_dec rfl (fun c1 => ?_) (fun c1 => ?_) | refine run_cond rfl (fun c1 => ?_) (fun c1 => ?_)
  ·obtain ⟨c2, c3, c4⟩ := c1
   have hm := modsT (x := X i) (m := (N : Int)) ⟨c4, by omega⟩
   obtain ⟨x, hx⟩ : ∃ x, x = X i % 18446744073709551616 % (N : Int) := ⟨_, rfl⟩
   rw [← hx] at hm
   obtain ⟨va, vc, rfl⟩ := Row.val hr
   obtain ⟨vb, hva⟩ := hr.addr
   refine run_skip <| run_seq <| run_block <| run_seq <| run_region <| rl_v rfl rfl rfl (ov_move rfl rfl) <| rl_v rfl rfl rfl (ov_move rfl rfl) <| rl_v rfl rfl rfl (ov_index1 rfl Tryz.underlying23 (by kernel_rfl) rfl rfl ⟨by omega, by omega⟩ (by exact hga (by omega))) ?_
   refine rl_v rfl rfl rfl (ov_load rfl Tryz.underlying3 rfl rfl (by exact hrow _ hO.below i (by omega) c2)) ?_
   refine rl_v rfl rfl rfl (ov_conv rfl Tryz.underlying3 Tryz.underlying49 rfl) <| rl_v rfl rfl rfl (ov_move rfl rfl) <| rl_v rfl rfl rfl (ov_convTo (((IntKind.wrap_u64 _).trans (Int.emod_eq_of_lt (by omega) (by omega)))) rfl Tryz.underlying3 Tryz.underlying49 rfl) ?_
   refine rl_v rfl rfl rfl (ov_rem rfl rfl rfl (u64_nn5 _) (by omega)) ?_
   refine rl_v rfl rfl rfl (ov_convTo (hm.1) rfl Tryz.underlying49 Tryz.underlying3 rfl) <| rl_v rfl rfl rfl (ov_assign rfl rfl) <| rl_nil <| run_seq <| run_region <| rl_v rfl rfl rfl (ov_assign rfl rfl) <| rl_nil <| run_seq <| run_seq <| run_region <| rl_v rfl rfl rfl (ov_assign rfl rfl) <| rl_nil <| run_block <| Run.keep [0, 1, 5, 6, 7, 8, 9] (F' := [(0, _), (1, _), (5, _), (6, _), (7, _), (8, _), (9, _)]) rfl <| run_loop2 (fun (j : Nat) (tw : Bool) => [(9, .int .i64 (j : Int)), (8, .bool tw)]) [0, 1, 5, 6, 7] (fun (j : Nat) (tw : Bool) (w6 : World) => j ≤ k ∧ (tw = true ↔ ∃ a : Int, (0 ≤ a ∧ a < j) ∧ E a = x) ∧ Own w.heap.size w w6 [c']) (fun (j : Nat) (tw : Bool) => k - j) (0) (false) ?_ (And.intro (by exact slot_int rfl (by first | omega)) (And.intro (by rfl) (And.intro rfl (And.intro rfl (And.intro rfl (And.intro rfl (And.intro rfl trivial))))))) ?_
   ·exact ⟨Nat.zero_le _, ⟨fun h => Bool.noConfusion h, fun ⟨a, ha, _⟩ => by omega⟩, hO⟩
   intro j tw w6 hIw6 ih7
   obtain ⟨hj, htw, hO2⟩ := hIw6
   show Run _ _ _ _ [(9, _), (8, _), (0, _), (1, _), (5, _), (6, _), (7, _)] _ _
   refine run_seq <| run_seq <| run_region <| rl_v rfl rfl rfl (ov_move rfl rfl) <| rl_v rfl rfl rfl (ov_move rfl rfl) <| rl_v rfl rfl rfl (ov_len rfl Tryz.underlying23 rfl) <| rl_v rfl rfl rfl (ov_lss rfl rfl rfl) <| rl_nil ?_
   first | refine run_cond_dec rfl (fun c5 => ?_) (fun c5 => ?_) | refine run_cond rfl (fun c5 => ?_) (fun c5 => ?_)
   ·refine run_skip <| run_seq <| run_block <| run_region <| rl_v rfl rfl rfl (ov_move rfl rfl) <| rl_v rfl rfl rfl (ov_move rfl rfl) ?_
    first | refine rl_split_dec 40 rfl (fun hg => ?_) (fun hg => ?_) | refine rl_split 40 rfl (fun hg => ?_) (fun hg => ?_)
    ·refine rl_gskip rfl rfl rfl rfl rfl rfl <| rl_gskip rfl rfl rfl rfl rfl rfl <| rl_gskip rfl rfl rfl rfl rfl rfl <| rl_gskip rfl rfl rfl rfl rfl rfl <| rl_gskip rfl rfl rfl rfl rfl rfl <| rl_gskip rfl rfl rfl rfl rfl rfl <| rl_v rfl rfl rfl (ov_pick_t rfl rfl rfl) <| rl_v rfl rfl rfl (ov_assign rfl rfl) <| rl_nil <| run_inBlock <| run_region <| rl_v rfl rfl rfl (ov_move rfl rfl) <| rl_v rfl rfl rfl (ov_add rfl rfl rfl (by omega)) ?_
     refine rl_v rfl rfl rfl (ov_assign rfl rfl) <| rl_nil ?_
     refine Run.use (ih7 (j + 1) (true) _ ?_ ?_) (And.intro (by exact slot_int rfl (by first | omega)) (And.intro (by rfl) (And.intro rfl (And.intro rfl (And.intro rfl (And.intro rfl (And.intro rfl trivial)))))))
     ·first | omega | (dsimp only; omega)
     ·exact ⟨by omega, ⟨fun _ => by obtain ⟨a, ha, e⟩ := htw.1 hg; exact ⟨a, by omega, e⟩, fun _ => rfl⟩, hO2⟩
    ·have htn : ¬ ∃ a : Int, (0 ≤ a ∧ a < j) ∧ E a = x := fun h => by have := htw.2 h; rw [this] at hg; exact absurd hg (by decide)
     refine rl_gv rfl rfl rfl rfl rfl (ov_move rfl rfl) <| rl_gv rfl rfl rfl rfl rfl (ov_move rfl rfl) <| rl_gv rfl rfl rfl rfl rfl (ov_index1 rfl Tryz.underlying23 (by kernel_rfl) rfl rfl ⟨by omega, by omega⟩ (by exact hva (by omega))) ?_
     refine rl_gv rfl rfl rfl rfl rfl (ov_load rfl Tryz.underlying3 rfl rfl (by exact hr.cellU hO2 0 rfl (hva (by omega)) (i := j) (by omega) (by omega))) ?_
     refine rl_gv rfl rfl rfl rfl rfl (ov_move rfl rfl) <| rl_gv rfl rfl rfl rfl rfl (ov_eql rfl rfl rfl) <| rl_v rfl rfl rfl (ov_pick_f rfl rfl rfl) <| rl_v rfl rfl rfl (ov_assign rfl rfl) <| rl_nil <| run_inBlock <| run_region <| rl_v rfl rfl rfl (ov_move rfl rfl) <| rl_v rfl rfl rfl (ov_add rfl rfl rfl (by omega)) ?_
     refine rl_v rfl rfl rfl (ov_assign rfl rfl) <| rl_nil ?_
     refine Run.use (ih7 (j + 1) (decide (E j = x)) _ ?_ ?_) (And.intro (by exact slot_int rfl (by first | omega)) (And.intro (by rfl) (And.intro rfl (And.intro rfl (And.intro rfl (And.intro rfl (And.intro rfl trivial)))))))
     ·first | omega | (dsimp only; omega)
     ·exact ⟨by omega, ⟨fun h => ⟨j, by omega, of_decide_eq_true h⟩, fun ⟨a, ha, e⟩ => by by_cases d : a = j; (rw [d] at e; exact decide_eq_true e); (exact absurd ⟨a, by omega, e⟩ htn)⟩, hO2⟩
   ·have hjk : j = k := by omega
    subst hjk
    refine run_exit rfl <| run_seq <| run_region <| rl_v rfl rfl rfl (ov_move rfl rfl) <| rl_v rfl rfl rfl (ov_not rfl rfl) <| rl_nil ?_
    first | refine run_cond_dec rfl (fun c6 => ?_) (fun c6 => ?_) | refine run_cond rfl (fun c6 => ?_) (fun c6 => ?_)
    ·have hno : ∀ a : Int, 0 ≤ a → a < j → E a ≠ x := fun a a0 a1 e => by
      have := htw.2 ⟨a, ⟨a0, a1⟩, e⟩
      rw [this] at c6
      simp at c6
     refine run_region <| rl_v rfl rfl rfl (ov_move rfl rfl) <| rl_v rfl rfl rfl (ov_move rfl rfl) <| rl_ow rfl (ow_one rfl rfl rfl Tryz.underlying23 info_3 rfl hO2 rfl rfl) ?_
     rintro _ w9 ⟨b9, rfl, hO10, hs11⟩
     refine rl_ow rfl (ow_app1 rfl rfl rfl Tryz.underlying23 info_3 rfl hO10 0 hr rfl rfl rfl rfl ⟨by omega, by omega⟩) ?_
     rintro _ w12 ⟨v5, c7, rfl, hO13, hr5, hs14⟩
     have hL5 : IsL (j + 1) (upd E j x) N := by
      refine ⟨fun a a0 a1 => ?_, fun a b a0 a1 b0 b1 e => ?_⟩
      ·by_cases d : a = j
       ·rw [d, upd_same]; exact hm.2
       ·rw [upd_ne _ _ d]; exact hL.1 a a0 (by omega)
      ·by_cases d : a = j <;> by_cases d2 : b = j
       ·omega
       ·rw [d, upd_same, upd_ne _ _ d2] at e; exact absurd e.symm (hno b b0 (by omega))
       ·rw [d2, upd_same, upd_ne _ _ d] at e; exact absurd e (hno a a0 (by omega))
       ·rw [upd_ne _ _ d, upd_ne _ _ d2] at e; exact hL.2 a b a0 (by omega) b0 (by omega) e
     refine rl_v rfl rfl rfl (ov_assign rfl rfl) <| rl_nil <| run_inBlock <| run_region <| rl_v rfl rfl rfl (ov_move rfl rfl) <| rl_v rfl rfl rfl (ov_add rfl rfl rfl (by omega)) ?_
     refine rl_v rfl rfl rfl (ov_assign rfl rfl) <| rl_nil ?_
     refine Run.use (ih2 (i + 1) (j + 1) (v5) _ ?_ ?_) (And.intro (by exact slot_int rfl (by first | omega)) (And.intro rfl (And.intro rfl (And.intro rfl trivial))))
     ·first | omega | (dsimp only; omega)
     ·exact ⟨_, c7, by omega, by omega, by omega, hL5, hr5.congr (fun a a0 a1 => by unfold upd; split <;> rfl), hO13⟩
    ·refine run_skip <| run_inBlock <| run_region <| rl_v rfl rfl rfl (ov_move rfl rfl) <| rl_v rfl rfl rfl (ov_add rfl rfl rfl (by omega)) ?_
     refine rl_v rfl rfl rfl (ov_assign rfl rfl) <| rl_nil ?_
     refine Run.use (ih2 (i + 1) (j) (.slice va j vc) _ ?_ ?_) (And.intro (by exact slot_int rfl (by first | omega)) (And.intro rfl (And.intro rfl (And.intro rfl trivial))))
     ·first | omega | (dsimp only; omega)
     ·exact ⟨E, c', by omega, by omega, by omega, hL, hr, hO2⟩
  ·refine run_exit rfl <| run_seq <| run_region <| rl_v rfl rfl rfl (ov_move rfl rfl) <| rl_v rfl rfl rfl (ov_assign rfl rfl) <| rl_nil <| run_ret Tryz.func30 (res1 Tryz.results30 rfl) ?_
   exact ⟨_, k, E, c', rfl, by omega, hL, hr, hO⟩
end Go.Proofs.YtlldeifbfpmbaaaGreat
set_option maxRecDepth 100000
namespace Go.Proofs.YtlldeifbfpmbaaaGreat
open Go.RowKit Go.Proofs Go.MapKept
theorem nodup_injM {α : Type} {l : List α} (h : l.Nodup) {i j : Nat} (hi : i < l.length) (hj : j < l.length) (e : l[i] = l[j]) : i = j := by
 have hp := List.pairwise_iff_getElem.1 h
 rcases Nat.lt_trichotomy i j with c | c | c
 ·exact absurd e (hp i j hi hj c)
 ·exact c
 ·exact absurd e.symm (hp j i hj hi c)
end Go.Proofs.YtlldeifbfpmbaaaGreat
