import Derived.Test.YtbepolognfdkeaaGbY
import Derived.Laws.StructEq
set_option maxRecDepth 100000
namespace Go.Proofs.Ytbepolognfdkeaa
open Go.RowKit Go.Proofs Go.MapKept
set_option maxHeartbeats 4000000 in
theorem refBusy_any (la : Option Addr) (lc : Nat) (l : Lds) (c : Nat) (X : Int → Int) (w : World) (hn : l.n ≤ 256) (hV : l.Valid) (hC : Cuts l c X) (hl : SAt w.heap.size w la 4 l.n (ldF l)) :
  Calls Try.prog 20 #[.slice la l.n lc] w fun e w' => ∃ (ba : Option Addr) (bc : Nat) (cb : Option Blk), e = .returned (.slice ba (bzK l X (c - 1)).length bc) ∧ SRow (.slice ba (bzK l X (c - 1)).length bc) 41 3 (bzK l X (c - 1)).length (trF (bzK l X (c - 1))) cb ∧ Own w.heap.size w w' [cb] := by
 obtain ⟨lb, lo, hla, hlr⟩ := hl.open (by decide)
 have hX : ∀ j : Int, 0 ≤ j → j < c → 0 ≤ X j ∧ X j ≤ 1000000 := fun j j0 j1 => hC.rng hV.fit j0 j1
 have hcle := hC.le
 refine calls_of_run (F := [(0, _)]) Try.func20 rfl Try.ntmps20 rfl rfl ?_
 have hO0 := Own.init w
 have hOn := hO0.nil_cons
 refine run_seq <| run_region <| rl_v rfl rfl rfl (ov_assign rfl rfl) <| rl_nil <| run_seq <| run_region <| rl_v rfl rfl rfl (ov_assign rfl rfl) <| rl_nil <| run_seq <| run_seq <| run_region <| rl_v rfl rfl rfl (ov_assign rfl rfl) <| rl_nil <| run_block <| Run.keep [0, 3, 4] (F' := [(0, _), (3, _), (4, _)]) rfl <| run_loop2 (fun (h : Int) (v : Value) => [(4, .int .i64 h), (3, v)]) [0] (fun (h : Int) (v : Value) (w1 : World) => 0 ≤ h ∧ ∃ (T : List Trn) (cb : Option Blk), AtB l c X h T ∧ T.length ≤ h.toNat ∧ SRow v 41 3 T.length (trF T) cb ∧ Own w.heap.size w w1 [cb]) (fun (h : Int) (v : Value) => (1000000 - h).toNat) (0) (.slice none 0 0) ?_ (And.intro (by exact slot_int rfl (by first | omega)) (And.intro rfl (And.intro rfl trivial))) ?_
 ·exact ⟨Int.le_refl _, [], none, AtB.init hX hC, Nat.zero_le _, SRow.nil _ _ _, hOn⟩
 intro h v w1 hIw1 ih2
 obtain ⟨h0, T, cb, hA, hTl, hr, hOc⟩ := hIw1
 show Run _ _ _ _ [(4, _), (3, _), (0, _)] _ _
 refine run_seq <| run_seq <| run_region <| rl_v rfl rfl rfl (ov_move rfl rfl) <| rl_v rfl rfl rfl (ov_lss rfl rfl rfl) <| rl_nil ?_
 first | refine run_cond_dec rfl (fun c1 => ?_) (fun c1 => ?_) | refine run_cond rfl (fun c1 => ?_) (fun c1 => ?_)
 ·refine run_skip <| run_block <| run_seq <| run_region <| rl_v rfl rfl rfl (ov_assign rfl rfl) <| rl_v rfl rfl rfl (ov_assign rfl rfl) <| rl_nil <| run_seq <| run_seq <| run_region <| rl_v rfl rfl rfl (ov_assign rfl rfl) <| rl_nil <| run_block <| Run.keep [0, 3, 4, 5, 6, 7] (F' := [(0, _), (3, _), (4, _), (5, _), (6, _), (7, _)]) rfl <| run_loop3 (fun (j : Nat) (e : Int) (n : Int) => [(7, .int .i64 (j : Int)), (5, .int .i64 e), (6, .int .i64 n)]) [0, 3, 4] (fun (j : Nat) (e : Int) (n : Int) (w3 : World) => j ≤ l.n ∧ Nxt l h j e ∧ n = sm (fun i => ind (l.r i ≤ h ∧ h < l.d i)) j ∧ Own w.heap.size w w3 [cb]) (fun (j : Nat) (e : Int) (n : Int) => l.n - j) (0) (1000000) (0) ?_ (And.intro (by exact slot_int rfl (by first | omega)) (And.intro (by exact slot_int rfl (by first | omega)) (And.intro (by exact slot_int rfl (by first | omega)) (And.intro rfl (And.intro rfl (And.intro rfl trivial)))))) ?_
  ·exact ⟨Nat.zero_le _, ⟨Int.le_refl _, fun i a b => by omega, fun i a b => by omega, .inl rfl⟩, rfl, hOc⟩
  intro j e n w3 hIw3 ih4
  obtain ⟨hj, hN, hnj, hOd⟩ := hIw3
  show Run _ _ _ _ [(7, _), (5, _), (6, _), (0, _), (3, _), (4, _)] _ _
  have hn0 : 0 ≤ n := by rw [hnj]; exact sm_nonneg fun _ _ _ => (ind_rng _).1
  have hn1 : n ≤ j * 1 := by rw [hnj]; exact sm_bound 1 (by omega) fun _ _ _ => (ind_rng _).2
  refine run_seq <| run_seq <| run_region <| rl_v rfl rfl rfl (ov_move rfl rfl) <| rl_v rfl rfl rfl (ov_move rfl rfl) <| rl_v rfl rfl rfl (ov_len rfl Try.underlying22 rfl) <| rl_v rfl rfl rfl (ov_lss rfl rfl rfl) <| rl_nil ?_
  first | refine run_cond_dec rfl (fun c2 => ?_) (fun c2 => ?_) | refine run_cond rfl (fun c2 => ?_) (fun c2 => ?_)
  ·have hv := hV j (by omega) c2
   unfold Lds.Val at hv
   have hns : ∀ z : Int, z = ind (l.r j ≤ h ∧ h < l.d j) → n + z = sm (fun i => ind (l.r i ≤ h ∧ h < l.d i)) ((j + 1 : Nat) : Int) := fun z hz => by
    rw [show ((j + 1 : Nat) : Int) = (j : Int) + 1 by omega, sm_succ _ (by omega), ← hnj, hz]
   refine run_skip <| run_seq <| run_block <| run_seq <| run_seq <| run_region_join 32 (.bool (decide (l.r j ≤ h ∧ h < l.d j))) [0, 3, 4, 5, 6, 7] (fun hk5 => ?_) ?_
   ·refine rl_v rfl rfl rfl (ov_move rfl rfl) <| rl_v rfl rfl rfl (ov_move rfl rfl) <| rl_v rfl rfl rfl (ov_index rfl Try.underlying22 (by kernel_rfl) (s := 4) rfl rfl ⟨by omega, by omega⟩ (by exact hla (by omega))) ?_
    refine rl_v rfl rfl rfl (ov_fieldS rfl Try.underlying72 rfl (fo := 0) rfl (by kernel_rfl) rfl) ?_
    refine rl_v rfl rfl rfl (ov_load rfl Try.underlying3 rfl rfl (by exact hlr _ hOd.below j (by omega) c2 0 (by decide))) ?_
    refine rl_v rfl rfl rfl (ov_move rfl rfl) <| rl_v rfl rfl rfl (ov_leq rfl rfl rfl) <| rl_v rfl rfl rfl (ov_move rfl rfl) ?_
    first | refine rl_split_dec 24 rfl (fun hg6 => ?_) (fun hg6 => ?_) | refine rl_split 24 rfl (fun hg6 => ?_) (fun hg6 => ?_)
    ·refine rl_gv rfl rfl rfl rfl rfl (ov_move rfl rfl) <| rl_gv rfl rfl rfl rfl rfl (ov_move rfl rfl) <| rl_gv rfl rfl rfl rfl rfl (ov_move rfl rfl) <| rl_gv rfl rfl rfl rfl rfl (ov_index rfl Try.underlying22 (by kernel_rfl) (s := 4) rfl rfl ⟨by omega, by omega⟩ (by exact hla (by omega))) ?_
     refine rl_gv rfl rfl rfl rfl rfl (ov_fieldS rfl Try.underlying72 rfl (fo := 1) rfl (by kernel_rfl) rfl) ?_
     refine rl_gv rfl rfl rfl rfl rfl (ov_load rfl Try.underlying3 rfl rfl (by exact hlr _ hOd.below j (by omega) c2 1 (by decide))) ?_
     refine rl_gv rfl rfl rfl rfl rfl (ov_lss rfl rfl rfl) <| rl_v rfl rfl rfl (ov_pick_t rfl rfl rfl) ?_
     refine rl_nil (hk5 _ (jbd rfl (by omega)) (And.intro rfl (And.intro rfl (And.intro rfl (And.intro rfl (And.intro rfl (And.intro rfl trivial)))))))
    ·refine rl_gskip rfl rfl rfl rfl rfl rfl <| rl_gskip rfl rfl rfl rfl rfl rfl <| rl_gskip rfl rfl rfl rfl rfl rfl <| rl_gskip rfl rfl rfl rfl rfl rfl <| rl_gskip rfl rfl rfl rfl rfl rfl <| rl_gskip rfl rfl rfl rfl rfl rfl <| rl_gskip rfl rfl rfl rfl rfl rfl <| rl_v rfl rfl rfl (ov_pick_f rfl rfl rfl) ?_
     refine rl_nil (hk5 _ (jbf rfl (by omega)) (And.intro rfl (And.intro rfl (And.intro rfl (And.intro rfl (And.intro rfl (And.intro rfl trivial)))))))
   ·show Run _ _ _ _ [(32, _), (0, _), (3, _), (4, _), (5, _), (6, _), (7, _)] _ _
    first | refine run_cond_dec rfl (fun c3 => ?_) (fun c3 => ?_) | refine run_cond rfl (fun c3 => ?_) (fun c3 => ?_)
    ·refine run_seq <| run_region <| rl_v rfl rfl rfl (ov_move rfl rfl) <| rl_v rfl rfl rfl (ov_add rfl rfl rfl (by omega)) ?_
     refine rl_v rfl rfl rfl (ov_assign rfl rfl) <| rl_nil <| run_region <| rl_v rfl rfl rfl (ov_move rfl rfl) <| rl_v rfl rfl rfl (ov_move rfl rfl) <| rl_v rfl rfl rfl (ov_move rfl rfl) <| rl_v rfl rfl rfl (ov_index rfl Try.underlying22 (by kernel_rfl) (s := 4) rfl rfl ⟨by omega, by omega⟩ (by exact hla (by omega))) ?_
     refine rl_v rfl rfl rfl (ov_fieldS rfl Try.underlying72 rfl (fo := 1) rfl (by kernel_rfl) rfl) ?_
     refine rl_v rfl rfl rfl (ov_load rfl Try.underlying3 rfl rfl (by exact hlr _ hOd.below j (by omega) c2 1 (by decide))) ?_
     refine rl_v rfl rfl rfl (ov_min rfl rfl rfl) <| rl_v rfl rfl rfl (ov_assign rfl rfl) <| rl_nil <| run_seq <| run_region <| rl_v rfl rfl rfl (ov_move rfl rfl) <| rl_v rfl rfl rfl (ov_move rfl rfl) <| rl_v rfl rfl rfl (ov_index rfl Try.underlying22 (by kernel_rfl) (s := 4) rfl rfl ⟨by omega, by omega⟩ (by exact hla (by omega))) ?_
     refine rl_v rfl rfl rfl (ov_fieldS rfl Try.underlying72 rfl (fo := 0) rfl (by kernel_rfl) rfl) ?_
     refine rl_v rfl rfl rfl (ov_load rfl Try.underlying3 rfl rfl (by exact hlr _ hOd.below j (by omega) c2 0 (by decide))) ?_
     refine rl_v rfl rfl rfl (ov_move rfl rfl) <| rl_v rfl rfl rfl (ov_gtr rfl rfl rfl) <| rl_nil ?_
     first | refine run_cond_dec rfl (fun c4 => ?_) (fun c4 => ?_) | refine run_cond rfl (fun c4 => ?_) (fun c4 => ?_)
     ·exfalso; omega
     ·have hz := hns 1 (ind_t c3).symm
      have hN2 : Nxt l h ((j + 1 : Nat) : Int) (min e (l.d j)) := hN.due1 c3
      refine run_skip <| run_inBlock <| run_region <| rl_v rfl rfl rfl (ov_move rfl rfl) <| rl_v rfl rfl rfl (ov_add rfl rfl rfl (by omega)) ?_
      refine rl_v rfl rfl rfl (ov_assign rfl rfl) <| rl_nil ?_
      refine Run.use (ih4 (j + 1) (min e (l.d j)) (n + 1) _ ?_ ?_) (And.intro (by exact slot_int rfl (by first | omega)) (And.intro (by exact slot_int rfl (by first | omega)) (And.intro (by exact slot_int rfl (by first | omega)) (And.intro rfl (And.intro rfl (And.intro rfl trivial))))))
      ·first | omega | (dsimp only; omega)
      ·exact ⟨by omega, hN2, hz, hOd⟩
    ·have hz := hns 0 (ind_f c3).symm
     refine run_skip <| run_seq <| run_region <| rl_v rfl rfl rfl (ov_move rfl rfl) <| rl_v rfl rfl rfl (ov_move rfl rfl) <| rl_v rfl rfl rfl (ov_index rfl Try.underlying22 (by kernel_rfl) (s := 4) rfl rfl ⟨by omega, by omega⟩ (by exact hla (by omega))) ?_
     refine rl_v rfl rfl rfl (ov_fieldS rfl Try.underlying72 rfl (fo := 0) rfl (by kernel_rfl) rfl) ?_
     refine rl_v rfl rfl rfl (ov_load rfl Try.underlying3 rfl rfl (by exact hlr _ hOd.below j (by omega) c2 0 (by decide))) ?_
     refine rl_v rfl rfl rfl (ov_move rfl rfl) <| rl_v rfl rfl rfl (ov_gtr rfl rfl rfl) <| rl_nil ?_
     first | refine run_cond_dec rfl (fun c4 => ?_) (fun c4 => ?_) | refine run_cond rfl (fun c4 => ?_) (fun c4 => ?_)
     ·have hN2 : Nxt l h ((j + 1 : Nat) : Int) (min e (l.r j)) := hN.rdy1 c4
      refine run_region <| rl_v rfl rfl rfl (ov_move rfl rfl) <| rl_v rfl rfl rfl (ov_move rfl rfl) <| rl_v rfl rfl rfl (ov_move rfl rfl) <| rl_v rfl rfl rfl (ov_index rfl Try.underlying22 (by kernel_rfl) (s := 4) rfl rfl ⟨by omega, by omega⟩ (by exact hla (by omega))) ?_
      refine rl_v rfl rfl rfl (ov_fieldS rfl Try.underlying72 rfl (fo := 0) rfl (by kernel_rfl) rfl) ?_
      refine rl_v rfl rfl rfl (ov_load rfl Try.underlying3 rfl rfl (by exact hlr _ hOd.below j (by omega) c2 0 (by decide))) ?_
      refine rl_v rfl rfl rfl (ov_min rfl rfl rfl) <| rl_v rfl rfl rfl (ov_assign rfl rfl) <| rl_nil <| run_inBlock <| run_region <| rl_v rfl rfl rfl (ov_move rfl rfl) <| rl_v rfl rfl rfl (ov_add rfl rfl rfl (by omega)) ?_
      refine rl_v rfl rfl rfl (ov_assign rfl rfl) <| rl_nil ?_
      refine Run.use (ih4 (j + 1) (min e (l.r j)) (n) _ ?_ ?_) (And.intro (by exact slot_int rfl (by first | omega)) (And.intro (by exact slot_int rfl (by first | omega)) (And.intro (by exact slot_int rfl (by first | omega)) (And.intro rfl (And.intro rfl (And.intro rfl trivial))))))
      ·first | omega | (dsimp only; omega)
      ·exact ⟨by omega, hN2, by omega, hOd⟩
     ·have hN2 : Nxt l h ((j + 1 : Nat) : Int) e := hN.no1 c3 c4
      refine run_skip <| run_inBlock <| run_region <| rl_v rfl rfl rfl (ov_move rfl rfl) <| rl_v rfl rfl rfl (ov_add rfl rfl rfl (by omega)) ?_
      refine rl_v rfl rfl rfl (ov_assign rfl rfl) <| rl_nil ?_
      refine Run.use (ih4 (j + 1) (e) (n) _ ?_ ?_) (And.intro (by exact slot_int rfl (by first | omega)) (And.intro (by exact slot_int rfl (by first | omega)) (And.intro (by exact slot_int rfl (by first | omega)) (And.intro rfl (And.intro rfl (And.intro rfl trivial))))))
      ·first | omega | (dsimp only; omega)
      ·exact ⟨by omega, hN2, by omega, hOd⟩
  ·have hjn : j = l.n := by omega
   rw [hjn] at hN hnj
   obtain ⟨hlt, hA2⟩ := hA.next hC hV hX c1 hN
   rw [← hnj] at hA2
   obtain ⟨ba, bc, rfl⟩ := Row.val hr
   obtain ⟨bb, hba⟩ := hr.addr
   obtain ⟨u, hu⟩ : ∃ u, u = qT T ((T.length : Int) - 1) := ⟨_, rfl⟩
   have hle := hN.le
   refine run_exit rfl <| run_seq <| run_region <| rl_v rfl rfl rfl (ov_move rfl rfl) <| rl_v rfl rfl rfl (ov_len rfl Try.underlying37 rfl) <| rl_v rfl rfl rfl (ov_assign rfl rfl) <| rl_nil <| run_seq <| run_block <| run_seq <| run_region <| rl_v rfl rfl rfl (ov_move rfl rfl) <| rl_v rfl rfl rfl (ov_eql rfl rfl rfl) <| rl_v rfl rfl rfl (ov_assign rfl rfl) <| rl_nil ?_
   first | refine run_cond_dec rfl (fun c5 => ?_) (fun c5 => ?_) | refine run_cond rfl (fun c5 => ?_) (fun c5 => ?_)
   ·rw [c5, stepB_none hA.pos] at hA2
    refine run_skip <| run_inBlock <| run_region <| rl_v rfl rfl rfl (ov_move rfl rfl) <| rl_v rfl rfl rfl (ov_assign rfl rfl) <| rl_nil <| run_inBlock ?_
    refine Run.use (ih2 (e) (.slice ba T.length bc) _ ?_ ?_) (And.intro (by exact slot_int rfl (by first | omega)) (And.intro rfl (And.intro rfl trivial)))
    ·first | omega | (dsimp only; omega)
    ·exact ⟨by omega, T, cb, hA2, by omega, hr, hOd⟩
   ·refine run_seq <| run_region_join 68 (.bool (decide (0 < T.length ∧ u.2.2 = n ∧ u.2.1 = h))) [0, 3, 4, 5, 6, 8] (fun hk7 => ?_) ?_
    ·refine rl_v rfl rfl rfl (ov_move rfl rfl) <| rl_v rfl rfl rfl (ov_gtr rfl rfl rfl) <| rl_v rfl rfl rfl (ov_move rfl rfl) ?_
     first | refine rl_split_dec 71 rfl (fun hg8 => ?_) (fun hg8 => ?_) | refine rl_split 71 rfl (fun hg8 => ?_) (fun hg8 => ?_)
     ·refine rl_gv rfl rfl rfl rfl rfl (ov_move rfl rfl) <| rl_gv rfl rfl rfl rfl rfl (ov_move rfl rfl) <| rl_gv rfl rfl rfl rfl rfl (ov_sub rfl rfl rfl (by omega)) ?_
      refine rl_gv rfl rfl rfl rfl rfl (ov_index rfl Try.underlying37 (by kernel_rfl) (s := 3) rfl rfl ⟨by omega, by omega⟩ (by exact hba (by omega))) ?_
      refine rl_gv rfl rfl rfl rfl rfl (ov_indexA1 rfl Try.underlying41 (by kernel_rfl) rfl rfl ⟨by omega, by omega⟩) ?_
      refine rl_gv rfl rfl rfl rfl rfl (ov_load rfl Try.underlying3 rfl rfl (by exact (hr.cellU hOd 0 rfl (hba (by omega)) ((T.length : Int) - 1) (by omega) (by omega) 1 (by decide)).trans (congrArg (fun z : Trn => some (iv z.2.1)) hu.symm))) ?_
      refine rl_gv rfl rfl rfl rfl rfl (ov_move rfl rfl) <| rl_gv rfl rfl rfl rfl rfl (ov_eql rfl rfl rfl) <| rl_v rfl rfl rfl (ov_pick_t rfl rfl rfl) <| rl_v rfl rfl rfl (ov_move rfl rfl) ?_
      first | refine rl_split_dec 81 rfl (fun hg9 => ?_) (fun hg9 => ?_) | refine rl_split 81 rfl (fun hg9 => ?_) (fun hg9 => ?_)
      ·refine rl_gv rfl rfl rfl rfl rfl (ov_move rfl rfl) <| rl_gv rfl rfl rfl rfl rfl (ov_move rfl rfl) <| rl_gv rfl rfl rfl rfl rfl (ov_sub rfl rfl rfl (by omega)) ?_
       refine rl_gv rfl rfl rfl rfl rfl (ov_index rfl Try.underlying37 (by kernel_rfl) (s := 3) rfl rfl ⟨by omega, by omega⟩ (by exact hba (by omega))) ?_
       refine rl_gv rfl rfl rfl rfl rfl (ov_indexA1 rfl Try.underlying41 (by kernel_rfl) rfl rfl ⟨by omega, by omega⟩) ?_
       refine rl_gv rfl rfl rfl rfl rfl (ov_load rfl Try.underlying3 rfl rfl (by exact (hr.cellU hOd 0 rfl (hba (by omega)) ((T.length : Int) - 1) (by omega) (by omega) 2 (by decide)).trans (congrArg (fun z : Trn => some (iv z.2.2)) hu.symm))) ?_
       refine rl_gv rfl rfl rfl rfl rfl (ov_move rfl rfl) <| rl_gv rfl rfl rfl rfl rfl (ov_eql rfl rfl rfl) <| rl_v rfl rfl rfl (ov_pick_t rfl rfl rfl) <| rl_v rfl rfl rfl (ov_assign rfl rfl) ?_
       refine rl_nil (hk7 _ (jbd rfl (by omega)) (And.intro rfl (And.intro rfl (And.intro rfl (And.intro rfl (And.intro rfl (And.intro rfl trivial)))))))
      ·refine rl_gskip rfl rfl rfl rfl rfl rfl <| rl_gskip rfl rfl rfl rfl rfl rfl <| rl_gskip rfl rfl rfl rfl rfl rfl <| rl_gskip rfl rfl rfl rfl rfl rfl <| rl_gskip rfl rfl rfl rfl rfl rfl <| rl_gskip rfl rfl rfl rfl rfl rfl <| rl_gskip rfl rfl rfl rfl rfl rfl <| rl_gskip rfl rfl rfl rfl rfl rfl <| rl_v rfl rfl rfl (ov_pick_f rfl rfl rfl) <| rl_v rfl rfl rfl (ov_assign rfl rfl) ?_
       refine rl_nil (hk7 _ (jbf rfl (by omega)) (And.intro rfl (And.intro rfl (And.intro rfl (And.intro rfl (And.intro rfl (And.intro rfl trivial)))))))
     ·refine rl_gskip rfl rfl rfl rfl rfl rfl <| rl_gskip rfl rfl rfl rfl rfl rfl <| rl_gskip rfl rfl rfl rfl rfl rfl <| rl_gskip rfl rfl rfl rfl rfl rfl <| rl_gskip rfl rfl rfl rfl rfl rfl <| rl_gskip rfl rfl rfl rfl rfl rfl <| rl_gskip rfl rfl rfl rfl rfl rfl <| rl_gskip rfl rfl rfl rfl rfl rfl <| rl_v rfl rfl rfl (ov_pick_f rfl rfl rfl) <| rl_v rfl rfl rfl (ov_move rfl rfl) <| rl_gskip rfl rfl rfl rfl rfl rfl <| rl_gskip rfl rfl rfl rfl rfl rfl <| rl_gskip rfl rfl rfl rfl rfl rfl <| rl_gskip rfl rfl rfl rfl rfl rfl <| rl_gskip rfl rfl rfl rfl rfl rfl <| rl_gskip rfl rfl rfl rfl rfl rfl <| rl_gskip rfl rfl rfl rfl rfl rfl <| rl_gskip rfl rfl rfl rfl rfl rfl <| rl_v rfl rfl rfl (ov_pick_f rfl rfl rfl) <| rl_v rfl rfl rfl (ov_assign rfl rfl) ?_
      refine rl_nil (hk7 _ (jbf rfl (by omega)) (And.intro rfl (And.intro rfl (And.intro rfl (And.intro rfl (And.intro rfl (And.intro rfl trivial)))))))
    ·show Run _ _ _ _ [(68, _), (0, _), (3, _), (4, _), (5, _), (6, _), (8, _)] _ _
     first | refine run_cond_dec rfl (fun c6 => ?_) (fun c6 => ?_) | refine run_cond rfl (fun c6 => ?_) (fun c6 => ?_)
     ·rw [stepB_same (T := T) (a := h) (b := e) (n := n) (by rw [← hu]; exact c6)] at hA2
      refine run_region <| rl_v rfl rfl rfl (ov_move rfl rfl) <| rl_v rfl rfl rfl (ov_move rfl rfl) <| rl_v rfl rfl rfl (ov_sub rfl rfl rfl (by omega)) ?_
      refine rl_v rfl rfl rfl (ov_move rfl rfl) <| rl_v rfl rfl rfl (ov_index rfl Try.underlying37 (by kernel_rfl) (s := 3) rfl rfl ⟨by omega, by omega⟩ (by exact hba (by omega))) ?_
      refine rl_v rfl rfl rfl (ov_indexA1 rfl Try.underlying41 (by kernel_rfl) rfl rfl ⟨by omega, by omega⟩) ?_
      refine rl_ow rfl (ow_storeR rfl rfl (by kernel_rfl) hOd 0 hr rfl (fun _ => (hba (by omega))) rfl ⟨by omega, by omega⟩ rfl rfl rfl rfl) ?_
      rintro _ w10 ⟨c9, rfl, hO11, hr9, hs12⟩
      have hl9 : (T.set (T.length - 1) ((qT T ((T.length : Int) - 1)).1, e, n)).length = T.length := List.length_set
      have hr10 : SRow (.slice ba T.length bc) 41 3 (T.set (T.length - 1) ((qT T ((T.length : Int) - 1)).1, e, n)).length (trF (T.set (T.length - 1) ((qT T ((T.length : Int) - 1)).1, e, n))) c9 := by
       rw [hl9]
       exact hr9.congr (trF_set c6.1 (by rw [← hu]; exact c6.2.1))
      refine rl_nil <| run_inBlock <| run_region <| rl_v rfl rfl rfl (ov_move rfl rfl) <| rl_v rfl rfl rfl (ov_assign rfl rfl) <| rl_nil <| run_inBlock ?_
      refine Run.use (ih2 (e) (.slice ba T.length bc) _ ?_ ?_) (And.intro (by exact slot_int rfl (by first | omega)) (And.intro rfl (And.intro rfl trivial)))
      ·first | omega | (dsimp only; omega)
      ·exact ⟨by omega, _, c9, hA2, by omega, hr10, hO11⟩
     ·rw [stepB_new (T := T) (a := h) (b := e) (n := n) (by rw [← hu]; exact c6) (by omega)] at hA2
      refine run_region <| rl_v rfl rfl rfl (ov_move rfl rfl) <| rl_v rfl rfl rfl (ov_move rfl rfl) <| rl_v rfl rfl rfl (ov_move rfl rfl) <| rl_v rfl rfl rfl (ov_move rfl rfl) <| rl_v rfl rfl rfl (ov_buildA3 rfl Try.underlying41 zero_41 (by kernel_rfl) rfl rfl rfl rfl rfl rfl rfl) ?_
      refine rl_ow rfl (ow_build [_] rfl rfl rfl rfl rfl Try.underlying37 info_41 (by decide) hOd rfl rfl) ?_
      rintro _ w13 ⟨b63, rfl, hO14, hs15⟩
      refine rl_ow rfl (ow_appR1 rfl rfl rfl Try.underlying37 info_41 rfl rfl hO14 0 hr rfl rfl rfl rfl rfl ⟨by omega, by omega⟩) ?_
      rintro _ w16 ⟨v64, c64, rfl, hO17, hr64, hs18⟩
      have hr10 := trF_row (t := (h, e, n)) hr64
      have hl9 : (T ++ [(h, e, n)]).length = T.length + 1 := by rw [List.length_append]; rfl
      refine rl_v rfl rfl rfl (ov_assign rfl rfl) <| rl_nil <| run_inBlock <| run_region <| rl_v rfl rfl rfl (ov_move rfl rfl) <| rl_v rfl rfl rfl (ov_assign rfl rfl) <| rl_nil <| run_inBlock ?_
      refine Run.use (ih2 (e) (v64) _ ?_ ?_) (And.intro (by exact slot_int rfl (by first | omega)) (And.intro rfl (And.intro rfl trivial)))
      ·first | omega | (dsimp only; omega)
      ·exact ⟨by omega, _, c64, hA2, by omega, hr10, hO17⟩
 ·obtain ⟨ba, bc, rfl⟩ := Row.val hr
  have hTe := hA.done hC hX c1
  subst hTe
  refine run_exit rfl <| run_seq <| run_region <| rl_v rfl rfl rfl (ov_move rfl rfl) <| rl_v rfl rfl rfl (ov_assign rfl rfl) <| rl_nil <| run_ret Try.func20 (res1 Try.results20 rfl) ?_
  exact ⟨ba, bc, cb, rfl, hr, hOc⟩
end Go.Proofs.Ytbepolognfdkeaa
