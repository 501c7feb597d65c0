import Derived.Test.YtbepolognfdkeaaGcD
set_option maxRecDepth 100000
namespace Go.Proofs.Ytbepolognfdkeaa
open Go.RowKit Go.Proofs Go.MapKept
set_option maxHeartbeats 8000000 in
theorem refEarly_any (la : Option Addr) (lc : Nat) (l : Lds) (k : Int) (sa : Option Addr) (sc : Nat) (st : Int → Bool) (w : World) (hn : l.n ≤ 1000) (hV : l.Valid) (hk : 1 ≤ k ∧ k ≤ 1000) (hl : SAt w.heap.size w la 4 l.n (ldF l)) (hst : IAt w.heap.size w sa l.n (fun i => .bool (st i))) :
  Calls Try.prog 36 #[.slice la l.n lc, iv k, .slice sa l.n sc] w fun e w' => ∃ (oa : Option Addr) (on oc : Nat) (out : Int → Int) (co : Option Blk), e = .returned (.tuple #[.slice oa on oc, .bool (decide (CanM l k fun i => st i = true))]) ∧ IRow (.slice oa on oc) 3 on (fun i => iv (out i)) co ∧ (CanM l k (fun i => st i = true) → on = l.n ∧ EdF l k (fun i => st i = true) out) ∧ (¬ CanM l k (fun i => st i = true) → on = 0) ∧ Own w.heap.size w w' [co] := by
 obtain ⟨lb, lo, hla, hlr⟩ := hl.open (by decide)
 obtain ⟨sb, so, hsa, hsr⟩ := hst.open
 refine calls_of_run (F := [(0, _), (1, _), (2, _)]) Try.func36 rfl Try.ntmps36 rfl rfl ?_
 have hO0 := Own.init w
 refine run_seq <| run_region <| rl_v rfl rfl rfl (ov_assign rfl rfl) <| rl_v rfl rfl rfl (ov_assign rfl rfl) <| rl_nil <| run_seq <| run_region <| rl_v rfl rfl rfl (ov_move rfl rfl) <| rl_v rfl rfl rfl (ov_len rfl Try.underlying22 rfl) ?_
 refine rl_make (l.n) rfl rfl rfl rfl Try.underlying47 info_3 rfl hO0 rfl rfl (by rfl) (by rfl) ⟨by omega, by omega⟩ (fun ob w1 hO2 hs3 => ?_)
 refine rl_v rfl rfl rfl (ov_assign rfl rfl) <| rl_nil <| run_seq <| run_region <| rl_v rfl rfl rfl (ov_assign rfl rfl) <| rl_nil <| run_seq <| run_seq <| run_region <| rl_v rfl rfl rfl (ov_assign rfl rfl) <| rl_nil <| run_block <| Run.keep [0, 1, 2, 8, 9, 10] (F' := [(0, _), (1, _), (2, _), (8, _), (9, _), (10, _)]) rfl <| run_loop2 (fun (j : Nat) (f : Int) => [(10, .int .i64 (j : Int)), (9, .int .i64 f)]) [0, 1, 2, 8] (fun (j : Nat) (f : Int) (w4 : World) => j ≤ l.n ∧ f = sm (fun i => ind (st i = true ∧ (-1 : Int) = -1)) j ∧ Own w.heap.size w w4 [some (vch ob 3 l.n (fun i => iv (if i < (j : Int) then -1 else 0)))]) (fun (j : Nat) (f : Int) => l.n - j) (0) (0) ?_ (And.intro (by exact slot_int rfl (by first | omega)) (And.intro (by exact slot_int rfl (by first | omega)) (And.intro rfl (And.intro rfl (And.intro rfl (And.intro rfl trivial)))))) ?_
 ·exact ⟨Nat.zero_le _, rfl, hO2.congrI 0 rfl fun v v0 v1 => by rw [if_neg (by omega)]⟩
 intro j f w4 hIw4 ih5
 obtain ⟨hj, hf, hOa⟩ := hIw4
 show Run _ _ _ _ [(10, _), (9, _), (0, _), (1, _), (2, _), (8, _)] _ _
 have hf0 : 0 ≤ f := by rw [hf]; exact sm_nonneg fun _ _ _ => (ind_rng _).1
 have hf1 : f ≤ j * 1 := by rw [hf]; exact sm_bound 1 (by omega) fun _ _ _ => (ind_rng _).2
 refine run_seq <| run_seq <| run_region <| rl_v rfl rfl rfl (ov_move rfl rfl) <| rl_v rfl rfl rfl (ov_move rfl rfl) <| rl_v rfl rfl rfl (ov_len rfl Try.underlying22 rfl) <| rl_v rfl rfl rfl (ov_lss rfl rfl rfl) <| rl_nil ?_
 first | refine run_cond_dec rfl (fun c1 => ?_) (fun c1 => ?_) | refine run_cond rfl (fun c1 => ?_) (fun c1 => ?_)
 ·have hfs : ∀ z : Int, z = ind (st j = true ∧ (-1 : Int) = -1) → f + z = sm (fun i => ind (st i = true ∧ (-1 : Int) = -1)) ((j + 1 : Nat) : Int) := fun z hz => by
   rw [show ((j + 1 : Nat) : Int) = (j : Int) + 1 by omega, sm_succ _ (by omega), ← hf, hz]
  refine run_skip <| run_seq <| run_block <| run_seq <| run_region <| rl_v rfl rfl rfl (ov_move rfl rfl) <| rl_v rfl rfl rfl (ov_move rfl rfl) <| rl_v rfl rfl rfl (ov_index1 rfl Try.underlying47 (by kernel_rfl) rfl rfl ⟨by omega, by omega⟩ (by rfl)) ?_
  first | refine rl_storeI rfl rfl rfl (by kernel_rfl) hOa 0 rfl rfl ⟨by omega, by omega⟩ rfl (fun w6 hO7 hs8 => ?_)
  have hOs := hO7.congrI 0 rfl (G' := fun i => iv (if i < ((j + 1 : Nat) : Int) then -1 else 0)) (fun v v0 v1 => by
   by_cases e : v = (j : Int)
   ·rw [e, upd_same, if_pos (by omega)]
   ·rw [upd_ne _ _ e]
    by_cases e2 : v < j
    ·rw [if_pos e2, if_pos (by omega)]
    ·rw [if_neg e2, if_neg (by omega)])
  refine rl_nil <| run_seq <| run_region <| rl_v rfl rfl rfl (ov_move rfl rfl) <| rl_v rfl rfl rfl (ov_move rfl rfl) <| rl_v rfl rfl rfl (ov_index1 rfl Try.underlying78 (by kernel_rfl) rfl rfl ⟨by omega, by omega⟩ (by exact hsa (by omega))) ?_
  refine rl_v rfl rfl rfl (ov_load rfl Try.underlying4 rfl rfl (by exact hsr _ hOs.below j (by omega) c1)) ?_
  refine rl_nil ?_
  first | refine run_cond_dec rfl (fun c2 => ?_) (fun c2 => ?_) | refine run_cond rfl (fun c2 => ?_) (fun c2 => ?_)
  ·have hz := hfs 1 (ind_t ⟨c2, rfl⟩).symm
   refine run_region <| rl_v rfl rfl rfl (ov_move rfl rfl) <| rl_v rfl rfl rfl (ov_add rfl rfl rfl (by omega)) ?_
   refine rl_v rfl rfl rfl (ov_assign rfl rfl) <| rl_nil <| run_inBlock <| run_region <| rl_v rfl rfl rfl (ov_move rfl rfl) <| rl_v rfl rfl rfl (ov_add rfl rfl rfl (by omega)) ?_
   refine rl_v rfl rfl rfl (ov_assign rfl rfl) <| rl_nil ?_
   refine Run.use (ih5 (j + 1) (f + 1) _ ?_ ?_) (And.intro (by exact slot_int rfl (by first | omega)) (And.intro (by exact slot_int rfl (by first | omega)) (And.intro rfl (And.intro rfl (And.intro rfl (And.intro rfl trivial))))))
   ·first | omega | (dsimp only; omega)
   ·exact ⟨by omega, hz, hOs⟩
  ·have hz := hfs 0 (ind_f fun h => by rw [h.1] at c2; exact Bool.noConfusion c2).symm
   refine run_skip <| run_inBlock <| run_region <| rl_v rfl rfl rfl (ov_move rfl rfl) <| rl_v rfl rfl rfl (ov_add rfl rfl rfl (by omega)) ?_
   refine rl_v rfl rfl rfl (ov_assign rfl rfl) <| rl_nil ?_
   refine Run.use (ih5 (j + 1) (f) _ ?_ ?_) (And.intro (by exact slot_int rfl (by first | omega)) (And.intro (by exact slot_int rfl (by first | omega)) (And.intro rfl (And.intro rfl (And.intro rfl (And.intro rfl trivial))))))
   ·first | omega | (dsimp only; omega)
   ·exact ⟨by omega, by omega, hOs⟩
 ·have hjn : j = l.n := by omega
  have hOx := hOa.congrI 0 rfl (G' := fun _ => iv (-1)) (fun v v0 v1 => by rw [if_pos (by omega)])
  have hW0 : f = wt7 l (fun i => st i = true) (fun _ => -1) := by rw [hf, hjn]; rfl
  have hkk : 0 ≤ k := by omega
  refine run_exit rfl <| run_seq <| run_seq <| run_region <| rl_v rfl rfl rfl (ov_assign rfl rfl) <| rl_nil <| run_block <| Run.keep [0, 1, 2, 8, 9, 11] (F' := [(0, _), (1, _), (2, _), (8, _), (9, _), (11, _)]) rfl <| run_loop3 (fun (h : Int) (out : Int → Int) (W : Int) => [(11, .int .i64 h), (9, .int .i64 W)]) [0, 1, 2, 8] (fun (h : Int) (out : Int → Int) (W : Int) (w9 : World) => 0 ≤ h ∧ h ≤ 1000000 ∧ Ed l k (fun i => st i = true) h out ∧ W = wt7 l (fun i => st i = true) out ∧ Own w.heap.size w w9 [some (vch ob 3 l.n (fun i => iv (out i)))]) (fun (h : Int) (out : Int → Int) (W : Int) => (1000001 - h).toNat) (0) ((fun _ => -1)) (f) ?_ (And.intro (by exact slot_int rfl (by first | omega)) (And.intro (by exact slot_int rfl (by first | omega)) (And.intro rfl (And.intro rfl (And.intro rfl (And.intro rfl trivial)))))) ?_
  ·exact ⟨Int.le_refl _, by decide, Ed.init hkk, hW0, hOx⟩
  intro h out W w9 hIw9 ih10
  obtain ⟨h0, h1, hE, hW, hOc⟩ := hIw9
  show Run _ _ _ _ [(11, _), (9, _), (0, _), (1, _), (2, _), (8, _)] _ _
  refine run_seq <| run_seq <| run_region <| rl_v rfl rfl rfl (ov_move rfl rfl) <| rl_v rfl rfl rfl (ov_gtr rfl rfl rfl) <| rl_nil ?_
  first | refine run_cond_dec rfl (fun c3 => ?_) (fun c3 => ?_) | refine run_cond rfl (fun c3 => ?_) (fun c3 => ?_)
  ·refine run_skip <| run_block <| run_seq <| run_region <| rl_v rfl rfl rfl (ov_assign rfl rfl) <| rl_nil <| run_seq <| run_seq <| run_region <| rl_v rfl rfl rfl (ov_assign rfl rfl) <| rl_nil <| run_block <| Run.keep [0, 1, 2, 8, 9, 11, 12, 13] (F' := [(0, _), (1, _), (2, _), (8, _), (9, _), (11, _), (12, _), (13, _)]) rfl <| run_loop2 (fun (j : Nat) (e : Int) => [(13, .int .i64 (j : Int)), (12, .int .i64 e)]) [0, 1, 2, 8, 9, 11] (fun (j : Nat) (e : Int) (w11 : World) => j ≤ l.n ∧ e ≤ 1000000 ∧ (∀ i : Int, 0 ≤ i → i < j → st i = true → out i = -1 → e ≤ max h (l.r i)) ∧ (e = 1000000 ∨ ∃ i : Int, (0 ≤ i ∧ i < j) ∧ (st i = true ∧ out i = -1) ∧ e = max h (l.r i)) ∧ Own w.heap.size w w11 [some (vch ob 3 l.n (fun i => iv (out i)))]) (fun (j : Nat) (e : Int) => l.n - j) (0) (1000000) ?_ (And.intro (by exact slot_int rfl (by first | omega)) (And.intro (by exact slot_int rfl (by first | omega)) (And.intro rfl (And.intro rfl (And.intro rfl (And.intro rfl (And.intro rfl (And.intro rfl trivial)))))))) ?_
   ·exact ⟨Nat.zero_le _, Int.le_refl _, fun i a b => by omega, .inl rfl, hOc⟩
   intro j e w11 hIw11 ih12
   obtain ⟨hj, he, hev, hex, hOd⟩ := hIw11
   show Run _ _ _ _ [(13, _), (12, _), (0, _), (1, _), (2, _), (8, _), (9, _), (11, _)] _ _
   refine run_seq <| run_seq <| run_region <| rl_v rfl rfl rfl (ov_move rfl rfl) <| rl_v rfl rfl rfl (ov_move rfl rfl) <| rl_v rfl rfl rfl (ov_len rfl Try.underlying22 rfl) <| rl_v rfl rfl rfl (ov_lss rfl rfl rfl) <| rl_nil ?_
   first | refine run_cond_dec rfl (fun c4 => ?_) (fun c4 => ?_) | refine run_cond rfl (fun c4 => ?_) (fun c4 => ?_)
   ·have hv := hV j (by omega) c4
    unfold Lds.Val at hv
    refine run_skip <| run_seq <| run_block <| run_seq <| run_region_join 53 (.bool (decide (st j = true ∧ out j < 0))) [0, 1, 2, 8, 9, 11, 12, 13] (fun hk13 => ?_) ?_
    ·refine rl_v rfl rfl rfl (ov_move rfl rfl) <| rl_v rfl rfl rfl (ov_move rfl rfl) <| rl_v rfl rfl rfl (ov_index1 rfl Try.underlying78 (by kernel_rfl) rfl rfl ⟨by omega, by omega⟩ (by exact hsa (by omega))) ?_
     refine rl_v rfl rfl rfl (ov_load rfl Try.underlying4 rfl rfl (by exact hsr _ hOd.below j (by omega) c4)) ?_
     refine rl_v rfl rfl rfl (ov_move rfl rfl) ?_
     first | refine rl_split_dec 47 rfl (fun hg14 => ?_) (fun hg14 => ?_) | refine rl_split 47 rfl (fun hg14 => ?_) (fun hg14 => ?_)
     ·refine rl_gv rfl rfl rfl rfl rfl (ov_move rfl rfl) <| rl_gv rfl rfl rfl rfl rfl (ov_move rfl rfl) <| rl_gv rfl rfl rfl rfl rfl (ov_index1 rfl Try.underlying47 (by kernel_rfl) rfl rfl ⟨by omega, by omega⟩ (by rfl)) ?_
      refine rl_gv rfl rfl rfl rfl rfl (ov_load rfl Try.underlying3 rfl rfl (by exact hOd.cellI 0 rfl j (by omega) c4)) ?_
      refine rl_gv rfl rfl rfl rfl rfl (ov_lss rfl rfl rfl) <| rl_v rfl rfl rfl (ov_pick_t rfl rfl rfl) ?_
      refine rl_nil (hk13 _ (jbd rfl (by grind)) (And.intro rfl (And.intro rfl (And.intro rfl (And.intro rfl (And.intro rfl (And.intro rfl (And.intro rfl (And.intro rfl trivial)))))))))
     ·refine rl_gskip rfl rfl rfl rfl rfl rfl <| rl_gskip rfl rfl rfl rfl rfl rfl <| rl_gskip rfl rfl rfl rfl rfl rfl <| rl_gskip rfl rfl rfl rfl rfl rfl <| rl_gskip rfl rfl rfl rfl rfl rfl <| rl_v rfl rfl rfl (ov_pick_f rfl rfl rfl) ?_
      refine rl_nil (hk13 _ (jbf rfl (by grind)) (And.intro rfl (And.intro rfl (And.intro rfl (And.intro rfl (And.intro rfl (And.intro rfl (And.intro rfl (And.intro rfl trivial)))))))))
    ·show Run _ _ _ _ [(53, _), (0, _), (1, _), (2, _), (8, _), (9, _), (11, _), (12, _), (13, _)] _ _
     first | refine run_cond_dec rfl (fun c5 => ?_) (fun c5 => ?_) | refine run_cond rfl (fun c5 => ?_) (fun c5 => ?_)
     ·have hev2 : ∀ i : Int, 0 ≤ i → i < ((j + 1 : Nat) : Int) → st i = true → out i = -1 → min e (max h (l.r j)) ≤ max h (l.r i) := fun i a b c d => by
       by_cases e9 : i = (j : Int)
       ·rw [e9]; omega
       ·have := hev i a (by omega) c d; omega
      have hneg := hE.neg hV (i := j) (by omega) c4 c5.1
      have hex2 : min e (max h (l.r j)) = 1000000 ∨ ∃ i : Int, (0 ≤ i ∧ i < ((j + 1 : Nat) : Int)) ∧ (st i = true ∧ out i = -1) ∧ min e (max h (l.r j)) = max h (l.r i) := by
       by_cases e9 : e ≤ max h (l.r j)
       ·rw [show min e (max h (l.r j)) = e by omega]
        exact hex.imp id fun ⟨i, hi, a⟩ => ⟨i, by omega, a⟩
       ·exact .inr ⟨j, by omega, ⟨c5.1, by omega⟩, by omega⟩
      refine run_region <| rl_v rfl rfl rfl (ov_move rfl rfl) <| rl_v rfl rfl rfl (ov_move rfl rfl) <| rl_v rfl rfl rfl (ov_move rfl rfl) <| rl_v rfl rfl rfl (ov_move rfl rfl) <| rl_v rfl rfl rfl (ov_index rfl Try.underlying22 (by kernel_rfl) (s := 4) rfl rfl ⟨by omega, by omega⟩ (by exact hla (by omega))) ?_
      refine rl_v rfl rfl rfl (ov_fieldS rfl Try.underlying72 rfl (fo := 0) rfl (by kernel_rfl) rfl) ?_
      refine rl_v rfl rfl rfl (ov_load rfl Try.underlying3 rfl rfl (by exact hlr _ hOd.below j (by omega) c4 0 (by decide))) ?_
      refine rl_v rfl rfl rfl (ov_max rfl rfl rfl) <| rl_v rfl rfl rfl (ov_min rfl rfl rfl) <| rl_v rfl rfl rfl (ov_assign rfl rfl) <| rl_nil <| run_inBlock <| run_region <| rl_v rfl rfl rfl (ov_move rfl rfl) <| rl_v rfl rfl rfl (ov_add rfl rfl rfl (by omega)) ?_
      refine rl_v rfl rfl rfl (ov_assign rfl rfl) <| rl_nil ?_
      refine Run.use (ih12 (j + 1) (min e (max h (l.r j))) _ ?_ ?_) (And.intro (by exact slot_int rfl (by first | omega)) (And.intro (by exact slot_int rfl (by first | omega)) (And.intro rfl (And.intro rfl (And.intro rfl (And.intro rfl (And.intro rfl (And.intro rfl trivial))))))))
      ·first | omega | (dsimp only; omega)
      ·exact ⟨by omega, by omega, hev2, hex2, hOd⟩
     ·have hev2 : ∀ i : Int, 0 ≤ i → i < ((j + 1 : Nat) : Int) → st i = true → out i = -1 → e ≤ max h (l.r i) := fun i a b c d => by
       by_cases e9 : i = (j : Int)
       ·rw [e9] at c d; exact absurd ⟨c, by omega⟩ c5
       ·exact hev i a (by omega) c d
      have hex2 : e = 1000000 ∨ ∃ i : Int, (0 ≤ i ∧ i < ((j + 1 : Nat) : Int)) ∧ (st i = true ∧ out i = -1) ∧ e = max h (l.r i) := hex.imp id fun ⟨i, hi, a⟩ => ⟨i, by omega, a⟩
      refine run_skip <| run_inBlock <| run_region <| rl_v rfl rfl rfl (ov_move rfl rfl) <| rl_v rfl rfl rfl (ov_add rfl rfl rfl (by omega)) ?_
      refine rl_v rfl rfl rfl (ov_assign rfl rfl) <| rl_nil ?_
      refine Run.use (ih12 (j + 1) (e) _ ?_ ?_) (And.intro (by exact slot_int rfl (by first | omega)) (And.intro (by exact slot_int rfl (by first | omega)) (And.intro rfl (And.intro rfl (And.intro rfl (And.intro rfl (And.intro rfl (And.intro rfl trivial))))))))
      ·first | omega | (dsimp only; omega)
      ·exact ⟨by omega, he, hev2, hex2, hOd⟩
   ·have hjn2 : j = l.n := by omega
    rw [hjn2] at hev hex
    have hhe : h ≤ e := by
     rcases hex with a | ⟨i, hi, _, a⟩ <;> omega
    have hE2 : Ed l k (fun i => st i = true) e out := by
     by_cases e9 : e = h
     ·rw [e9]; exact hE
     ·exact hE.skip hhe fun i i0 i1 hS ho => by have := hev i i0 i1 hS ho; omega
    have he0 : 0 ≤ e := by omega
    have hI0 := hE2.start he0 hkk
    have hav9 : ∃ i : Int, (0 ≤ i ∧ i < l.n) ∧ st i = true ∧ out i = -1 ∧ l.r i ≤ e := by
     rcases hex with a | ⟨i, hi, ⟨a1, a2⟩, a⟩
     ·obtain ⟨i, hi, a1, a2⟩ := wt7_some (l := l) (S := fun i => st i = true) (out := out) (by omega)
      have hv := hV i hi.1 hi.2
      unfold Lds.Val at hv
      exact ⟨i, hi, a1, a2, by omega⟩
     ·exact ⟨i, hi, a1, a2, by omega⟩
    refine run_exit rfl <| run_seq <| run_region <| rl_v rfl rfl rfl (ov_move rfl rfl) <| rl_v rfl rfl rfl (ov_assign rfl rfl) <| rl_nil <| run_seq <| run_seq <| run_region <| rl_v rfl rfl rfl (ov_assign rfl rfl) <| rl_nil <| Run.keep [0, 1, 2, 8, 9, 11, 14] (F' := [(0, _), (1, _), (2, _), (8, _), (9, _), (11, _), (14, _)]) rfl <| run_join2 (fun (out3 : Int → Int) (W3 : Int) => [(9, .int .i64 W3)]) [0, 1, 2, 8, 11] (fun (out3 : Int → Int) (W3 : Int) (w15 : World) => Ed l k (fun i => st i = true) (e + 1) out3 ∧ W3 = wt7 l (fun i => st i = true) out3 ∧ e + 1 ≤ 1000000 ∧ Own w.heap.size w w15 [some (vch ob 3 l.n (fun i => iv (out3 i)))]) (fun hk16 => ?_) ?_
    ·refine run_block <| Run.keep [0, 1, 2, 8, 9, 11, 14] (F' := [(0, _), (1, _), (2, _), (8, _), (9, _), (11, _), (14, _)]) rfl <| run_loop3 (fun (m : Nat) (out2 : Int → Int) (W2 : Int) => [(14, .int .i64 (m : Int)), (9, .int .i64 W2)]) [0, 1, 2, 8, 11] (fun (m : Nat) (out2 : Int → Int) (W2 : Int) (w17 : World) => (m : Int) ≤ k ∧ EdI l k (fun i => st i = true) e m out2 ∧ W2 = wt7 l (fun i => st i = true) out2 ∧ (0 < m → e < 1000000) ∧ (m = 0 → out2 = out) ∧ Own w.heap.size w w17 [some (vch ob 3 l.n (fun i => iv (out2 i)))]) (fun (m : Nat) (out2 : Int → Int) (W2 : Int) => k.toNat - m) (0) (out) (W) ?_ (And.intro (by exact slot_int rfl (by first | omega)) (And.intro (by exact slot_int rfl (by first | omega)) (And.intro rfl (And.intro rfl (And.intro rfl (And.intro rfl (And.intro rfl trivial))))))) ?_
     ·exact ⟨by omega, hI0, hW, fun a => by omega, fun _ => rfl, hOd⟩
     intro m out2 W2 w17 hIw17 ih18
     obtain ⟨hm, hI, hW2, hmp, hm0, hOe⟩ := hIw17
     show Run _ _ _ _ [(14, _), (9, _), (0, _), (1, _), (2, _), (8, _), (11, _)] _ _
     refine run_seq <| run_seq <| run_region <| rl_v rfl rfl rfl (ov_move rfl rfl) <| rl_v rfl rfl rfl (ov_move rfl rfl) <| rl_v rfl rfl rfl (ov_lss rfl rfl rfl) <| rl_nil ?_
     first | refine run_cond_dec rfl (fun c6 => ?_) (fun c6 => ?_) | refine run_cond rfl (fun c6 => ?_) (fun c6 => ?_)
     ·refine run_skip <| run_seq <| run_block <| run_seq <| run_region <| rl_v rfl rfl rfl (ov_assign rfl rfl) <| rl_nil <| run_seq <| run_seq <| run_region <| rl_v rfl rfl rfl (ov_assign rfl rfl) <| rl_nil <| run_block <| Run.keep [0, 1, 2, 8, 9, 11, 14, 15, 16] (F' := [(0, _), (1, _), (2, _), (8, _), (9, _), (11, _), (14, _), (15, _), (16, _)]) rfl <| run_loop2 (fun (i : Nat) (b : Int) => [(16, .int .i64 (i : Int)), (15, .int .i64 b)]) [0, 1, 2, 8, 9, 11, 14] (fun (i : Nat) (b : Int) (w19 : World) => i ≤ l.n ∧ ((b = -1 ∧ ∀ a : Int, 0 ≤ a → a < i → ¬ (st a = true ∧ out2 a = -1 ∧ l.r a ≤ e)) ∨ ((0 ≤ b ∧ b < i) ∧ (st b = true ∧ out2 b = -1 ∧ l.r b ≤ e) ∧ ∀ a : Int, 0 ≤ a → a < i → (st a = true ∧ out2 a = -1 ∧ l.r a ≤ e) → a ≠ b → lex l.d b a)) ∧ Own w.heap.size w w19 [some (vch ob 3 l.n (fun i => iv (out2 i)))]) (fun (i : Nat) (b : Int) => l.n - i) (0) (-1) ?_ (And.intro (by exact slot_int rfl (by first | omega)) (And.intro (by exact slot_int rfl (by first | omega)) (And.intro rfl (And.intro rfl (And.intro rfl (And.intro rfl (And.intro rfl (And.intro rfl (And.intro rfl trivial))))))))) ?_
      ·exact ⟨Nat.zero_le _, .inl ⟨rfl, fun a b c => by omega⟩, hOe⟩
      intro i b w19 hIw19 ih20
      obtain ⟨hi, hB, hOf⟩ := hIw19
      show Run _ _ _ _ [(16, _), (15, _), (0, _), (1, _), (2, _), (8, _), (9, _), (11, _), (14, _)] _ _
      refine run_seq <| run_seq <| run_region <| rl_v rfl rfl rfl (ov_move rfl rfl) <| rl_v rfl rfl rfl (ov_move rfl rfl) <| rl_v rfl rfl rfl (ov_len rfl Try.underlying22 rfl) <| rl_v rfl rfl rfl (ov_lss rfl rfl rfl) <| rl_nil ?_
      first | refine run_cond_dec rfl (fun c7 => ?_) (fun c7 => ?_) | refine run_cond rfl (fun c7 => ?_) (fun c7 => ?_)
      ·have hbr : b = -1 ∨ (0 ≤ b ∧ b < l.n) := by
        rcases hB with a | a
        ·exact .inl a.1
        ·exact .inr (by omega)
       have hng : st i = true → out2 i = -1 ∨ 0 ≤ out2 i := fun h => hI.neg hV (by omega) c7 h
       refine run_skip <| run_seq <| run_block <| run_seq ?_
       refine run_quiet_join mixed (by kernel_rfl) 111 (.bool (decide (st i = true ∧ out2 i < 0 ∧ l.r i ≤ e ∧ (b < 0 ∨ l.d i < l.d b)))) [0, 1, 2, 8, 9, 11, 14, 15, 16] (fun hk21 => ?_) (fun n22 => ?_)
       ·refine rq_v rfl rfl rfl (fun _ => ov_move rfl rfl) ?_
        refine rq_v rfl rfl rfl (fun _ => ov_move rfl rfl) ?_
        refine rq_v rfl rfl rfl (fun _ => ov_index1 rfl Try.underlying78 (by kernel_rfl) rfl rfl ⟨by omega, by omega⟩ (by exact hsa (by omega))) ?_
        refine rq_v rfl rfl rfl (fun _ => ov_load rfl Try.underlying4 rfl rfl (by show World.cell? w19 _ = _; first | exact hsr _ hOf.below i (by omega) c7)) ?_
        refine rq_v rfl rfl rfl (fun _ => ov_move rfl rfl) ?_
        first | refine rq_split_dec 79 rfl (fun hg23 => ?_) (fun hg23 => ?_) | refine rq_split 79 rfl (fun hg23 => ?_) (fun hg23 => ?_)
        ·refine rq_gv rfl rfl rfl rfl rfl (fun _ => ov_move rfl rfl) ?_
         refine rq_gv rfl rfl rfl rfl rfl (fun _ => ov_move rfl rfl) ?_
         refine rq_gv rfl rfl rfl rfl rfl (fun _ => ov_index1 rfl Try.underlying47 (by kernel_rfl) rfl rfl ⟨by omega, by omega⟩ (by rfl)) ?_
         refine rq_gv rfl rfl rfl rfl rfl (fun _ => ov_load rfl Try.underlying3 rfl rfl (by show World.cell? w19 _ = _; first | exact hOf.cellI 0 rfl i (by omega) c7)) ?_
         refine rq_gv rfl rfl rfl rfl rfl (fun _ => ov_lss rfl rfl rfl) ?_
         refine rq_v rfl rfl rfl (fun _ => ov_pick_t rfl rfl rfl) ?_
         refine rq_v rfl rfl rfl (fun _ => ov_move rfl rfl) ?_
         first | refine rq_split_dec 86 rfl (fun hg24 => ?_) (fun hg24 => ?_) | refine rq_split 86 rfl (fun hg24 => ?_) (fun hg24 => ?_)
         ·refine rq_gv rfl rfl rfl rfl rfl (fun _ => ov_move rfl rfl) ?_
          refine rq_gv rfl rfl rfl rfl rfl (fun _ => ov_move rfl rfl) ?_
          refine rq_gv rfl rfl rfl rfl rfl (fun _ => ov_index rfl Try.underlying22 (by kernel_rfl) (s := 4) rfl rfl ⟨by omega, by omega⟩ (by exact hla (by omega))) ?_
          refine rq_gv rfl rfl rfl rfl rfl (fun _ => ov_fieldS rfl Try.underlying72 rfl (fo := 0) rfl (by kernel_rfl) rfl) ?_
          refine rq_gv rfl rfl rfl rfl rfl (fun _ => ov_load rfl Try.underlying3 rfl rfl (by show World.cell? w19 _ = _; first | exact hlr _ hOf.below i (by omega) c7 0 (by decide))) ?_
          refine rq_gv rfl rfl rfl rfl rfl (fun _ => ov_move rfl rfl) ?_
          refine rq_gv rfl rfl rfl rfl rfl (fun _ => ov_leq rfl rfl rfl) ?_
          refine rq_v rfl rfl rfl (fun _ => ov_pick_t rfl rfl rfl) ?_
          refine rq_v rfl rfl rfl (fun _ => ov_move rfl rfl) ?_
          first | refine rq_split_dec 95 rfl (fun hg25 => ?_) (fun hg25 => ?_) | refine rq_split 95 rfl (fun hg25 => ?_) (fun hg25 => ?_)
          ·refine rq_gv rfl rfl rfl rfl rfl (fun _ => ov_move rfl rfl) ?_
           refine rq_gv rfl rfl rfl rfl rfl (fun _ => ov_lss rfl rfl rfl) ?_
           refine rq_gv rfl rfl rfl rfl rfl (fun _ => ov_move rfl rfl) ?_
           first | refine rq_split_dec 98 rfl (fun hg26 => ?_) (fun hg26 => ?_) | refine rq_split 98 rfl (fun hg26 => ?_) (fun hg26 => ?_)
           ·refine rq_gskip rfl rfl rfl rfl rfl rfl <| rq_gskip rfl rfl rfl rfl rfl rfl <| rq_gskip rfl rfl rfl rfl rfl rfl <| rq_gskip rfl rfl rfl rfl rfl rfl <| rq_gskip rfl rfl rfl rfl rfl rfl <| rq_gskip rfl rfl rfl rfl rfl rfl <| rq_gskip rfl rfl rfl rfl rfl rfl <| rq_gskip rfl rfl rfl rfl rfl rfl <| rq_gskip rfl rfl rfl rfl rfl rfl <| rq_gskip rfl rfl rfl rfl rfl rfl <| rq_gskip rfl rfl rfl rfl rfl rfl <| rq_gv rfl rfl rfl rfl rfl (fun _ => ov_pick_t rfl rfl rfl) ?_
            refine rq_v rfl rfl rfl (fun _ => ov_pick_t rfl rfl rfl) ?_
            refine rq_nil (fun n => hk21 n _ (jbt rfl (by grind)) (And.intro rfl (And.intro rfl (And.intro rfl (And.intro rfl (And.intro rfl (And.intro rfl (And.intro rfl (And.intro rfl (And.intro rfl trivial))))))))))
           ·refine rq_gv rfl rfl rfl rfl rfl (fun _ => ov_move rfl rfl) ?_
            refine rq_gv rfl rfl rfl rfl rfl (fun _ => ov_move rfl rfl) ?_
            refine rq_gv rfl rfl rfl rfl rfl (fun _ => ov_index rfl Try.underlying22 (by kernel_rfl) (s := 4) rfl rfl ⟨by omega, by omega⟩ (by exact hla (by omega))) ?_
            refine rq_gv rfl rfl rfl rfl rfl (fun _ => ov_fieldS rfl Try.underlying72 rfl (fo := 1) rfl (by kernel_rfl) rfl) ?_
            refine rq_gv rfl rfl rfl rfl rfl (fun _ => ov_load rfl Try.underlying3 rfl rfl (by show World.cell? w19 _ = _; first | exact hlr _ hOf.below i (by omega) c7 1 (by decide))) ?_
            refine rq_gv rfl rfl rfl rfl rfl (fun _ => ov_move rfl rfl) ?_
            refine rq_gv rfl rfl rfl rfl rfl (fun _ => ov_move rfl rfl) ?_
            refine rq_gv rfl rfl rfl rfl rfl (fun _ => ov_index rfl Try.underlying22 (by kernel_rfl) (s := 4) rfl rfl ⟨by omega, by omega⟩ (by exact hla (by omega))) ?_
            refine rq_gv rfl rfl rfl rfl rfl (fun _ => ov_fieldS rfl Try.underlying72 rfl (fo := 1) rfl (by kernel_rfl) rfl) ?_
            refine rq_gv rfl rfl rfl rfl rfl (fun _ => ov_load rfl Try.underlying3 rfl rfl (by show World.cell? w19 _ = _; first | exact hlr _ hOf.below b (by omega) (by omega) 1 (by decide))) ?_
            refine rq_gv rfl rfl rfl rfl rfl (fun _ => ov_lss rfl rfl rfl) ?_
            refine rq_gv rfl rfl rfl rfl rfl (fun _ => ov_pick_f rfl rfl rfl) ?_
            refine rq_v rfl rfl rfl (fun _ => ov_pick_t rfl rfl rfl) ?_
            refine rq_nil (fun n => hk21 n _ (jbd rfl (by grind)) (And.intro rfl (And.intro rfl (And.intro rfl (And.intro rfl (And.intro rfl (And.intro rfl (And.intro rfl (And.intro rfl (And.intro rfl trivial))))))))))
          ·refine rq_gskip rfl rfl rfl rfl rfl rfl <| rq_gskip rfl rfl rfl rfl rfl rfl <| rq_gskip rfl rfl rfl rfl rfl rfl <| rq_gundef rfl rfl rfl rfl rfl <| rq_gundef rfl rfl rfl rfl rfl <| rq_gundef rfl rfl rfl rfl rfl <| rq_gundef rfl rfl rfl rfl rfl <| rq_gundef rfl rfl rfl rfl rfl <| rq_gundef rfl rfl rfl rfl rfl <| rq_gundef rfl rfl rfl rfl rfl <| rq_gundef rfl rfl rfl rfl rfl <| rq_gundef rfl rfl rfl rfl rfl <| rq_gundef rfl rfl rfl rfl rfl <| rq_gundef rfl rfl rfl rfl rfl <| rq_gskip rfl rfl rfl rfl rfl rfl <| rq_v rfl rfl rfl (fun _ => ov_pick_f rfl rfl rfl) ?_
           refine rq_nil (fun n => hk21 n _ (jbf rfl (by omega)) (And.intro rfl (And.intro rfl (And.intro rfl (And.intro rfl (And.intro rfl (And.intro rfl (And.intro rfl (And.intro rfl (And.intro rfl trivial))))))))))
         ·refine rq_gskip rfl rfl rfl rfl rfl rfl <| rq_gskip rfl rfl rfl rfl rfl rfl <| rq_gskip rfl rfl rfl rfl rfl rfl <| rq_gskip rfl rfl rfl rfl rfl rfl <| rq_gskip rfl rfl rfl rfl rfl rfl <| rq_gskip rfl rfl rfl rfl rfl rfl <| rq_gskip rfl rfl rfl rfl rfl rfl <| rq_v rfl rfl rfl (fun _ => ov_pick_f rfl rfl rfl) ?_
          refine rq_v rfl rfl rfl (fun _ => ov_move rfl rfl) ?_
          refine rq_gskip rfl rfl rfl rfl rfl rfl <| rq_gskip rfl rfl rfl rfl rfl rfl <| rq_gskip rfl rfl rfl rfl rfl rfl <| rq_gundef rfl rfl rfl rfl rfl <| rq_gundef rfl rfl rfl rfl rfl <| rq_gundef rfl rfl rfl rfl rfl <| rq_gundef rfl rfl rfl rfl rfl <| rq_gundef rfl rfl rfl rfl rfl <| rq_gundef rfl rfl rfl rfl rfl <| rq_gundef rfl rfl rfl rfl rfl <| rq_gundef rfl rfl rfl rfl rfl <| rq_gundef rfl rfl rfl rfl rfl <| rq_gundef rfl rfl rfl rfl rfl <| rq_gundef rfl rfl rfl rfl rfl <| rq_gskip rfl rfl rfl rfl rfl rfl <| rq_v rfl rfl rfl (fun _ => ov_pick_f rfl rfl rfl) ?_
          refine rq_nil (fun n => hk21 n _ (jbf rfl (by omega)) (And.intro rfl (And.intro rfl (And.intro rfl (And.intro rfl (And.intro rfl (And.intro rfl (And.intro rfl (And.intro rfl (And.intro rfl trivial))))))))))
        ·refine rq_gskip rfl rfl rfl rfl rfl rfl <| rq_gskip rfl rfl rfl rfl rfl rfl <| rq_gskip rfl rfl rfl rfl rfl rfl <| rq_gskip rfl rfl rfl rfl rfl rfl <| rq_gskip rfl rfl rfl rfl rfl rfl <| rq_v rfl rfl rfl (fun _ => ov_pick_f rfl rfl rfl) ?_
         refine rq_v rfl rfl rfl (fun _ => ov_move rfl rfl) ?_
         refine rq_gskip rfl rfl rfl rfl rfl rfl <| rq_gskip rfl rfl rfl rfl rfl rfl <| rq_gskip rfl rfl rfl rfl rfl rfl <| rq_gskip rfl rfl rfl rfl rfl rfl <| rq_gskip rfl rfl rfl rfl rfl rfl <| rq_gskip rfl rfl rfl rfl rfl rfl <| rq_gskip rfl rfl rfl rfl rfl rfl <| rq_v rfl rfl rfl (fun _ => ov_pick_f rfl rfl rfl) ?_
         refine rq_v rfl rfl rfl (fun _ => ov_move rfl rfl) ?_
         refine rq_gskip rfl rfl rfl rfl rfl rfl <| rq_gskip rfl rfl rfl rfl rfl rfl <| rq_gskip rfl rfl rfl rfl rfl rfl <| rq_gundef rfl rfl rfl rfl rfl <| rq_gundef rfl rfl rfl rfl rfl <| rq_gundef rfl rfl rfl rfl rfl <| rq_gundef rfl rfl rfl rfl rfl <| rq_gundef rfl rfl rfl rfl rfl <| rq_gundef rfl rfl rfl rfl rfl <| rq_gundef rfl rfl rfl rfl rfl <| rq_gundef rfl rfl rfl rfl rfl <| rq_gundef rfl rfl rfl rfl rfl <| rq_gundef rfl rfl rfl rfl rfl <| rq_gundef rfl rfl rfl rfl rfl <| rq_gskip rfl rfl rfl rfl rfl rfl <| rq_v rfl rfl rfl (fun _ => ov_pick_f rfl rfl rfl) ?_
         refine rq_nil (fun n => hk21 n _ (jbf rfl (by grind)) (And.intro rfl (And.intro rfl (And.intro rfl (And.intro rfl (And.intro rfl (And.intro rfl (And.intro rfl (And.intro rfl (And.intro rfl trivial))))))))))
       ·have hO28 := hOf.drewN n22
        generalize World.drewN w19 n22 = w27 at hO28 ⊢
        show Run _ _ _ _ [(111, _), (0, _), (1, _), (2, _), (8, _), (9, _), (11, _), (14, _), (15, _), (16, _)] _ _
        first | refine run_cond_dec rfl (fun c8 => ?_) (fun c8 => ?_) | refine run_cond rfl (fun c8 => ?_) (fun c8 => ?_)
        ·have hB2 : ((i : Int) = -1 ∧ ∀ a : Int, 0 ≤ a → a < ((i + 1 : Nat) : Int) → ¬ (st a = true ∧ out2 a = -1 ∧ l.r a ≤ e)) ∨ ((0 ≤ (i : Int) ∧ (i : Int) < ((i + 1 : Nat) : Int)) ∧ (st i = true ∧ out2 i = -1 ∧ l.r i ≤ e) ∧ ∀ a : Int, 0 ≤ a → a < ((i + 1 : Nat) : Int) → (st a = true ∧ out2 a = -1 ∧ l.r a ≤ e) → a ≠ i → lex l.d i a) := by
          have h9 := hng c8.1
          refine .inr ⟨by omega, ⟨c8.1, by omega, c8.2.2.1⟩, fun a a0 a1 ha hne => ?_⟩
          rcases hB with q | q
          ·exact absurd ha (q.2 a a0 (by omega))
          ·have hdb : l.d i < l.d b := by omega
           by_cases e9 : a = b
           ·rw [e9]; exact .inl hdb
           ·have := q.2.2 a a0 (by omega) ha e9
            unfold lex at this ⊢; omega
         refine run_region <| rl_v rfl rfl rfl (ov_move rfl rfl) <| rl_v rfl rfl rfl (ov_assign rfl rfl) <| rl_nil <| run_inBlock <| run_region <| rl_v rfl rfl rfl (ov_move rfl rfl) <| rl_v rfl rfl rfl (ov_add rfl rfl rfl (by omega)) ?_
         refine rl_v rfl rfl rfl (ov_assign rfl rfl) <| rl_nil ?_
         refine Run.use (ih20 (i + 1) ((i : Int)) _ ?_ ?_) (And.intro (by exact slot_int rfl (by first | omega)) (And.intro (by exact slot_int rfl (by first | omega)) (And.intro rfl (And.intro rfl (And.intro rfl (And.intro rfl (And.intro rfl (And.intro rfl (And.intro rfl trivial)))))))))
         ·first | omega | (dsimp only; omega)
         ·exact ⟨by omega, hB2, hO28⟩
        ·have hB2 : (b = -1 ∧ ∀ a : Int, 0 ≤ a → a < ((i + 1 : Nat) : Int) → ¬ (st a = true ∧ out2 a = -1 ∧ l.r a ≤ e)) ∨ ((0 ≤ b ∧ b < ((i + 1 : Nat) : Int)) ∧ (st b = true ∧ out2 b = -1 ∧ l.r b ≤ e) ∧ ∀ a : Int, 0 ≤ a → a < ((i + 1 : Nat) : Int) → (st a = true ∧ out2 a = -1 ∧ l.r a ≤ e) → a ≠ b → lex l.d b a) := by
          rcases hB with q | q
          ·refine .inl ⟨q.1, fun a a0 a1 ha => ?_⟩
           by_cases e9 : a = (i : Int)
           ·rw [e9] at ha; exact c8 ⟨ha.1, by omega, ha.2.2, .inl (by omega)⟩
           ·exact q.2 a a0 (by omega) ha
          ·refine .inr ⟨by omega, q.2.1, fun a a0 a1 ha hne => ?_⟩
           by_cases e9 : a = (i : Int)
           ·rw [e9] at ha hne ⊢
            have : ¬ l.d i < l.d b := fun h9 => c8 ⟨ha.1, by omega, ha.2.2, .inr h9⟩
            unfold lex; omega
           ·exact q.2.2 a a0 (by omega) ha hne
         refine run_skip <| run_inBlock <| run_region <| rl_v rfl rfl rfl (ov_move rfl rfl) <| rl_v rfl rfl rfl (ov_add rfl rfl rfl (by omega)) ?_
         refine rl_v rfl rfl rfl (ov_assign rfl rfl) <| rl_nil ?_
         refine Run.use (ih20 (i + 1) (b) _ ?_ ?_) (And.intro (by exact slot_int rfl (by first | omega)) (And.intro (by exact slot_int rfl (by first | omega)) (And.intro rfl (And.intro rfl (And.intro rfl (And.intro rfl (And.intro rfl (And.intro rfl (And.intro rfl trivial)))))))))
         ·first | omega | (dsimp only; omega)
         ·exact ⟨by omega, hB2, hO28⟩
      ·have hin : i = l.n := by omega
       rw [hin] at hB
       refine run_exit rfl <| run_seq <| run_seq <| run_region <| rl_v rfl rfl rfl (ov_move rfl rfl) <| rl_v rfl rfl rfl (ov_lss rfl rfl rfl) <| rl_nil ?_
       first | refine run_cond_dec rfl (fun c8 => ?_) (fun c8 => ?_) | refine run_cond rfl (fun c8 => ?_) (fun c8 => ?_)
       ·have hnone : ∀ a : Int, 0 ≤ a → a < l.n → ¬ (st a = true ∧ out2 a = -1 ∧ l.r a ≤ e) := by
         rcases hB with q | q
         ·exact q.2
         ·exact absurd c8 (by omega)
        have hmpos : 0 < m := Nat.pos_of_ne_zero fun h9 => by
         obtain ⟨i, hi, a1, a2, a3⟩ := hav9
         rw [hm0 h9] at hnone
         exact hnone i hi.1 hi.2 ⟨a1, a2, a3⟩
        have hE4 := hI.finish (.inr fun i i0 i1 hS ho hr => hnone i i0 i1 ⟨hS, ho, hr⟩)
        refine run_exit rfl ?_
        refine Run.use (hk16 (out2) (W2) _ ?_) (And.intro (by exact slot_int rfl (by first | omega)) (And.intro rfl (And.intro rfl (And.intro rfl (And.intro rfl (And.intro rfl trivial))))))
        exact ⟨hE4, hW2, by have := hmp hmpos; omega, hOf⟩
       ·have hb9 : (0 ≤ b ∧ b < l.n) ∧ (st b = true ∧ out2 b = -1 ∧ l.r b ≤ e) ∧ ∀ a : Int, 0 ≤ a → a < l.n → (st a = true ∧ out2 a = -1 ∧ l.r a ≤ e) → a ≠ b → lex l.d b a := by
         rcases hB with q | q
         ·exact absurd q.1 (by omega)
         ·exact q
        obtain ⟨hbr, hba, hbl⟩ := hb9
        have hvb9 := hV b hbr.1 hbr.2
        unfold Lds.Val at hvb9
        have hWr := wt7_rng (l := l) (S := fun i => st i = true) (out := out2)
        refine run_skip <| run_seq <| run_seq <| run_region <| rl_v rfl rfl rfl (ov_move rfl rfl) <| rl_v rfl rfl rfl (ov_move rfl rfl) <| rl_v rfl rfl rfl (ov_index rfl Try.underlying22 (by kernel_rfl) (s := 4) rfl rfl ⟨by omega, by omega⟩ (by exact hla (by omega))) ?_
        refine rl_v rfl rfl rfl (ov_fieldS rfl Try.underlying72 rfl (fo := 1) rfl (by kernel_rfl) rfl) ?_
        refine rl_v rfl rfl rfl (ov_load rfl Try.underlying3 rfl rfl (by exact hlr _ hOf.below b hbr.1 hbr.2 1 (by decide))) ?_
        refine rl_v rfl rfl rfl (ov_move rfl rfl) <| rl_v rfl rfl rfl (ov_leq rfl rfl rfl) <| rl_nil ?_
        first | refine run_cond_dec rfl (fun c9 => ?_) (fun c9 => ?_) | refine run_cond rfl (fun c9 => ?_) (fun c9 => ?_)
        ·have hno := hI.late hV hbr.1 hbr.2 hba.1 hba.2.1 c9
         refine run_seq <| run_region <| rl_v rfl rfl rfl (ov_assign rfl rfl) <| rl_v rfl rfl rfl (ov_assign rfl rfl) <| rl_nil <| run_ret Try.func36 (res2 Try.results36 rfl rfl) ?_
         exact ⟨none, 0, 0, fun _ => 0, none, by rw [decide_eq_false hno], IRow.nil _ _, fun hc => absurd hc hno, fun _ => rfl, (hOf.sub (List.nil_sublist _)).nil_cons⟩
        ·have hlt7 : e < l.d b := by omega
         have hI1 := hI.pick (b := b) hbr.1 hbr.2 hba.1 hba.2.1 he0 hba.2.2 hlt7 (by omega) fun i i0 i1 hS ho hr9 hne => hbl i i0 i1 ⟨hS, ho, hr9⟩ hne
         have hI2 : EdI l k (fun i => st i = true) e ((m + 1 : Nat) : Int) (upd out2 b e) := by
          rw [show ((m + 1 : Nat) : Int) = (m : Int) + 1 by omega]; exact hI1
         have hW9 : W2 - 1 = wt7 l (fun i => st i = true) (upd out2 b e) := by rw [wt7_upd (t := e) hbr.1 hbr.2 hba.1 hba.2.1 (by omega), hW2]
         refine run_skip <| run_seq <| run_region <| rl_v rfl rfl rfl (ov_move rfl rfl) <| rl_v rfl rfl rfl (ov_move rfl rfl) <| rl_v rfl rfl rfl (ov_move rfl rfl) <| rl_v rfl rfl rfl (ov_index1 rfl Try.underlying47 (by kernel_rfl) rfl rfl ⟨by omega, by omega⟩ (by rfl)) ?_
         first | refine rl_storeI rfl rfl rfl (by kernel_rfl) hOf 0 rfl rfl ⟨by omega, by omega⟩ rfl (fun w29 hO30 hs31 => ?_)
         have hOy := hO30.congrI 0 rfl (G' := fun i => iv (upd out2 b e i)) (fun v _ _ => by unfold upd; split <;> rfl)
         refine rl_nil <| run_region <| rl_v rfl rfl rfl (ov_move rfl rfl) <| rl_v rfl rfl rfl (ov_sub rfl rfl rfl (by omega)) ?_
         refine rl_v rfl rfl rfl (ov_assign rfl rfl) <| rl_nil <| run_inBlock <| run_region <| rl_v rfl rfl rfl (ov_move rfl rfl) <| rl_v rfl rfl rfl (ov_add rfl rfl rfl (by omega)) ?_
         refine rl_v rfl rfl rfl (ov_assign rfl rfl) <| rl_nil ?_
         refine Run.use (ih18 (m + 1) (upd out2 b e) (W2 - 1) _ ?_ ?_) (And.intro (by exact slot_int rfl (by first | omega)) (And.intro (by exact slot_int rfl (by first | omega)) (And.intro rfl (And.intro rfl (And.intro rfl (And.intro rfl (And.intro rfl trivial)))))))
         ·first | omega | (dsimp only; omega)
         ·exact ⟨by omega, hI2, hW9, fun _ => by omega, fun h => by omega, hOy⟩
     ·have hE4 := hI.finish (.inl (by omega))
      refine run_exit rfl ?_
      refine Run.use (hk16 (out2) (W2) _ ?_) (And.intro (by exact slot_int rfl (by first | omega)) (And.intro rfl (And.intro rfl (And.intro rfl (And.intro rfl (And.intro rfl trivial))))))
      exact ⟨hE4, hW2, by have := hmp (by omega); omega, hOe⟩
    ·intro out3 W3 w15 hJw15
     obtain ⟨hE3, hW3, he3, hO3⟩ := hJw15
     show Run _ _ _ _ [(9, _), (0, _), (1, _), (2, _), (8, _), (11, _)] _ _
     refine run_region <| rl_v rfl rfl rfl (ov_move rfl rfl) <| rl_v rfl rfl rfl (ov_add rfl rfl rfl (by omega)) ?_
     refine rl_v rfl rfl rfl (ov_assign rfl rfl) <| rl_nil <| run_inBlock ?_
     refine Run.use (ih10 (e + 1) (out3) (W3) _ ?_ ?_) (And.intro (by exact slot_int rfl (by first | omega)) (And.intro (by exact slot_int rfl (by first | omega)) (And.intro rfl (And.intro rfl (And.intro rfl (And.intro rfl trivial))))))
     ·first | omega | (dsimp only; omega)
     ·exact ⟨by omega, he3, hE3, hW3, hO3⟩
  ·have hWz : wt7 l (fun i => st i = true) out ≤ 0 := by omega
   have hF := hE.final hV (wt7_none hWz)
   have hcan := hF.can hV hkk
   refine run_exit rfl <| run_seq <| run_region <| rl_v rfl rfl rfl (ov_move rfl rfl) <| rl_v rfl rfl rfl (ov_assign rfl rfl) <| rl_v rfl rfl rfl (ov_assign rfl rfl) <| rl_nil <| run_ret Try.func36 (res2 Try.results36 rfl rfl) ?_
   exact ⟨some ⟨ob, 0, none⟩, l.n, l.n, out, _, by rw [decide_eq_true hcan], IRow.ofV (Nat.le_refl _) (by unfold maxLen; omega) fun _ _ _ => rfl, fun _ => ⟨rfl, hF⟩, fun hc => absurd hcan hc, hOc⟩
end Go.Proofs.Ytbepolognfdkeaa
