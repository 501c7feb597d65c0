import Derived.Test.YtbepolognfdkeaaGreatLaw0
import Derived.Test.YtbepolognfdkeaaGreatFaA
namespace Go.Proofs.YtbepolognfdkeaaGreat
open Go.RowKit Go.Proofs
def Tells (g : FuncId) (cap : Array Value) (p : Int → Bool) : Prop :=
 ∀ (x : Int) (w : World), Calls Tryz.prog g (#[.int .i64 x] ++ cap) w fun e w' => e = .returned (.bool (p x)) ∧ Below w.heap.size w w'
theorem indexFunc_any (ao : Option Addr) (n c : Nat) (X : Int → Int) (g : FuncId) (cap : Array Value) (p : Int → Bool) (w : World) (hcl : Callable Tryz.prog g) (hg : Tells g cap p)
  (h : IAt w.heap.size w ao n (fun i => .int .i64 (X i))) (hn : n ≤ 9223372036854775806) :
  Calls Tryz.prog 127 #[.slice ao n c, .func (.func g) #[] cap] w fun e w' =>
   ∃ r : Int, e = .returned (.int .i64 r) ∧ (r = -1 ∧ (∀ i : Int, 0 ≤ i → i < n → p (X i) = false) ∨ 0 ≤ r ∧ r < n ∧ p (X r) = true) ∧ Below w.heap.size w w' := by
 obtain ⟨gb, go, hga, hrow⟩ := h.open
 refine calls_of_run (F := [(0, _), (1, _)]) Tryz.func127 rfl Tryz.ntmps127 rfl rfl ?_
 have hO0 := Own.init w
 refine run_seq <| run_region <| rl_v rfl rfl rfl (ov_assign rfl rfl) <| rl_nil <| run_seq <| run_seq <| run_region <| rl_v rfl rfl rfl (ov_move rfl rfl) <| rl_v rfl rfl rfl (ov_len rfl Tryz.underlying59 rfl) <| rl_v rfl rfl rfl (ov_move rfl rfl) <| rl_nil <| run_block <| Run.keep [0, 1, 7, 8] (F' := [(0, _), (1, _), (7, _), (8, _)]) rfl <| run_loop1 (fun (k : Int) => [(8, .int .i64 k)]) [0, 1, 7] (fun (k : Int) (w1 : World) => 0 ≤ k ∧ k ≤ n ∧ (∀ i : Int, 0 ≤ i → i < k → p (X i) = false) ∧ Own w.heap.size w w1 []) (fun (k : Int) => ((n : Int) - k).toNat) (0) ?_ (And.intro (by exact slot_int rfl (by first | omega)) (And.intro rfl (And.intro rfl (And.intro rfl trivial)))) ?_
 ·exact ⟨by omega, by omega, fun i h0 h1 => by omega, hO0⟩
 intro k w1 hIw1 ih2
 obtain ⟨hk0, hk1, hall, hO⟩ := hIw1
 show Run _ _ _ _ [(8, _), (0, _), (1, _), (7, _)] _ _
 refine run_seq <| run_region <| rl_v rfl rfl rfl (ov_lss rfl rfl rfl) <| rl_nil <| run_seq ?_
 first | refine run_cond_dec rfl (fun h1 => ?_) (fun h1 => ?_) | refine run_cond rfl (fun h1 => ?_) (fun h1 => ?_)
 ·refine run_skip <| run_seq <| run_block <| run_seq <| run_region <| rl_v rfl rfl rfl (ov_move rfl rfl) <| rl_v rfl rfl rfl (ov_assign rfl rfl) <| rl_nil <| run_seq <| run_region <| rl_v rfl rfl rfl (ov_move rfl rfl) <| rl_v rfl rfl rfl (ov_move rfl rfl) <| rl_v rfl rfl rfl (ov_move rfl rfl) <| rl_v rfl rfl rfl (ov_index1 rfl Tryz.underlying59 (by kernel_rfl) rfl rfl ⟨by omega, by omega⟩ (by exact hga (by omega))) ?_
  refine rl_v rfl rfl rfl (ov_load rfl Tryz.underlying2 rfl rfl (by exact hrow _ hO.below _ (by omega) (by omega))) ?_
  refine rl_call hcl rfl rfl rfl rfl rfl rfl (hg _ _) (fun e3 w4 hp5 => ?_)
  obtain ⟨rfl, hb⟩ := hp5
  refine ⟨_, rfl, ?_⟩
  have hO6 := hO.past hb
  refine rl_nil ?_
  first | refine run_cond_dec rfl (fun h2 => ?_) (fun h2 => ?_) | refine run_cond rfl (fun h2 => ?_) (fun h2 => ?_)
  ·refine run_seq <| run_region <| rl_v rfl rfl rfl (ov_move rfl rfl) <| rl_v rfl rfl rfl (ov_assign rfl rfl) <| rl_nil <| run_ret Tryz.func127 (res1 Tryz.results127 rfl) ?_
   exact ⟨k, rfl, .inr ⟨hk0, h1, h2⟩, hO6.below⟩
  ·refine run_skip <| run_inBlock <| run_region <| rl_v rfl rfl rfl (ov_add rfl rfl rfl (by omega)) ?_
   refine rl_v rfl rfl rfl (ov_move rfl rfl) <| rl_nil ?_
   refine Run.use (ih2 _ _ ?_ ?_) (And.intro (by rfl) (And.intro rfl (And.intro rfl (And.intro rfl trivial))))
   ·first | omega | (dsimp only; omega)
   ·exact ⟨by omega, by omega, fun i h0 h1' => (by omega : i = k ∨ i < k).elim (fun e => by rw [e]; exact h2) (fun e => hall i h0 e), hO6⟩
 ·refine run_exit rfl <| run_seq <| run_region <| rl_v rfl rfl rfl (ov_assign rfl rfl) <| rl_nil <| run_ret Tryz.func127 (res1 Tryz.results127 rfl) ?_
  exact ⟨-1, rfl, .inl ⟨rfl, fun i h0 h1' => hall i h0 (by omega)⟩, hO.below⟩
noncomputable def chk (n : Nat) (L : Int → Nat) (D : Int → Int → Int) : Int :=
 open Classical in
 if n = 0 then 1 else if 32 < n then 2 else if ∃ r : Int, 0 ≤ r ∧ r < n ∧ L r ≠ n then 7
 else if ∃ r c : Int, 0 ≤ r ∧ r < n ∧ 0 ≤ c ∧ c < n ∧ (D r c < 0 ∨ 1000000 < D r c ∨ r = c ∧ D r c ≠ 0) then 60 else 0
theorem chk_1 {n : Nat} {L : Int → Nat} {D : Int → Int → Int} (h : n = 0) : chk n L D = 1 := by unfold chk; rw [if_pos h]
theorem chk_2 {n : Nat} {L : Int → Nat} {D : Int → Int → Int} (h : 32 < n) : chk n L D = 2 := by unfold chk; rw [if_neg (by omega), if_pos h]
theorem chk_7 {n : Nat} {L : Int → Nat} {D : Int → Int → Int} (h0 : n ≠ 0) (h1 : ¬ 32 < n) (r : Int) (hr : 0 ≤ r) (hr2 : r < n) (h : (L r : Int) ≠ n) : chk n L D = 7 := by
 unfold chk; rw [if_neg h0, if_neg h1, if_pos ⟨r, hr, hr2, by omega⟩]
theorem chk_60 {n : Nat} {L : Int → Nat} {D : Int → Int → Int} (h0 : n ≠ 0) (h1 : ¬ 32 < n) (h2 : ∀ r : Int, 0 ≤ r → r < n → (L r : Int) = n) (r c : Int) (hr : 0 ≤ r) (hr2 : r < n) (hc : 0 ≤ c) (hc2 : c < n) (h : D r c < 0 ∨ 1000000 < D r c ∨ r = c ∧ D r c ≠ 0) : chk n L D = 60 := by
 unfold chk; rw [if_neg h0, if_neg h1, if_neg, if_pos ⟨r, c, hr, hr2, hc, hc2, h⟩]
 rintro ⟨r, a, b, e⟩; have := h2 r a b; omega
theorem chk_0 {n : Nat} {L : Int → Nat} {D : Int → Int → Int} (h0 : n ≠ 0) (h1 : ¬ 32 < n) (h2 : ∀ r : Int, 0 ≤ r → r < n → (L r : Int) = n) (h : ∀ r c : Int, 0 ≤ r → r < n → 0 ≤ c → c < n → ¬ (D r c < 0 ∨ 1000000 < D r c ∨ r = c ∧ D r c ≠ 0)) : chk n L D = 0 := by
 unfold chk; rw [if_neg h0, if_neg h1, if_neg, if_neg]
 ·rintro ⟨r, c, a, b, a', b', e⟩; exact h r c a b a' b' e
 ·rintro ⟨r, a, b, e⟩; have := h2 r a b; omega
theorem check_any (ao : Option Addr) (n c : Nat) (L : Int → Nat) (D : Int → Int → Int) (w : World) (hn : n ≤ 1000000000000000)
  (h : ITab w.heap.size w ao n L (fun r c => .int .i64 (D r c))) :
  Calls Tryz.prog 72 #[.slice ao n c] w fun e w' => e = .returned (.int .i64 (chk n L D)) ∧ Below w.heap.size w w' := by
 obtain ⟨A, C, RB, RO, gb, go, hga, hrow, hra, hel, _⟩ := h.open
 refine calls_of_run (F := [(0, _)]) Tryz.func72 rfl Tryz.ntmps72 rfl rfl ?_
 have hO0 := Own.init w
 refine run_seq <| run_region <| rl_v rfl rfl rfl (ov_assign rfl rfl) <| rl_nil <| run_seq <| run_region <| rl_v rfl rfl rfl (ov_move rfl rfl) <| rl_v rfl rfl rfl (ov_len rfl Tryz.underlying55 rfl) <| rl_v rfl rfl rfl (ov_assign rfl rfl) <| rl_nil <| run_seq <| run_seq <| run_region <| rl_v rfl rfl rfl (ov_move rfl rfl) <| rl_v rfl rfl rfl (ov_eql rfl rfl rfl) <| rl_nil ?_
 first | refine run_cond_dec rfl (fun h1 => ?_) (fun h1 => ?_) | refine run_cond rfl (fun h1 => ?_) (fun h1 => ?_)
 ·refine run_seq <| run_region <| rl_v rfl rfl rfl (ov_assign rfl rfl) <| rl_nil <| run_ret Tryz.func72 (res1 Tryz.results72 rfl) ?_
  exact ⟨by rw [chk_1 (by omega)], hO0.below⟩
 ·refine run_skip <| run_seq <| run_seq <| run_region <| rl_v rfl rfl rfl (ov_move rfl rfl) <| rl_v rfl rfl rfl (ov_gtr rfl rfl rfl) <| rl_nil ?_
  first | refine run_cond_dec rfl (fun h2 => ?_) (fun h2 => ?_) | refine run_cond rfl (fun h2 => ?_) (fun h2 => ?_)
  ·refine run_seq <| run_region <| rl_v rfl rfl rfl (ov_assign rfl rfl) <| rl_nil <| run_ret Tryz.func72 (res1 Tryz.results72 rfl) ?_
   exact ⟨by rw [chk_2 (by omega)], hO0.below⟩
  ·refine run_skip <| run_seq <| run_seq <| run_region <| rl_v rfl rfl rfl (ov_move rfl rfl) <| rl_v rfl rfl rfl (ov_len rfl Tryz.underlying55 rfl) <| rl_v rfl rfl rfl (ov_move rfl rfl) <| rl_nil <| run_block <| Run.keep [0, 3, 16, 17, 18] (F' := [(0, _), (3, _), (16, _), (17, _), (18, _)]) rfl <| run_loop1 (fun (k : Int) => [(18, .int .i64 k)]) [0, 3, 16, 17] (fun (k : Int) (w1 : World) => 0 ≤ k ∧ k ≤ n ∧ (∀ r : Int, 0 ≤ r → r < k → (L r : Int) = n) ∧ w = w1) (fun (k : Int) => ((n : Int) - k).toNat) (0) ?_ (And.intro (by exact slot_int rfl (by first | omega)) (And.intro rfl (And.intro rfl (And.intro rfl (And.intro rfl trivial))))) ?_
   ·exact ⟨by omega, by omega, fun r h0 h1 => by omega, rfl⟩
   intro k w1 hIw1 ih2
   obtain ⟨hk0, hk1, hL, rfl⟩ := hIw1
   show Run _ _ _ _ [(18, _), (0, _), (3, _), (16, _), (17, _)] _ _
   refine run_seq <| run_region <| rl_v rfl rfl rfl (ov_lss rfl rfl rfl) <| rl_nil <| run_seq ?_
   first | refine run_cond_dec rfl (fun h3 => ?_) (fun h3 => ?_) | refine run_cond rfl (fun h3 => ?_) (fun h3 => ?_)
   ·refine run_skip <| run_seq <| run_block <| run_seq <| run_region <| rl_v rfl rfl rfl (ov_index1 rfl Tryz.underlying55 (by kernel_rfl) rfl rfl ⟨by omega, by omega⟩ (by exact hga (by omega))) ?_
    refine rl_v rfl rfl rfl (ov_load rfl Tryz.underlying59 rfl rfl (by exact hrow _ hO0.below _ (by omega) (by omega))) ?_
    refine rl_v rfl rfl rfl (ov_assign rfl rfl) <| rl_nil <| run_seq <| run_region <| rl_v rfl rfl rfl (ov_move rfl rfl) <| rl_v rfl rfl rfl (ov_len rfl Tryz.underlying59 rfl) <| rl_v rfl rfl rfl (ov_move rfl rfl) <| rl_v rfl rfl rfl (ov_neq rfl rfl rfl) <| rl_nil ?_
    first | refine run_cond_dec rfl (fun h4 => ?_) (fun h4 => ?_) | refine run_cond rfl (fun h4 => ?_) (fun h4 => ?_)
    ·refine run_seq <| run_region <| rl_v rfl rfl rfl (ov_assign rfl rfl) <| rl_nil <| run_ret Tryz.func72 (res1 Tryz.results72 rfl) ?_
     exact ⟨by rw [chk_7 (by omega) (by omega) k hk0 h3 h4], hO0.below⟩
    ·refine run_skip <| run_inBlock <| run_region <| rl_v rfl rfl rfl (ov_add rfl rfl rfl (by omega)) ?_
     refine rl_v rfl rfl rfl (ov_move rfl rfl) <| rl_nil ?_
     refine Run.use (ih2 _ _ ?_ ?_) (And.intro (by rfl) (And.intro rfl (And.intro rfl (And.intro rfl (And.intro rfl trivial)))))
     ·first | omega | (dsimp only; omega)
     ·exact ⟨by omega, by omega, fun r h0 h1 => (by omega : r = k ∨ r < k).elim (fun e => by subst e; omega) (fun e => hL r h0 e), rfl⟩
   ·have hL' : ∀ r : Int, 0 ≤ r → r < n → (L r : Int) = n := fun r h0 h1 => hL r h0 (by omega)
    refine run_exit rfl <| run_seq <| run_seq <| run_region <| rl_v rfl rfl rfl (ov_move rfl rfl) <| rl_v rfl rfl rfl (ov_len rfl Tryz.underlying55 rfl) <| rl_v rfl rfl rfl (ov_move rfl rfl) <| rl_nil <| run_block <| Run.keep [27, 28, 29] (F' := [(27, _), (28, _), (29, _)]) rfl <| run_loop1 (fun (k2 : Int) => [(29, .int .i64 k2)]) [27, 28] (fun (k2 : Int) (w3 : World) => 0 ≤ k2 ∧ k2 ≤ n ∧ (∀ r c : Int, 0 ≤ r → r < k2 → 0 ≤ c → c < n → ¬ (D r c < 0 ∨ 1000000 < D r c ∨ r = c ∧ D r c ≠ 0)) ∧ w = w3) (fun (k2 : Int) => ((n : Int) - k2).toNat) (0) ?_ (And.intro (by exact slot_int rfl (by first | omega)) (And.intro rfl (And.intro rfl trivial))) ?_
    ·exact ⟨by omega, by omega, fun r c h0 h1 => by omega, rfl⟩
    intro k2 w3 hIw3 ih4
    obtain ⟨hk0', hk1', hD, rfl⟩ := hIw3
    show Run _ _ _ _ [(29, _), (27, _), (28, _)] _ _
    refine run_seq <| run_region <| rl_v rfl rfl rfl (ov_lss rfl rfl rfl) <| rl_nil <| run_seq ?_
    first | refine run_cond_dec rfl (fun h5 => ?_) (fun h5 => ?_) | refine run_cond rfl (fun h5 => ?_) (fun h5 => ?_)
    ·have hLk := hL' k2 hk0' h5
     refine run_skip <| run_seq <| run_block <| run_seq <| run_region <| rl_v rfl rfl rfl (ov_move rfl rfl) <| rl_v rfl rfl rfl (ov_index1 rfl Tryz.underlying55 (by kernel_rfl) rfl rfl ⟨by omega, by omega⟩ (by exact hga (by omega))) ?_
     refine rl_v rfl rfl rfl (ov_load rfl Tryz.underlying59 rfl rfl (by exact hrow _ hO0.below _ (by omega) (by omega))) ?_
     refine rl_v rfl rfl rfl (ov_assign rfl rfl) <| rl_v rfl rfl rfl (ov_assign rfl rfl) <| rl_nil <| run_seq <| run_region <| rl_v rfl rfl rfl (ov_move rfl rfl) <| rl_v rfl rfl rfl (ov_len rfl Tryz.underlying59 rfl) <| rl_v rfl rfl rfl (ov_move rfl rfl) <| rl_nil <| run_block <| Run.keep [6, 27, 28, 29, 34, 35, 36] (F' := [(6, _), (27, _), (28, _), (29, _), (34, _), (35, _), (36, _)]) rfl <| run_loop1 (fun (j : Int) => [(36, .int .i64 j)]) [6, 27, 28, 29, 34, 35] (fun (j : Int) (w5 : World) => 0 ≤ j ∧ j ≤ n ∧ (∀ c : Int, 0 ≤ c → c < j → ¬ (D k2 c < 0 ∨ 1000000 < D k2 c ∨ k2 = c ∧ D k2 c ≠ 0)) ∧ w = w5) (fun (j : Int) => ((n : Int) - j).toNat) (0) ?_ (And.intro (by exact slot_int rfl (by first | omega)) (And.intro rfl (And.intro rfl (And.intro rfl (And.intro rfl (And.intro rfl (And.intro rfl trivial))))))) ?_
     ·exact ⟨by omega, by omega, fun c h0 h1 => by omega, rfl⟩
     intro j w5 hIw5 ih6
     obtain ⟨hj0, hj1, hE, rfl⟩ := hIw5
     show Run _ _ _ _ [(36, _), (6, _), (27, _), (28, _), (29, _), (34, _), (35, _)] _ _
     refine run_seq <| run_region <| rl_v rfl rfl rfl (ov_lss rfl rfl rfl) <| rl_nil <| run_seq ?_
     first | refine run_cond_dec rfl (fun h6 => ?_) (fun h6 => ?_) | refine run_cond rfl (fun h6 => ?_) (fun h6 => ?_)
     ·refine run_skip <| run_seq <| run_block <| run_seq <| run_region <| rl_v rfl rfl rfl (ov_move rfl rfl) <| rl_v rfl rfl rfl (ov_index1 rfl Tryz.underlying59 (by kernel_rfl) rfl rfl ⟨by omega, by omega⟩ (by exact hra _ (by omega) (by omega) (by omega))) ?_
      refine rl_v rfl rfl rfl (ov_load rfl Tryz.underlying2 rfl rfl (by exact hel _ hO0.below _ (by omega) (by omega) _ (by omega) (by omega))) ?_
      refine rl_v rfl rfl rfl (ov_assign rfl rfl) <| rl_v rfl rfl rfl (ov_assign rfl rfl) <| rl_nil <| run_seq <| run_region_join 55 (.bool (decide (D k2 j < 0 ∨ 1000000 < D k2 j ∨ k2 = j ∧ D k2 j ≠ 0))) [6, 27, 28, 29, 34, 35, 36] (fun hk7 => ?_) ?_
      ·refine rl_v rfl rfl rfl (ov_move rfl rfl) <| rl_v rfl rfl rfl (ov_lss rfl rfl rfl) <| rl_v rfl rfl rfl (ov_move rfl rfl) ?_
       first | refine rl_split_dec 43 rfl (fun hg8 => ?_) (fun hg8 => ?_) | refine rl_split 43 rfl (fun hg8 => ?_) (fun hg8 => ?_)
       ·refine rl_gskip rfl rfl rfl rfl rfl rfl <| rl_gskip rfl rfl rfl rfl rfl rfl <| rl_v rfl rfl rfl (ov_pick_t rfl rfl rfl) <| rl_v rfl rfl rfl (ov_move rfl rfl) <| rl_gskip rfl rfl rfl rfl rfl rfl <| rl_gskip rfl rfl rfl rfl rfl rfl <| rl_gskip rfl rfl rfl rfl rfl rfl <| rl_gskip rfl rfl rfl rfl rfl rfl <| rl_gundef rfl rfl rfl rfl rfl <| rl_gundef rfl rfl rfl rfl rfl <| rl_gskip rfl rfl rfl rfl rfl rfl <| rl_v rfl rfl rfl (ov_pick_t rfl rfl rfl) ?_
        refine rl_nil (hk7 _ (jbt rfl (by omega)) (And.intro rfl (And.intro rfl (And.intro rfl (And.intro rfl (And.intro rfl (And.intro rfl (And.intro rfl trivial))))))))
       ·refine rl_gv rfl rfl rfl rfl rfl (ov_move rfl rfl) <| rl_gv rfl rfl rfl rfl rfl (ov_gtr rfl rfl rfl) <| rl_v rfl rfl rfl (ov_pick_f rfl rfl rfl) <| rl_v rfl rfl rfl (ov_move rfl rfl) ?_
        first | refine rl_split_dec 47 rfl (fun hg9 => ?_) (fun hg9 => ?_) | refine rl_split 47 rfl (fun hg9 => ?_) (fun hg9 => ?_)
        ·refine rl_gskip rfl rfl rfl rfl rfl rfl <| rl_gskip rfl rfl rfl rfl rfl rfl <| rl_gskip rfl rfl rfl rfl rfl rfl <| rl_gskip rfl rfl rfl rfl rfl rfl <| rl_gundef rfl rfl rfl rfl rfl <| rl_gundef rfl rfl rfl rfl rfl <| rl_gskip rfl rfl rfl rfl rfl rfl <| rl_v rfl rfl rfl (ov_pick_t rfl rfl rfl) ?_
         refine rl_nil (hk7 _ (jbt rfl (by omega)) (And.intro rfl (And.intro rfl (And.intro rfl (And.intro rfl (And.intro rfl (And.intro rfl (And.intro rfl trivial))))))))
        ·refine rl_gv rfl rfl rfl rfl rfl (ov_move rfl rfl) <| rl_gv rfl rfl rfl rfl rfl (ov_move rfl rfl) <| rl_gv rfl rfl rfl rfl rfl (ov_eql rfl rfl rfl) <| rl_gv rfl rfl rfl rfl rfl (ov_move rfl rfl) ?_
         first | refine rl_split_dec 51 rfl (fun hg10 => ?_) (fun hg10 => ?_) | refine rl_split 51 rfl (fun hg10 => ?_) (fun hg10 => ?_)
         ·refine rl_gv rfl rfl rfl rfl rfl (ov_move rfl rfl) <| rl_gv rfl rfl rfl rfl rfl (ov_neq rfl rfl rfl) <| rl_gv rfl rfl rfl rfl rfl (ov_pick_t rfl rfl rfl) <| rl_v rfl rfl rfl (ov_pick_f rfl rfl rfl) ?_
          refine rl_nil (hk7 _ (jbd rfl (by omega)) (And.intro rfl (And.intro rfl (And.intro rfl (And.intro rfl (And.intro rfl (And.intro rfl (And.intro rfl trivial))))))))
         ·refine rl_gskip rfl rfl rfl rfl rfl rfl <| rl_gskip rfl rfl rfl rfl rfl rfl <| rl_gv rfl rfl rfl rfl rfl (ov_pick_f rfl rfl rfl) <| rl_v rfl rfl rfl (ov_pick_f rfl rfl rfl) ?_
          refine rl_nil (hk7 _ (jbf rfl (by omega)) (And.intro rfl (And.intro rfl (And.intro rfl (And.intro rfl (And.intro rfl (And.intro rfl (And.intro rfl trivial))))))))
      ·show Run _ _ _ _ [(55, _), (6, _), (27, _), (28, _), (29, _), (34, _), (35, _), (36, _)] _ _
       first | refine run_cond_dec rfl (fun h7 => ?_) (fun h7 => ?_) | refine run_cond rfl (fun h7 => ?_) (fun h7 => ?_)
       ·refine run_seq <| run_region <| rl_v rfl rfl rfl (ov_assign rfl rfl) <| rl_nil <| run_ret Tryz.func72 (res1 Tryz.results72 rfl) ?_
        exact ⟨by rw [chk_60 (by omega) (by omega) hL' k2 j hk0' (by omega) hj0 (by omega) h7], hO0.below⟩
       ·refine run_skip <| run_inBlock <| run_region <| rl_v rfl rfl rfl (ov_add rfl rfl rfl (by omega)) ?_
        refine rl_v rfl rfl rfl (ov_move rfl rfl) <| rl_nil ?_
        refine Run.use (ih6 _ _ ?_ ?_) (And.intro (by rfl) (And.intro rfl (And.intro rfl (And.intro rfl (And.intro rfl (And.intro rfl (And.intro rfl trivial)))))))
        ·first | omega | (dsimp only; omega)
        ·exact ⟨by omega, by omega, fun c h0 h1 => (by omega : c = j ∨ c < j).elim (fun e => by rw [e]; exact h7) (fun e => hE c h0 e), rfl⟩
     ·refine run_exit rfl <| run_inBlock <| run_region <| rl_v rfl rfl rfl (ov_add rfl rfl rfl (by omega)) ?_
      refine rl_v rfl rfl rfl (ov_move rfl rfl) <| rl_nil ?_
      refine Run.use (ih4 _ _ ?_ ?_) (And.intro (by rfl) (And.intro rfl (And.intro rfl trivial)))
      ·first | omega | (dsimp only; omega)
      ·exact ⟨by omega, by omega, fun r c h0 h1 h2 h3 => (by omega : r = k2 ∨ r < k2).elim (fun e => by rw [e]; exact hE c h2 (by omega)) (fun e => hD r c h0 e h2 h3), rfl⟩
    ·refine run_exit rfl <| run_seq <| run_region <| rl_v rfl rfl rfl (ov_assign rfl rfl) <| rl_nil <| run_ret Tryz.func72 (res1 Tryz.results72 rfl) ?_
     exact ⟨by rw [chk_0 (by omega) (by omega) hL' (fun r c a b a' b' => hD r c a (by omega) a' b')], hO0.below⟩
end Go.Proofs.YtbepolognfdkeaaGreat
namespace Go.Proofs.YtbepolognfdkeaaGreat
open Go.RowKit Go.Proofs
structure Valid (n : Nat) (D : Int → Int → Int) : Prop where
 pos : 1 ≤ n
 le : n ≤ 32
 lo : ∀ r c, 0 ≤ D r c
 hi : ∀ r c, D r c ≤ 1000000
 dia : ∀ r, D r r = 0
theorem Valid.chk {n : Nat} {D : Int → Int → Int} (h : Valid n D) : chk n (fun _ => n) D = 0 :=
 chk_0 (by have := h.pos; omega) (by have := h.le; omega) (fun _ _ _ => rfl) (fun r c _ _ _ _ => by
  have := h.lo r c; have := h.hi r c
  rintro (h1 | h1 | ⟨h1, h2⟩)
  ·omega
  ·omega
  ·subst h1; exact h2 (h.dia r))
def term (D : Int → Int → Int) (rk : Int → Int) (r c : Int) : Int := D r c * max 0 (1 + rk r - rk c)
def bnd (n : Nat) (D : Int → Int → Int) (rk : Int → Int) : Int := sm (fun r => sm (term D rk r) n) n
end Go.Proofs.YtbepolognfdkeaaGreat
