import Derived.Test.YtbepolognfdkeaaGreatFbF
set_option maxRecDepth 100000
namespace Go.Proofs.YtbepolognfdkeaaGreat
open Go.RowKit Go.Proofs Go.MapKept
theorem sm_uni {p : Int → Prop} [∀ i, Decidable (p i)] {n : Int} (n0 : 0 ≤ n) (h : ∀ i j : Int, 0 ≤ i → i < n → 0 ≤ j → j < n → p i → p j → i = j) : sm (fun i => if p i then 1 else 0) n ≤ 1 := by
 by_cases c : ∃ i : Int, 0 ≤ i ∧ i < n ∧ p i
 ·obtain ⟨i, i0, i1, hi⟩ := c
  have e : sm (fun i => if p i then 1 else 0) n = sm (fun j => if i = j then 1 else 0) n := sm_congr fun j j0 j1 => by
   by_cases e : i = j
   ·rw [if_pos e, ← e, if_pos hi]
   ·rw [if_neg e, if_neg fun hj => e (h i j i0 i1 j0 j1 hi hj)]
  rw [e, sm_one i0 i1]
  omega
 ·rw [sm_congr (g := fun _ => 0) fun i i0 i1 => if_neg fun hi => c ⟨i, i0, i1, hi⟩, sm_const 0 n0]
  omega
theorem pigeon {e : Int → Int} {n m : Nat} (hr : ∀ k : Int, 0 ≤ k → k < n → 0 ≤ e k ∧ e k < m) (hd : ∀ a b : Int, 0 ≤ a → a < n → 0 ≤ b → b < n → e a = e b → a = b) : n ≤ m := by
 have h1 : sm (fun k => sm (fun b => if e k = b then 1 else 0) m) n = n := by
  rw [sm_congr (g := fun _ => 1) fun k k0 k1 => sm_one (hr k k0 k1).1 (hr k k0 k1).2 1, sm_const 1 (by omega)]
  omega
 rw [sm_swap] at h1
 have h2 : sm (fun b => sm (fun k => if e k = b then 1 else 0) n) m ≤ m * 1 := sm_bound 1 (by omega) fun b _ _ => sm_uni (by omega) fun i j i0 i1 j0 j1 h1 h2 => hd i j i0 i1 j0 j1 (h1.trans h2.symm)
 omega
end Go.Proofs.YtbepolognfdkeaaGreat
set_option maxRecDepth 100000
namespace Go.Proofs.YtbepolognfdkeaaGreat
open Go.RowKit Go.Proofs Go.MapKept
def IsL (n : Nat) (E : Int → Int) (N : Int) : Prop := (∀ k : Int, 0 ≤ k → k < n → 0 ≤ E k ∧ E k < N) ∧ ∀ a b : Int, 0 ≤ a → a < n → 0 ≤ b → b < n → E a = E b → a = b
theorem isList_any (ao : Option Addr) (n c N : Nat) (E : Int → Int) (w : World) (hn : n ≤ 1000000) (hN : N ≤ 1000) (h : IAt w.heap.size w ao n (fun k => iv (E k))) :
  Calls Tryz.prog 147 #[.slice ao n c, iv N] w fun e w' => (∃ b, e = .returned (.bool b) ∧ (b = true ↔ IsL n E N)) ∧ Below w.heap.size w w' := by
 obtain ⟨gb, go, hga, hrow⟩ := h.open
 refine calls_of_run (F := [(0, _), (1, _)]) Tryz.func147 rfl Tryz.ntmps147 rfl rfl ?_
 have hO0 := Own.init w
 refine run_seq <| run_region <| rl_v rfl rfl rfl (ov_assign rfl rfl) <| rl_nil <| run_seq <| run_region <| rl_v rfl rfl rfl (ov_move rfl rfl) ?_
 refine rl_make (N) rfl rfl rfl rfl Tryz.underlying92 info_4 rfl hO0 rfl rfl (by rfl) (by rfl) ⟨by omega, by omega⟩ (fun sb w1 hO2 hs3 => ?_)
 refine rl_v rfl rfl rfl (ov_assign rfl rfl) <| rl_nil <| run_seq <| run_seq <| run_region <| rl_v rfl rfl rfl (ov_move rfl rfl) <| rl_v rfl rfl rfl (ov_len rfl Tryz.underlying36 rfl) <| rl_v rfl rfl rfl (ov_move rfl rfl) <| rl_nil <| run_block <| Run.keep [1, 5, 10, 11, 12] (F' := [(1, _), (5, _), (10, _), (11, _), (12, _)]) rfl <| run_loop2 (fun (k : Int) (s : Int → Bool) => [(12, .int .i64 k)]) [1, 5, 10, 11] (fun (k : Int) (s : Int → Bool) (w4 : World) => 0 ≤ k ∧ k ≤ n ∧ IsL k.toNat E N ∧ (∀ x : Int, 0 ≤ x → x < N → (s x = true ↔ ∃ i : Int, 0 ≤ i ∧ i < k ∧ E i = x)) ∧ Own w.heap.size w w4 [some (vch sb 4 N (fun x => .bool (s x)))]) (fun (k : Int) (s : Int → Bool) => ((n : Int) - k).toNat) (0) (fun _ => false) ?_ (And.intro (by exact slot_int rfl (by first | omega)) (And.intro rfl (And.intro rfl (And.intro rfl (And.intro rfl trivial))))) ?_
 ·exact ⟨by omega, by omega, ⟨fun k k0 k1 => by omega, fun a b a0 a1 => by omega⟩, fun x x0 x1 => ⟨fun h => Bool.noConfusion h, fun ⟨i, i0, i1, _⟩ => by omega⟩, hO2⟩
 intro k s w4 hIw4 ih5
 obtain ⟨hk0, hk1, hL, hs, hO⟩ := hIw4
 show Run _ _ _ _ [(12, _), (1, _), (5, _), (10, _), (11, _)] _ _
 refine run_seq <| run_region <| rl_v rfl rfl rfl (ov_lss rfl rfl rfl) <| rl_nil <| run_seq ?_
 first | refine run_cond_dec rfl (fun h1 => ?_) (fun h1 => ?_) | refine run_cond rfl (fun h1 => ?_) (fun h1 => ?_)
 ·refine run_skip <| run_seq <| run_block <| run_seq <| run_region <| rl_v rfl rfl rfl (ov_index1 rfl Tryz.underlying36 (by kernel_rfl) rfl rfl ⟨by omega, by omega⟩ (by exact hga (by omega))) ?_
  refine rl_v rfl rfl rfl (ov_load rfl Tryz.underlying3 rfl rfl (by exact hrow _ hO.below _ (by omega) (by omega))) ?_
  refine rl_v rfl rfl rfl (ov_assign rfl rfl) <| rl_nil <| run_seq <| run_seq <| run_region <| rl_v rfl rfl rfl (ov_move rfl rfl) <| rl_v rfl rfl rfl (ov_lss rfl rfl rfl) <| rl_v rfl rfl rfl (ov_move rfl rfl) ?_
  first | refine rl_split_dec 18 rfl (fun g1 => ?_) (fun g1 => ?_) | refine rl_split 18 rfl (fun g1 => ?_) (fun g1 => ?_)
  ·refine rl_gskip rfl rfl rfl rfl rfl rfl <| rl_gskip rfl rfl rfl rfl rfl rfl <| rl_gskip rfl rfl rfl rfl rfl rfl <| rl_v rfl rfl rfl (ov_pick_t rfl rfl rfl) <| rl_v rfl rfl rfl (ov_move rfl rfl) <| rl_gskip rfl rfl rfl rfl rfl rfl <| rl_gskip rfl rfl rfl rfl rfl rfl <| rl_gskip rfl rfl rfl rfl rfl rfl <| rl_gskip rfl rfl rfl rfl rfl rfl <| rl_v rfl rfl rfl (ov_pick_t rfl rfl rfl) <| rl_nil <| run_cond_t rfl <| run_seq <| run_region <| rl_v rfl rfl rfl (ov_assign rfl rfl) <| rl_nil <| run_ret Tryz.func147 (res1 Tryz.results147 rfl) ?_
   exact ⟨⟨false, rfl, ⟨fun h => Bool.noConfusion h, fun hL => by have := hL.1 k hk0 h1; omega⟩⟩, hO.below⟩
  ·refine rl_gv rfl rfl rfl rfl rfl (ov_move rfl rfl) <| rl_gv rfl rfl rfl rfl rfl (ov_move rfl rfl) <| rl_gv rfl rfl rfl rfl rfl (ov_geq rfl rfl rfl) <| rl_v rfl rfl rfl (ov_pick_f rfl rfl rfl) <| rl_v rfl rfl rfl (ov_move rfl rfl) ?_
   first | refine rl_split_dec 23 rfl (fun g2 => ?_) (fun g2 => ?_) | refine rl_split 23 rfl (fun g2 => ?_) (fun g2 => ?_)
   ·refine rl_gskip rfl rfl rfl rfl rfl rfl <| rl_gskip rfl rfl rfl rfl rfl rfl <| rl_gskip rfl rfl rfl rfl rfl rfl <| rl_gskip rfl rfl rfl rfl rfl rfl <| rl_v rfl rfl rfl (ov_pick_t rfl rfl rfl) <| rl_nil <| run_cond_t rfl <| run_seq <| run_region <| rl_v rfl rfl rfl (ov_assign rfl rfl) <| rl_nil <| run_ret Tryz.func147 (res1 Tryz.results147 rfl) ?_
    exact ⟨⟨false, rfl, ⟨fun h => Bool.noConfusion h, fun hL => by have := hL.1 k hk0 h1; omega⟩⟩, hO.below⟩
   ·refine rl_gv rfl rfl rfl rfl rfl (ov_move rfl rfl) <| rl_gv rfl rfl rfl rfl rfl (ov_move rfl rfl) <| rl_gv rfl rfl rfl rfl rfl (ov_index1 rfl Tryz.underlying92 (by kernel_rfl) rfl rfl ⟨by omega, by omega⟩ (by rfl)) ?_
    refine rl_gv rfl rfl rfl rfl rfl (ov_load rfl Tryz.underlying4 rfl rfl (by exact hO.cellI 0 rfl _ (by omega) (by omega))) ?_
    refine rl_v rfl rfl rfl (ov_pick_f rfl rfl rfl) <| rl_nil ?_
    first | refine run_cond_dec rfl (fun h3 => ?_) (fun h3 => ?_) | refine run_cond rfl (fun h3 => ?_) (fun h3 => ?_)
    ·refine run_seq <| run_region <| rl_v rfl rfl rfl (ov_assign rfl rfl) <| rl_nil <| run_ret Tryz.func147 (res1 Tryz.results147 rfl) ?_
     exact ⟨⟨false, rfl, ⟨fun h => Bool.noConfusion h, fun hL => by obtain ⟨i, i0, i1, e⟩ := (hs (E k) (by omega) (by omega)).1 h3; have := hL.2 i k i0 (by omega) hk0 h1 e; omega⟩⟩, hO.below⟩
    ·have hE : 0 ≤ E k ∧ E k < N := ⟨by omega, by omega⟩
     have hL' : IsL (k + 1).toNat E N ∧ ∀ x : Int, 0 ≤ x → x < N → (upd s (E k) true x = true ↔ ∃ i : Int, 0 ≤ i ∧ i < k + 1 ∧ E i = x) := by
      have hno : ∀ i : Int, 0 ≤ i → i < k → E i ≠ E k := fun i i0 i1 e => by have := (hs (E k) hE.1 hE.2).2 ⟨i, i0, i1, e⟩; rw [h3] at this; exact Bool.noConfusion this
      refine ⟨⟨fun i i0 i1 => ?_, fun a b a0 a1 b0 b1 e => ?_⟩, fun x x0 x1 => ?_⟩
      ·by_cases c : i = k
       ·rw [c]; exact hE
       ·exact hL.1 i i0 (by omega)
      ·by_cases c : a = k <;> by_cases d : b = k
       ·omega
       ·rw [c] at e; exact absurd e.symm (hno b b0 (by omega))
       ·rw [d] at e; exact absurd e (hno a a0 (by omega))
       ·exact hL.2 a b a0 (by omega) b0 (by omega) e
      ·by_cases c : x = E k
       ·rw [c, upd_same]; exact ⟨fun _ => ⟨k, hk0, by omega, rfl⟩, fun _ => rfl⟩
       ·rw [upd_ne _ _ c, hs x x0 x1]
        refine ⟨fun ⟨i, i0, i1, e⟩ => ⟨i, i0, by omega, e⟩, fun ⟨i, i0, i1, e⟩ => ⟨i, i0, ?_, e⟩⟩
        have : i ≠ k := fun e2 => by rw [e2] at e; exact c e.symm
        omega
     refine run_skip <| run_region <| rl_v rfl rfl rfl (ov_move rfl rfl) <| rl_v rfl rfl rfl (ov_move rfl rfl) <| rl_v rfl rfl rfl (ov_index1 rfl Tryz.underlying92 (by kernel_rfl) rfl rfl ⟨by omega, by omega⟩ (by rfl)) ?_
     refine rl_ow rfl (ow_store rfl rfl (by kernel_rfl) hO 0 rfl rfl ⟨by omega, by omega⟩ rfl rfl) ?_
     rintro _ w8 ⟨rfl, hO9, hs10⟩
     refine rl_nil <| run_inBlock <| run_region <| rl_v rfl rfl rfl (ov_add rfl rfl rfl (by omega)) ?_
     refine rl_v rfl rfl rfl (ov_move rfl rfl) <| rl_nil ?_
     refine Run.use (ih5 (k + 1) (upd s (E k) true) _ ?_ ?_) (And.intro (by exact slot_int rfl (by first | omega)) (And.intro rfl (And.intro rfl (And.intro rfl (And.intro rfl trivial)))))
     ·first | omega | (dsimp only; omega)
     ·exact ⟨by omega, by omega, hL'.1, hL'.2, hO9.congrI 0 rfl (G' := fun x => .bool (upd s (E k) true x)) fun x x0 x1 => by unfold upd; split <;> rfl⟩
 ·have hkn : k.toNat = n := by omega
  rw [hkn] at hL
  refine run_exit rfl <| run_seq <| run_region <| rl_v rfl rfl rfl (ov_assign rfl rfl) <| rl_nil <| run_ret Tryz.func147 (res1 Tryz.results147 rfl) ?_
  exact ⟨⟨true, rfl, ⟨fun _ => hL, fun _ => rfl⟩⟩, hO.below⟩
theorem areNot_any (ao : Option Addr) (n c N b3 : Nat) (E : Int → Int) (w : World) (hn : n ≤ 1000000) (hN : N ≤ 1000) (h : IAt w.heap.size w ao n (fun k => iv (E k))) (hb : LAt w.heap.size w b3 [iv N]) :
  Calls Tryz.prog 146 #[.slice ao n c, ptr b3] w fun e w' => (∃ b, e = .returned (.bool b) ∧ (b = true ↔ ¬ IsL n E N)) ∧ Below w.heap.size w w' := by
 have hl := hb.open
 refine calls_of_run (F := [(0, _), (1, _)]) Tryz.func146 rfl Tryz.ntmps146 rfl rfl ?_
 have hO0 := Own.init w
 refine run_seq <| run_region <| rl_v rfl rfl rfl (ov_assign rfl rfl) <| rl_nil <| run_seq <| run_region <| rl_v rfl rfl rfl (ov_move rfl rfl) <| rl_v rfl rfl rfl (ov_load rfl Tryz.underlying3 rfl rfl (by exact hl _ hO0.below rfl)) ?_
 refine rl_call callable_147 rfl rfl rfl rfl rfl rfl (isList_any ao n c N E _ hn hN ((hO0.iatF h))) (fun e1 w2 hp3 => ?_)
 obtain ⟨⟨b, rfl, hbb⟩, hbl⟩ := hp3
 refine ⟨_, rfl, ?_⟩
 have hO4 := hO0.past hbl
 refine rl_v rfl rfl rfl (ov_not rfl rfl) <| rl_v rfl rfl rfl (ov_assign rfl rfl) <| rl_nil <| run_ret Tryz.func146 (res1 Tryz.results146 rfl) ?_
 exact ⟨⟨_, rfl, by cases b; (exact ⟨fun _ hL => Bool.noConfusion (hbb.2 hL), fun _ => rfl⟩); (exact ⟨fun h => Bool.noConfusion h, fun hL => absurd (hbb.1 rfl) hL⟩)⟩, hO4.below⟩
theorem indexLists_any (ao : Option Addr) (n c N b3 : Nat) (L : Int → Nat) (E : Int → Int → Int) (w : World) (hn : n ≤ 1000000) (hL : ∀ r : Int, 0 ≤ r → r < n → L r ≤ 1000000) (hN : N ≤ 1000) (h : ITab w.heap.size w ao n L (fun r c => iv (E r c))) (hb : LAt w.heap.size w b3 [iv N]) :
  Calls Tryz.prog 154 #[.slice ao n c, .func (.func 146) #[] #[ptr b3]] w fun e w' => (∃ r : Int, e = .returned (iv r) ∧ ((r = -1 ∧ ∀ i : Int, 0 ≤ i → i < n → IsL (L i) (E i) N) ∨ (0 ≤ r ∧ r < n ∧ ¬ IsL (L r) (E r) N))) ∧ Below w.heap.size w w' := by
 obtain ⟨A, C, RB, RO, gb, go, hga, hrow, hra, hel, hcan⟩ := h.open
 refine calls_of_run (F := [(0, _), (1, _)]) Tryz.func154 rfl Tryz.ntmps154 rfl rfl ?_
 have hO0 := Own.init w
 refine run_seq <| run_region <| rl_v rfl rfl rfl (ov_assign rfl rfl) <| rl_nil <| run_seq <| run_seq <| run_region <| rl_v rfl rfl rfl (ov_move rfl rfl) <| rl_v rfl rfl rfl (ov_len rfl Tryz.underlying69 rfl) <| rl_v rfl rfl rfl (ov_move rfl rfl) <| rl_nil <| run_block <| Run.keep [0, 1, 7, 8] (F' := [(0, _), (1, _), (7, _), (8, _)]) rfl <| run_loop1 (fun (k : Int) => [(8, .int .i64 k)]) [0, 1, 7] (fun (k : Int) (w1 : World) => 0 ≤ k ∧ k ≤ n ∧ (∀ i : Int, 0 ≤ i → i < k → IsL (L i) (E i) N) ∧ Own w.heap.size w w1 []) (fun (k : Int) => ((n : Int) - k).toNat) (0) ?_ (And.intro (by exact slot_int rfl (by first | omega)) (And.intro rfl (And.intro rfl (And.intro rfl trivial)))) ?_
 ·exact ⟨by omega, by omega, fun i h0 h1 => by omega, hO0⟩
 intro k w1 hIw1 ih2
 obtain ⟨hk0, hk1, hall, hO⟩ := hIw1
 show Run _ _ _ _ [(8, _), (0, _), (1, _), (7, _)] _ _
 refine run_seq <| run_region <| rl_v rfl rfl rfl (ov_lss rfl rfl rfl) <| rl_nil <| run_seq ?_
 first | refine run_cond_dec rfl (fun h1 => ?_) (fun h1 => ?_) | refine run_cond rfl (fun h1 => ?_) (fun h1 => ?_)
 ·refine run_skip <| run_seq <| run_block <| run_seq <| run_region <| rl_v rfl rfl rfl (ov_move rfl rfl) <| rl_v rfl rfl rfl (ov_assign rfl rfl) <| rl_nil <| run_seq <| run_region <| rl_v rfl rfl rfl (ov_move rfl rfl) <| rl_v rfl rfl rfl (ov_move rfl rfl) <| rl_v rfl rfl rfl (ov_move rfl rfl) <| rl_v rfl rfl rfl (ov_index1 rfl Tryz.underlying69 (by kernel_rfl) rfl rfl ⟨by omega, by omega⟩ (by exact hga (by omega))) ?_
  refine rl_v rfl rfl rfl (ov_load rfl Tryz.underlying36 rfl rfl (by exact hrow _ hO.below _ (by omega) (by omega))) ?_
  refine rl_call callable_146 rfl rfl rfl rfl rfl rfl (areNot_any (A k) (L k) (C k) N b3 (E k) _ (hL k hk0 h1) hN (hO.iatF (hcan k hk0 h1)) ((hb.below hO.below).mono hO.size)) (fun e3 w4 hp5 => ?_)
  obtain ⟨⟨b, rfl, hbb⟩, hbl⟩ := hp5
  refine ⟨_, rfl, ?_⟩
  have hO6 := hO.past hbl
  refine rl_nil ?_
  first | refine run_cond_dec rfl (fun h2 => ?_) (fun h2 => ?_) | refine run_cond rfl (fun h2 => ?_) (fun h2 => ?_)
  ·refine run_seq <| run_region <| rl_v rfl rfl rfl (ov_move rfl rfl) <| rl_v rfl rfl rfl (ov_assign rfl rfl) <| rl_nil <| run_ret Tryz.func154 (res1 Tryz.results154 rfl) ?_
   exact ⟨⟨k, rfl, .inr ⟨hk0, h1, hbb.1 h2⟩⟩, hO6.below⟩
  ·have hk : IsL (L k) (E k) N := Classical.byContradiction fun hn => by rw [hbb.2 hn] at h2; exact Bool.noConfusion h2
   refine run_skip <| run_inBlock <| run_region <| rl_v rfl rfl rfl (ov_add rfl rfl rfl (by omega)) ?_
   refine rl_v rfl rfl rfl (ov_move rfl rfl) <| rl_nil ?_
   refine Run.use (ih2 _ _ ?_ ?_) (And.intro (by rfl) (And.intro rfl (And.intro rfl (And.intro rfl trivial))))
   ·first | omega | (dsimp only; omega)
   ·exact ⟨by omega, by omega, fun i h0 h1' => (by omega : i = k ∨ i < k).elim (fun e => by rw [e]; exact hk) (fun e => hall i h0 e), hO6⟩
 ·refine run_exit rfl <| run_seq <| run_region <| rl_v rfl rfl rfl (ov_assign rfl rfl) <| rl_nil <| run_ret Tryz.func154 (res1 Tryz.results154 rfl) ?_
  exact ⟨⟨-1, rfl, .inl ⟨rfl, fun i h0 h1' => hall i h0 (by omega)⟩⟩, hO.below⟩
theorem containsLists_any (ao : Option Addr) (n c N b3 : Nat) (L : Int → Nat) (E : Int → Int → Int) (w : World) (hn : n ≤ 1000000) (hL : ∀ r : Int, 0 ≤ r → r < n → L r ≤ 1000000) (hN : N ≤ 1000) (h : ITab w.heap.size w ao n L (fun r c => iv (E r c))) (hb : LAt w.heap.size w b3 [iv N]) :
  Calls Tryz.prog 145 #[.slice ao n c, .func (.func 146) #[] #[ptr b3]] w fun e w' => (∃ b, e = .returned (.bool b) ∧ (b = true ↔ ¬ ∀ i : Int, 0 ≤ i → i < n → IsL (L i) (E i) N)) ∧ Below w.heap.size w w' := by
 refine calls_of_run (F := [(0, _), (1, _)]) Tryz.func145 rfl Tryz.ntmps145 rfl rfl ?_
 have hO0 := Own.init w
 refine run_seq <| run_region <| rl_v rfl rfl rfl (ov_assign rfl rfl) <| rl_nil <| run_seq <| run_region <| rl_v rfl rfl rfl (ov_move rfl rfl) <| rl_v rfl rfl rfl (ov_move rfl rfl) ?_
 refine rl_call callable_154 rfl rfl rfl rfl rfl rfl (indexLists_any ao n c N b3 L E _ hn hL hN h hb) (fun e1 w2 hp3 => ?_)
 obtain ⟨⟨r, rfl, hr⟩, hbl⟩ := hp3
 refine ⟨_, rfl, ?_⟩
 have hO4 := hO0.past hbl
 refine rl_v rfl rfl rfl (ov_geq rfl rfl rfl) <| rl_v rfl rfl rfl (ov_assign rfl rfl) <| rl_nil <| run_ret Tryz.func145 (res1 Tryz.results145 rfl) ?_
 exact ⟨⟨_, rfl, by rw [decide_eq_true_iff]; rcases hr with ⟨h1, h2⟩ | ⟨h1, h2, h3⟩; (exact ⟨fun h => by omega, fun hn => absurd h2 hn⟩); (exact ⟨fun _ hall => h3 (hall r h1 h2), fun _ => h1⟩)⟩, hO4.below⟩
theorem areLists_any (ao : Option Addr) (n c N : Nat) (L : Int → Nat) (E : Int → Int → Int) (w : World) (hn : n ≤ 1000000) (hL : ∀ r : Int, 0 ≤ r → r < n → L r ≤ 1000000) (hN : N ≤ 1000) (h : ITab w.heap.size w ao n L (fun r c => iv (E r c))) :
  Calls Tryz.prog 120 #[.slice ao n c, iv N] w fun e w' => (∃ b, e = .returned (.bool b) ∧ (b = true ↔ ∀ i : Int, 0 ≤ i → i < n → IsL (L i) (E i) N)) ∧ Below w.heap.size w w' := by
 refine calls_of_run (F := [(0, _), (1, _)]) Tryz.func120 rfl Tryz.ntmps120 rfl rfl ?_
 have hO0 := Own.init w
 refine run_seq <| run_region <| rl_ow rfl (ow_box _ rfl rfl rfl rfl rfl hO0) ?_
 rintro _ w1 ⟨b3, rfl, hO2, hs3⟩
 refine rl_v rfl rfl rfl (ov_assign rfl rfl) <| rl_nil <| run_seq <| run_region <| rl_v rfl rfl rfl (ov_move rfl rfl) <| rl_v rfl rfl rfl (ov_func rfl rfl rfl) ?_
 refine rl_call callable_145 rfl rfl rfl rfl rfl rfl (containsLists_any ao n c N b3 L E _ hn hL hN ((h.below hO2.below).mono hO2.size) (hO2.readsL 0 rfl)) (fun e4 w5 hp6 => ?_)
 obtain ⟨⟨b, rfl, hbb⟩, hbl⟩ := hp6
 refine ⟨_, rfl, ?_⟩
 have hO7 := hO2.past hbl
 refine rl_v rfl rfl rfl (ov_not rfl rfl) <| rl_v rfl rfl rfl (ov_assign rfl rfl) <| rl_nil <| run_ret Tryz.func120 (res1 Tryz.results120 rfl) ?_
 exact ⟨⟨_, rfl, by cases b; (exact ⟨fun _ => Classical.byContradiction fun hn => Bool.noConfusion (hbb.2 hn), fun _ => rfl⟩); (exact ⟨fun h => Bool.noConfusion h, fun hall => absurd hall (hbb.1 rfl)⟩)⟩, hO7.below⟩
end Go.Proofs.YtbepolognfdkeaaGreat
set_option maxRecDepth 100000
namespace Go.Proofs.YtbepolognfdkeaaGreat
open Go.RowKit Go.Proofs Go.MapKept
def cnk (l : Int → Int) (k b : Int) : Int := sm (fun g => if l g = b then 1 else 0) k
end Go.Proofs.YtbepolognfdkeaaGreat
set_option maxRecDepth 100000
namespace Go.Proofs.YtbepolognfdkeaaGreat
open Go.RowKit Go.Proofs
theorem sm_atmost {p : Int → Prop} [∀ i, Decidable (p i)] {n : Int} (n0 : 0 ≤ n) (h : ∀ i j : Int, 0 ≤ i → i < n → 0 ≤ j → j < n → p i → p j → i = j) : sm (fun i => if p i then 1 else 0) n ≤ 1 := by
 by_cases c : ∃ i : Int, 0 ≤ i ∧ i < n ∧ p i
 ·obtain ⟨i, i0, i1, hi⟩ := c
  have e : sm (fun i => if p i then 1 else 0) n = sm (fun j => if i = j then 1 else 0) n := sm_congr fun j j0 j1 => by
   by_cases e : i = j
   ·rw [if_pos e, ← e, if_pos hi]
   ·rw [if_neg e, if_neg fun hj => e (h i j i0 i1 j0 j1 hi hj)]
  rw [e, sm_one i0 i1]
  omega
 ·rw [sm_congr (g := fun _ => 0) fun i i0 i1 => if_neg fun hi => c ⟨i, i0, i1, hi⟩, sm_const 0 n0]
  omega
theorem perm_surj {n : Int} {o : Int → Int} (n0 : 0 ≤ n) (hr : ∀ i : Int, 0 ≤ i → i < n → 0 ≤ o i ∧ o i < n) (hi : ∀ i j : Int, 0 ≤ i → i < n → 0 ≤ j → j < n → o i = o j → i = j) {k : Int} (k0 : 0 ≤ k) (k1 : k < n) : ∃ p : Int, 0 ≤ p ∧ p < n ∧ o p = k := by
 have h1 : sm (fun k => sm (fun p => if o p = k then (1 : Int) else 0) n) n = n := by
  rw [sm_swap, sm_congr (g := fun _ => 1) fun p p0 p1 => sm_one (hr p p0 p1).1 (hr p p0 p1).2 1, sm_const 1 n0]
  omega
 have h2 := sm_eq (f := fun k => sm (fun p => if o p = k then (1 : Int) else 0) n) (g := fun _ => 1) (k := n) (fun k k0 k1 => sm_atmost n0 fun i j i0 i1 j0 j1 h1 h2 => hi i j i0 i1 j0 j1 (h1.trans h2.symm)) (by rw [h1, sm_const 1 n0]; omega) k0 k1
 refine Classical.byContradiction fun hno => ?_
 have h3 : sm (fun p => if o p = k then (1 : Int) else 0) n = 0 := by
  rw [sm_congr (g := fun _ => 0) fun p p0 p1 => if_neg fun e => hno ⟨p, p0, p1, e⟩, sm_const 0 n0]; omega
 have h4 : sm (fun p => if o p = k then (1 : Int) else 0) n = 1 := h2
 omega
structure Wish where
 n : Nat
 l : Int → Nat
 e : Int → Int → Int
namespace Wish
structure Ok (W : Wish) : Prop where
 len : ∀ i : Int, 0 ≤ i → i < W.n → 1 ≤ W.l i
 rng : ∀ i k : Int, 0 ≤ i → i < W.n → 0 ≤ k → k < W.l i → 0 ≤ W.e i k ∧ W.e i k < W.n
 dis : ∀ i : Int, 0 ≤ i → i < W.n → ∀ a b : Int, 0 ≤ a → a < W.l i → 0 ≤ b → b < W.l i → W.e i a = W.e i b → a = b
 own : ∀ i : Int, 0 ≤ i → i < W.n → W.e i ((W.l i : Int) - 1) = i
def rk (W : Wish) (i k : Int) : Int := Proofs.YtbepolognfdkeaaGreat.rk (W.e i) (W.l i) k
structure Cert (W : Wish) (o t : Int → Int) : Prop where
 rng : ∀ i : Int, 0 ≤ i → i < W.n → 0 ≤ o i ∧ o i < W.n
 inj : ∀ i j : Int, 0 ≤ i → i < W.n → 0 ≤ j → j < W.n → o i = o j → i = j
 on : ∀ i : Int, 0 ≤ i → i < W.n → W.rk i (o i) < W.l i
 lev : ∀ i : Int, 0 ≤ i → i < W.n → t (o i) = t i
 best : ∀ i k : Int, 0 ≤ i → i < W.n → 0 ≤ k → k < W.rk i (o i) → t (W.e i k) < t i
end Wish
end Go.Proofs.YtbepolognfdkeaaGreat
