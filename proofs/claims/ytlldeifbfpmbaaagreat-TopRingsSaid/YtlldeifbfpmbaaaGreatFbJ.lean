import Derived.Test.YtlldeifbfpmbaaaGreatFbG
set_option maxRecDepth 100000
namespace Go.Proofs.YtlldeifbfpmbaaaGreat
open Go.RowKit Go.Proofs Go.MapKept
def IsL (n : Nat) (E : Int → Int) (N : Int) : Prop := (∀ k : Int, 0 ≤ k → k < n → 0 ≤ E k ∧ E k < N) ∧ ∀ a b : Int, 0 ≤ a → a < n → 0 ≤ b → b < n → E a = E b → a = b
theorem isList_any (ao : Option Addr) (n c N : Nat) (E : Int → Int) (w : World) (hn : n ≤ 1000000) (hN : N ≤ 1000) (h : IAt w.heap.size w ao n (fun k => iv (E k))) :
  Calls Tryz.prog 89 #[.slice ao n c, iv N] w fun e w' => (∃ b, e = .returned (.bool b) ∧ (b = true ↔ IsL n E N)) ∧ Below w.heap.size w w' := by
 obtain ⟨gb, go, hga, hrow⟩ := h.open
 refine calls_of_run (F := [(0, _), (1, _)]) Tryz.func89 rfl Tryz.ntmps89 rfl rfl ?_
 have hO0 := Own.init w
 refine run_seq <| run_region <| rl_v rfl rfl rfl (ov_assign rfl rfl) <| rl_nil <| run_seq <| run_region <| rl_v rfl rfl rfl (ov_move rfl rfl) ?_
 refine rl_make (N) rfl rfl rfl rfl Tryz.underlying75 info_4 rfl hO0 rfl rfl (by rfl) (by rfl) ⟨by omega, by omega⟩ (fun sb w1 hO2 hs3 => ?_)
 refine rl_v rfl rfl rfl (ov_assign rfl rfl) <| rl_nil <| run_seq <| run_seq <| run_region <| rl_v rfl rfl rfl (ov_move rfl rfl) <| rl_v rfl rfl rfl (ov_len rfl Tryz.underlying23 rfl) <| rl_v rfl rfl rfl (ov_move rfl rfl) <| rl_nil <| run_block <| Run.keep [1, 5, 10, 11, 12] (F' := [(1, _), (5, _), (10, _), (11, _), (12, _)]) rfl <| run_loop2 (fun (k : Int) (s : Int → Bool) => [(12, .int .i64 k)]) [1, 5, 10, 11] (fun (k : Int) (s : Int → Bool) (w4 : World) => 0 ≤ k ∧ k ≤ n ∧ IsL k.toNat E N ∧ (∀ x : Int, 0 ≤ x → x < N → (s x = true ↔ ∃ i : Int, 0 ≤ i ∧ i < k ∧ E i = x)) ∧ Own w.heap.size w w4 [some (vch sb 4 N (fun x => .bool (s x)))]) (fun (k : Int) (s : Int → Bool) => ((n : Int) - k).toNat) (0) (fun _ => false) ?_ (And.intro (by exact slot_int rfl (by first | omega)) (And.intro rfl (And.intro rfl (And.intro rfl (And.intro rfl trivial))))) ?_
 ·exact ⟨by omega, by omega, ⟨fun k k0 k1 => by omega, fun a b a0 a1 => by omega⟩, fun x x0 x1 => ⟨fun h => Bool.noConfusion h, fun ⟨i, i0, i1, _⟩ => by omega⟩, hO2⟩
 intro k s w4 hIw4 ih5
 obtain ⟨hk0, hk1, hL, hs, hO⟩ := hIw4
 show Run _ _ _ _ [(12, _), (1, _), (5, _), (10, _), (11, _)] _ _
 refine run_seq <| run_region <| rl_v rfl rfl rfl (ov_lss rfl rfl rfl) <| rl_nil <| run_seq ?_
 first | refine run_cond_dec rfl (fun h1 => ?_) (fun h1 => ?_) | refine run_cond rfl (fun h1 => ?_) (fun h1 => ?_)
 ·refine run_skip <| run_seq <| run_block <| run_seq <| run_region <| rl_v rfl rfl rfl (ov_index1 rfl Tryz.underlying23 (by kernel_rfl) rfl rfl ⟨by omega, by omega⟩ (by exact hga (by omega))) ?_
  refine rl_v rfl rfl rfl (ov_load rfl Tryz.underlying3 rfl rfl (by exact hrow _ hO.below _ (by omega) (by omega))) ?_
  refine rl_v rfl rfl rfl (ov_assign rfl rfl) <| rl_nil <| run_seq <| run_seq <| run_region <| rl_v rfl rfl rfl (ov_move rfl rfl) <| rl_v rfl rfl rfl (ov_lss rfl rfl rfl) <| rl_v rfl rfl rfl (ov_move rfl rfl) ?_
  first | refine rl_split_dec 18 rfl (fun g1 => ?_) (fun g1 => ?_) | refine rl_split 18 rfl (fun g1 => ?_) (fun g1 => ?_)
  ·refine rl_gskip rfl rfl rfl rfl rfl rfl <| rl_gskip rfl rfl rfl rfl rfl rfl <| rl_gskip rfl rfl rfl rfl rfl rfl <| rl_v rfl rfl rfl (ov_pick_t rfl rfl rfl) <| rl_v rfl rfl rfl (ov_move rfl rfl) <| rl_gskip rfl rfl rfl rfl rfl rfl <| rl_gskip rfl rfl rfl rfl rfl rfl <| rl_gskip rfl rfl rfl rfl rfl rfl <| rl_gskip rfl rfl rfl rfl rfl rfl <| rl_v rfl rfl rfl (ov_pick_t rfl rfl rfl) <| rl_nil <| run_cond_t rfl <| run_seq <| run_region <| rl_v rfl rfl rfl (ov_assign rfl rfl) <| rl_nil <| run_ret Tryz.func89 (res1 Tryz.results89 rfl) ?_
   exact ⟨⟨false, rfl, ⟨fun h => Bool.noConfusion h, fun hL => by have := hL.1 k hk0 h1; omega⟩⟩, hO.below⟩
  ·refine rl_gv rfl rfl rfl rfl rfl (ov_move rfl rfl) <| rl_gv rfl rfl rfl rfl rfl (ov_move rfl rfl) <| rl_gv rfl rfl rfl rfl rfl (ov_geq rfl rfl rfl) <| rl_v rfl rfl rfl (ov_pick_f rfl rfl rfl) <| rl_v rfl rfl rfl (ov_move rfl rfl) ?_
   first | refine rl_split_dec 23 rfl (fun g2 => ?_) (fun g2 => ?_) | refine rl_split 23 rfl (fun g2 => ?_) (fun g2 => ?_)
   ·refine rl_gskip rfl rfl rfl rfl rfl rfl <| rl_gskip rfl rfl rfl rfl rfl rfl <| rl_gskip rfl rfl rfl rfl rfl rfl <| rl_gskip rfl rfl rfl rfl rfl rfl <| rl_v rfl rfl rfl (ov_pick_t rfl rfl rfl) <| rl_nil <| run_cond_t rfl <| run_seq <| run_region <| rl_v rfl rfl rfl (ov_assign rfl rfl) <| rl_nil <| run_ret Tryz.func89 (res1 Tryz.results89 rfl) ?_
    exact ⟨⟨false, rfl, ⟨fun h => Bool.noConfusion h, fun hL => by have := hL.1 k hk0 h1; omega⟩⟩, hO.below⟩
   ·refine rl_gv rfl rfl rfl rfl rfl (ov_move rfl rfl) <| rl_gv rfl rfl rfl rfl rfl (ov_move rfl rfl) <| rl_gv rfl rfl rfl rfl rfl (ov_index1 rfl Tryz.underlying75 (by kernel_rfl) rfl rfl ⟨by omega, by omega⟩ (by rfl)) ?_
    refine rl_gv rfl rfl rfl rfl rfl (ov_load rfl Tryz.underlying4 rfl rfl (by exact hO.cellI 0 rfl _ (by omega) (by omega))) ?_
    refine rl_v rfl rfl rfl (ov_pick_f rfl rfl rfl) <| rl_nil ?_
    first | refine run_cond_dec rfl (fun h3 => ?_) (fun h3 => ?_) | refine run_cond rfl (fun h3 => ?_) (fun h3 => ?_)
    ·refine run_seq <| run_region <| rl_v rfl rfl rfl (ov_assign rfl rfl) <| rl_nil <| run_ret Tryz.func89 (res1 Tryz.results89 rfl) ?_
     exact ⟨⟨false, rfl, ⟨fun h => Bool.noConfusion h, fun hL => by obtain ⟨i, i0, i1, e⟩ := (hs (E k) (by omega) (by omega)).1 h3; have := hL.2 i k i0 (by omega) hk0 h1 e; omega⟩⟩, hO.below⟩
    ·have hE : 0 ≤ E k ∧ E k < N := ⟨by omega, by omega⟩
     have hL' : IsL (k + 1).toNat E N ∧ ∀ x : Int, 0 ≤ x → x < N → (upd s (E k) true x = true ↔ ∃ i : Int, 0 ≤ i ∧ i < k + 1 ∧ E i = x) := by
      have hno : ∀ i : Int, 0 ≤ i → i < k → E i ≠ E k := fun i i0 i1 e => by have := (hs (E k) hE.1 hE.2).2 ⟨i, i0, i1, e⟩; rw [h3] at this; exact Bool.noConfusion this
      refine ⟨⟨fun i i0 i1 => ?_, fun a b a0 a1 b0 b1 e => ?_⟩, fun x x0 x1 => ?_⟩
      ·by_cases c : i = k
       ·rw [c]; exact hE
       ·exact hL.1 i i0 (by omega)
      ·by_cases c : a = k <;> by_cases d : b = k
       ·omega
       ·rw [c] at e; exact absurd e.symm (hno b b0 (by omega))
       ·rw [d] at e; exact absurd e (hno a a0 (by omega))
       ·exact hL.2 a b a0 (by omega) b0 (by omega) e
      ·by_cases c : x = E k
       ·rw [c, upd_same]; exact ⟨fun _ => ⟨k, hk0, by omega, rfl⟩, fun _ => rfl⟩
       ·rw [upd_ne _ _ c, hs x x0 x1]
        refine ⟨fun ⟨i, i0, i1, e⟩ => ⟨i, i0, by omega, e⟩, fun ⟨i, i0, i1, e⟩ => ⟨i, i0, ?_, e⟩⟩
        have : i ≠ k := fun e2 => by rw [e2] at e; exact c e.symm
        omega
     refine run_skip <| run_region <| rl_v rfl rfl rfl (ov_move rfl rfl) <| rl_v rfl rfl rfl (ov_move rfl rfl) <| rl_v rfl rfl rfl (ov_index1 rfl Tryz.underlying75 (by kernel_rfl) rfl rfl ⟨by omega, by omega⟩ (by rfl)) ?_
     refine rl_ow rfl (ow_store rfl rfl (by kernel_rfl) hO 0 rfl rfl ⟨by omega, by omega⟩ rfl rfl) ?_
     rintro _ w8 ⟨rfl, hO9, hs10⟩
     refine rl_nil <| run_inBlock <| run_region <| rl_v rfl rfl rfl (ov_add rfl rfl rfl (by omega)) ?_
     refine rl_v rfl rfl rfl (ov_move rfl rfl) <| rl_nil ?_
     refine Run.use (ih5 (k + 1) (upd s (E k) true) _ ?_ ?_) (And.intro (by exact slot_int rfl (by first | omega)) (And.intro rfl (And.intro rfl (And.intro rfl (And.intro rfl trivial)))))
     ·first | omega | (dsimp only; omega)
     ·exact ⟨by omega, by omega, hL'.1, hL'.2, hO9.congrI 0 rfl (G' := fun x => .bool (upd s (E k) true x)) fun x x0 x1 => by unfold upd; split <;> rfl⟩
 ·have hkn : k.toNat = n := by omega
  rw [hkn] at hL
  refine run_exit rfl <| run_seq <| run_region <| rl_v rfl rfl rfl (ov_assign rfl rfl) <| rl_nil <| run_ret Tryz.func89 (res1 Tryz.results89 rfl) ?_
  exact ⟨⟨true, rfl, ⟨fun _ => hL, fun _ => rfl⟩⟩, hO.below⟩
theorem areNot_any (ao : Option Addr) (n c N b3 : Nat) (E : Int → Int) (w : World) (hn : n ≤ 1000000) (hN : N ≤ 1000) (h : IAt w.heap.size w ao n (fun k => iv (E k))) (hb : LAt w.heap.size w b3 [iv N]) :
  Calls Tryz.prog 88 #[.slice ao n c, ptr b3] w fun e w' => (∃ b, e = .returned (.bool b) ∧ (b = true ↔ ¬ IsL n E N)) ∧ Below w.heap.size w w' := by
 have hl := hb.open
 refine calls_of_run (F := [(0, _), (1, _)]) Tryz.func88 rfl Tryz.ntmps88 rfl rfl ?_
 have hO0 := Own.init w
 refine run_seq <| run_region <| rl_v rfl rfl rfl (ov_assign rfl rfl) <| rl_nil <| run_seq <| run_region <| rl_v rfl rfl rfl (ov_move rfl rfl) <| rl_v rfl rfl rfl (ov_load rfl Tryz.underlying3 rfl rfl (by exact hl _ hO0.below rfl)) ?_
 refine rl_call callable_89 rfl rfl rfl rfl rfl rfl (isList_any ao n c N E _ hn hN ((hO0.iatF h))) (fun e1 w2 hp3 => ?_)
 obtain ⟨⟨b, rfl, hbb⟩, hbl⟩ := hp3
 refine ⟨_, rfl, ?_⟩
 have hO4 := hO0.past hbl
 refine rl_v rfl rfl rfl (ov_not rfl rfl) <| rl_v rfl rfl rfl (ov_assign rfl rfl) <| rl_nil <| run_ret Tryz.func88 (res1 Tryz.results88 rfl) ?_
 exact ⟨⟨_, rfl, by cases b; (exact ⟨fun _ hL => Bool.noConfusion (hbb.2 hL), fun _ => rfl⟩); (exact ⟨fun h => Bool.noConfusion h, fun hL => absurd (hbb.1 rfl) hL⟩)⟩, hO4.below⟩
theorem indexLists_any (ao : Option Addr) (n c N b3 : Nat) (L : Int → Nat) (E : Int → Int → Int) (w : World) (hn : n ≤ 1000000) (hL : ∀ r : Int, 0 ≤ r → r < n → L r ≤ 1000000) (hN : N ≤ 1000) (h : ITab w.heap.size w ao n L (fun r c => iv (E r c))) (hb : LAt w.heap.size w b3 [iv N]) :
  Calls Tryz.prog 116 #[.slice ao n c, .func (.func 88) #[] #[ptr b3]] w fun e w' => (∃ r : Int, e = .returned (iv r) ∧ ((r = -1 ∧ ∀ i : Int, 0 ≤ i → i < n → IsL (L i) (E i) N) ∨ (0 ≤ r ∧ r < n ∧ ¬ IsL (L r) (E r) N))) ∧ Below w.heap.size w w' := by
 obtain ⟨A, C, RB, RO, gb, go, hga, hrow, hra, hel, hcan⟩ := h.open
 refine calls_of_run (F := [(0, _), (1, _)]) Tryz.func116 rfl Tryz.ntmps116 rfl rfl ?_
 have hO0 := Own.init w
 refine run_seq <| run_region <| rl_v rfl rfl rfl (ov_assign rfl rfl) <| rl_nil <| run_seq <| run_seq <| run_region <| rl_v rfl rfl rfl (ov_move rfl rfl) <| rl_v rfl rfl rfl (ov_len rfl Tryz.underlying22 rfl) <| rl_v rfl rfl rfl (ov_move rfl rfl) <| rl_nil <| run_block <| Run.keep [0, 1, 7, 8] (F' := [(0, _), (1, _), (7, _), (8, _)]) rfl <| run_loop1 (fun (k : Int) => [(8, .int .i64 k)]) [0, 1, 7] (fun (k : Int) (w1 : World) => 0 ≤ k ∧ k ≤ n ∧ (∀ i : Int, 0 ≤ i → i < k → IsL (L i) (E i) N) ∧ Own w.heap.size w w1 []) (fun (k : Int) => ((n : Int) - k).toNat) (0) ?_ (And.intro (by exact slot_int rfl (by first | omega)) (And.intro rfl (And.intro rfl (And.intro rfl trivial)))) ?_
 ·exact ⟨by omega, by omega, fun i h0 h1 => by omega, hO0⟩
 intro k w1 hIw1 ih2
 obtain ⟨hk0, hk1, hall, hO⟩ := hIw1
 show Run _ _ _ _ [(8, _), (0, _), (1, _), (7, _)] _ _
 refine run_seq <| run_region <| rl_v rfl rfl rfl (ov_lss rfl rfl rfl) <| rl_nil <| run_seq ?_
 first | refine run_cond_dec rfl (fun h1 => ?_) (fun h1 => ?_) | refine run_cond rfl (fun h1 => ?_) (fun h1 => ?_)
 ·refine run_skip <| run_seq <| run_block <| run_seq <| run_region <| rl_v rfl rfl rfl (ov_move rfl rfl) <| rl_v rfl rfl rfl (ov_assign rfl rfl) <| rl_nil <| run_seq <| run_region <| rl_v rfl rfl rfl (ov_move rfl rfl) <| rl_v rfl rfl rfl (ov_move rfl rfl) <| rl_v rfl rfl rfl (ov_move rfl rfl) <| rl_v rfl rfl rfl (ov_index1 rfl Tryz.underlying22 (by kernel_rfl) rfl rfl ⟨by omega, by omega⟩ (by exact hga (by omega))) ?_
  refine rl_v rfl rfl rfl (ov_load rfl Tryz.underlying23 rfl rfl (by exact hrow _ hO.below _ (by omega) (by omega))) ?_
  refine rl_call callable_88 rfl rfl rfl rfl rfl rfl (areNot_any (A k) (L k) (C k) N b3 (E k) _ (hL k hk0 h1) hN (hO.iatF (hcan k hk0 h1)) ((hb.below hO.below).mono hO.size)) (fun e3 w4 hp5 => ?_)
  obtain ⟨⟨b, rfl, hbb⟩, hbl⟩ := hp5
  refine ⟨_, rfl, ?_⟩
  have hO6 := hO.past hbl
  refine rl_nil ?_
  first | refine run_cond_dec rfl (fun h2 => ?_) (fun h2 => ?_) | refine run_cond rfl (fun h2 => ?_) (fun h2 => ?_)
  ·refine run_seq <| run_region <| rl_v rfl rfl rfl (ov_move rfl rfl) <| rl_v rfl rfl rfl (ov_assign rfl rfl) <| rl_nil <| run_ret Tryz.func116 (res1 Tryz.results116 rfl) ?_
   exact ⟨⟨k, rfl, .inr ⟨hk0, h1, hbb.1 h2⟩⟩, hO6.below⟩
  ·have hk : IsL (L k) (E k) N := Classical.byContradiction fun hn => by rw [hbb.2 hn] at h2; exact Bool.noConfusion h2
   refine run_skip <| run_inBlock <| run_region <| rl_v rfl rfl rfl (ov_add rfl rfl rfl (by omega)) ?_
   refine rl_v rfl rfl rfl (ov_move rfl rfl) <| rl_nil ?_
   refine Run.use (ih2 _ _ ?_ ?_) (And.intro (by rfl) (And.intro rfl (And.intro rfl (And.intro rfl trivial))))
   ·first | omega | (dsimp only; omega)
   ·exact ⟨by omega, by omega, fun i h0 h1' => (by omega : i = k ∨ i < k).elim (fun e => by rw [e]; exact hk) (fun e => hall i h0 e), hO6⟩
 ·refine run_exit rfl <| run_seq <| run_region <| rl_v rfl rfl rfl (ov_assign rfl rfl) <| rl_nil <| run_ret Tryz.func116 (res1 Tryz.results116 rfl) ?_
  exact ⟨⟨-1, rfl, .inl ⟨rfl, fun i h0 h1' => hall i h0 (by omega)⟩⟩, hO.below⟩
theorem containsLists_any (ao : Option Addr) (n c N b3 : Nat) (L : Int → Nat) (E : Int → Int → Int) (w : World) (hn : n ≤ 1000000) (hL : ∀ r : Int, 0 ≤ r → r < n → L r ≤ 1000000) (hN : N ≤ 1000) (h : ITab w.heap.size w ao n L (fun r c => iv (E r c))) (hb : LAt w.heap.size w b3 [iv N]) :
  Calls Tryz.prog 87 #[.slice ao n c, .func (.func 88) #[] #[ptr b3]] w fun e w' => (∃ b, e = .returned (.bool b) ∧ (b = true ↔ ¬ ∀ i : Int, 0 ≤ i → i < n → IsL (L i) (E i) N)) ∧ Below w.heap.size w w' := by
 refine calls_of_run (F := [(0, _), (1, _)]) Tryz.func87 rfl Tryz.ntmps87 rfl rfl ?_
 have hO0 := Own.init w
 refine run_seq <| run_region <| rl_v rfl rfl rfl (ov_assign rfl rfl) <| rl_nil <| run_seq <| run_region <| rl_v rfl rfl rfl (ov_move rfl rfl) <| rl_v rfl rfl rfl (ov_move rfl rfl) ?_
 refine rl_call callable_116 rfl rfl rfl rfl rfl rfl (indexLists_any ao n c N b3 L E _ hn hL hN h hb) (fun e1 w2 hp3 => ?_)
 obtain ⟨⟨r, rfl, hr⟩, hbl⟩ := hp3
 refine ⟨_, rfl, ?_⟩
 have hO4 := hO0.past hbl
 refine rl_v rfl rfl rfl (ov_geq rfl rfl rfl) <| rl_v rfl rfl rfl (ov_assign rfl rfl) <| rl_nil <| run_ret Tryz.func87 (res1 Tryz.results87 rfl) ?_
 exact ⟨⟨_, rfl, by rw [decide_eq_true_iff]; rcases hr with ⟨h1, h2⟩ | ⟨h1, h2, h3⟩; (exact ⟨fun h => by omega, fun hn => absurd h2 hn⟩); (exact ⟨fun _ hall => h3 (hall r h1 h2), fun _ => h1⟩)⟩, hO4.below⟩
theorem areLists_any (ao : Option Addr) (n c N : Nat) (L : Int → Nat) (E : Int → Int → Int) (w : World) (hn : n ≤ 1000000) (hL : ∀ r : Int, 0 ≤ r → r < n → L r ≤ 1000000) (hN : N ≤ 1000) (h : ITab w.heap.size w ao n L (fun r c => iv (E r c))) :
  Calls Tryz.prog 51 #[.slice ao n c, iv N] w fun e w' => (∃ b, e = .returned (.bool b) ∧ (b = true ↔ ∀ i : Int, 0 ≤ i → i < n → IsL (L i) (E i) N)) ∧ Below w.heap.size w w' := by
 refine calls_of_run (F := [(0, _), (1, _)]) Tryz.func51 rfl Tryz.ntmps51 rfl rfl ?_
 have hO0 := Own.init w
 refine run_seq <| run_region <| rl_ow rfl (ow_box _ rfl rfl rfl rfl rfl hO0) ?_
 rintro _ w1 ⟨b3, rfl, hO2, hs3⟩
 refine rl_v rfl rfl rfl (ov_assign rfl rfl) <| rl_nil <| run_seq <| run_region <| rl_v rfl rfl rfl (ov_move rfl rfl) <| rl_v rfl rfl rfl (ov_func rfl rfl rfl) ?_
 refine rl_call callable_87 rfl rfl rfl rfl rfl rfl (containsLists_any ao n c N b3 L E _ hn hL hN ((h.below hO2.below).mono hO2.size) (hO2.readsL 0 rfl)) (fun e4 w5 hp6 => ?_)
 obtain ⟨⟨b, rfl, hbb⟩, hbl⟩ := hp6
 refine ⟨_, rfl, ?_⟩
 have hO7 := hO2.past hbl
 refine rl_v rfl rfl rfl (ov_not rfl rfl) <| rl_v rfl rfl rfl (ov_assign rfl rfl) <| rl_nil <| run_ret Tryz.func51 (res1 Tryz.results51 rfl) ?_
 exact ⟨⟨_, rfl, by cases b; (exact ⟨fun _ => Classical.byContradiction fun hn => Bool.noConfusion (hbb.2 hn), fun _ => rfl⟩); (exact ⟨fun h => Bool.noConfusion h, fun hall => absurd hall (hbb.1 rfl)⟩)⟩, hO7.below⟩
end Go.Proofs.YtlldeifbfpmbaaaGreat
