import Derived.Test.YtbcjfjldmfljgaaGreatPrw
import Derived.Test.YtbcjfjldmfljgaaGreatFbC
set_option maxRecDepth 100000
namespace Go.Proofs.YtbcjfjldmfljgaaGreat
open Go.RowKit Go.Proofs
theorem OTab.get9 {B : Nat} {w0 w : World} {v : Value} {T1 T2 : TypeId} {n : Nat} {L : Int → Nat} {F : Int → Int → Value} {H R : List (Option Blk)} (h : OTab v T1 T2 n L F H) (ho : Own B w0 w (H ++ R)) (i : Nat) (hi : i < n) :
  ∃ (c : Option Blk) (rv : Int → Value) (ch : Nat → Option Blk), IRow v T1 n rv c ∧ (∀ r : Nat, r < n → IRow (rv r) T2 (L r) (F r) (ch r)) ∧ Own B w0 w (ch i :: c :: (((List.range n).erase i).map ch ++ R)) := by
 obtain ⟨c, rv, ch, rfl, h2, h3⟩ := h
 refine ⟨c, rv, ch, h2, h3, ho.perm ?_⟩
 have p := (List.perm_cons_erase (List.mem_range.2 hi)).map ch
 exact ((p.append_right R).cons c).trans (List.Perm.swap _ _ _)
theorem OTab.put9 {B : Nat} {w0 w : World} {v x : Value} {T1 T2 : TypeId} {n m : Nat} {L : Int → Nat} {F : Int → Int → Value} {G : Int → Value} {R : List (Option Blk)} {c cr : Option Blk} {rv : Int → Value} {ch : Nat → Option Blk} (i : Nat) (hi : i < n)
  (hv : IRow v T1 n (upd rv i x) c) (h3 : ∀ r : Nat, r < n → IRow (rv r) T2 (L r) (F r) (ch r)) (hx : IRow x T2 m G cr) (ho : Own B w0 w (cr :: c :: (((List.range n).erase i).map ch ++ R))) :
  ∃ H, OTab v T1 T2 n (upd L i m) (upd F i G) H ∧ Own B w0 w (H ++ R) := by
 refine ⟨_, ⟨c, _, fun r => if r = i then cr else ch r, rfl, hv, fun r hr => ?_⟩, ho.perm ?_⟩
 ·show IRow _ _ _ _ (if r = i then cr else ch r)
  by_cases e : r = i
  ·subst e; rw [upd_same, upd_same, upd_same, if_pos rfl]; exact hx
  ·rw [upd_ne _ _ (by omega), upd_ne _ _ (by omega), upd_ne _ _ (by omega), if_neg e]; exact h3 r hr
 ·have p := (List.perm_cons_erase (List.mem_range.2 hi)).map (fun r => if r = i then cr else ch r)
  have e : ((List.range n).erase i).map (fun r => if r = i then cr else ch r) = ((List.range n).erase i).map ch := List.map_congr_left fun r hr => by
   have : r ≠ i := fun e => by rw [e] at hr; exact (List.Nodup.not_mem_erase List.nodup_range) hr
   exact if_neg this
  simp only [List.map_cons, if_true, e] at p
  exact (List.Perm.swap _ _ _).trans ((p.symm.append_right R).cons c)
end Go.Proofs.YtbcjfjldmfljgaaGreat
set_option maxRecDepth 100000
namespace Go.Proofs.YtbcjfjldmfljgaaGreat
open Go.RowKit Go.Proofs
theorem sm_atmost {p : Int → Prop} [∀ i, Decidable (p i)] {n : Int} (n0 : 0 ≤ n) (h : ∀ i j : Int, 0 ≤ i → i < n → 0 ≤ j → j < n → p i → p j → i = j) : sm (fun i => if p i then 1 else 0) n ≤ 1 := by
 by_cases c : ∃ i : Int, 0 ≤ i ∧ i < n ∧ p i
 ·obtain ⟨i, i0, i1, hi⟩ := c
  have e : sm (fun i => if p i then 1 else 0) n = sm (fun j => if i = j then 1 else 0) n := sm_congr fun j j0 j1 => by
   by_cases e : i = j
   ·rw [if_pos e, ← e, if_pos hi]
   ·rw [if_neg e, if_neg fun hj => e (h i j i0 i1 j0 j1 hi hj)]
  rw [e, sm_one i0 i1]
  omega
 ·rw [sm_congr (g := fun _ => 0) fun i i0 i1 => if_neg fun hi => c ⟨i, i0, i1, hi⟩, sm_const 0 n0]
  omega
theorem perm_surj {n : Int} {o : Int → Int} (n0 : 0 ≤ n) (hr : ∀ i : Int, 0 ≤ i → i < n → 0 ≤ o i ∧ o i < n) (hi : ∀ i j : Int, 0 ≤ i → i < n → 0 ≤ j → j < n → o i = o j → i = j) {k : Int} (k0 : 0 ≤ k) (k1 : k < n) : ∃ p : Int, 0 ≤ p ∧ p < n ∧ o p = k := by
 have h1 : sm (fun k => sm (fun p => if o p = k then (1 : Int) else 0) n) n = n := by
  rw [sm_swap, sm_congr (g := fun _ => 1) fun p p0 p1 => sm_one (hr p p0 p1).1 (hr p p0 p1).2 1, sm_const 1 n0]
  omega
 have h2 := sm_eq (f := fun k => sm (fun p => if o p = k then (1 : Int) else 0) n) (g := fun _ => 1) (k := n) (fun k k0 k1 => sm_atmost n0 fun i j i0 i1 j0 j1 h1 h2 => hi i j i0 i1 j0 j1 (h1.trans h2.symm)) (by rw [h1, sm_const 1 n0]; omega) k0 k1
 refine Classical.byContradiction fun hno => ?_
 have h3 : sm (fun p => if o p = k then (1 : Int) else 0) n = 0 := by
  rw [sm_congr (g := fun _ => 0) fun p p0 p1 => if_neg fun e => hno ⟨p, p0, p1, e⟩, sm_const 0 n0]; omega
 have h4 : sm (fun p => if o p = k then (1 : Int) else 0) n = 1 := h2
 omega
theorem sm_perm {n : Int} {o : Int → Int} (n0 : 0 ≤ n) (hr : ∀ i : Int, 0 ≤ i → i < n → 0 ≤ o i ∧ o i < n) (hi : ∀ i j : Int, 0 ≤ i → i < n → 0 ≤ j → j < n → o i = o j → i = j) (F : Int → Int) : sm (fun i => F (o i)) n = sm F n := by
 have h1 : sm (fun i => F (o i)) n = sm (fun i => sm (fun k => if o i = k then F k else 0) n) n := sm_congr fun i i0 i1 => by
  have := hr i i0 i1
  rw [sm_congr (f := fun k => if o i = k then F k else 0) (g := fun k => if o i = k then F (o i) else 0) fun k _ _ => by by_cases e : o i = k; (rw [if_pos e, if_pos e, e]); (rw [if_neg e, if_neg e]), sm_one this.1 this.2]
 rw [h1, sm_swap]
 refine sm_congr fun k k0 k1 => ?_
 obtain ⟨p, p0, p1, hp⟩ := perm_surj n0 hr hi k0 k1
 rw [sm_congr (f := fun i => if o i = k then F k else 0) (g := fun i => if p = i then F k else 0) fun i i0 i1 => by
  by_cases e : p = i
  ·rw [if_pos e, ← e, if_pos hp]
  ·rw [if_neg e, if_neg fun h => e (hi p i p0 p1 i0 i1 (hp.trans h.symm))], sm_one p0 p1]
end Go.Proofs.YtbcjfjldmfljgaaGreat
set_option maxRecDepth 100000
namespace Go.Proofs.YtbcjfjldmfljgaaGreat
open Go.RowKit Go.Proofs Go.MapKept
theorem index5_any (ao : Option Addr) (n c : Nat) (X : Int → Int) (v : Int) (w : World) (hn : n ≤ 1000000) (h : IAt w.heap.size w ao n (fun i => iv (X i))) :
  Calls Tryz.prog 51 #[.slice ao n c, iv v] w fun e w' => e = .returned (iv (if rk X n v < n then rk X n v else -1)) ∧ Below w.heap.size w w' := by
 obtain ⟨gb, go, hga, hrow⟩ := h.open
 refine calls_of_run (F := [(0, _), (1, _)]) Tryz.func51 rfl Tryz.ntmps51 rfl rfl ?_
 have hO0 := Own.init w
 refine run_seq <| run_region <| rl_v rfl rfl rfl (ov_assign rfl rfl) <| rl_nil <| run_seq <| run_seq <| run_region <| rl_v rfl rfl rfl (ov_move rfl rfl) <| rl_v rfl rfl rfl (ov_len rfl Tryz.underlying30 rfl) <| rl_v rfl rfl rfl (ov_move rfl rfl) <| rl_nil <| run_block <| Run.keep [0, 1, 7, 8] (F' := [(0, _), (1, _), (7, _), (8, _)]) rfl <| run_loop1 (fun (k : Int) => [(8, .int .i64 k)]) [0, 1, 7] (fun (k : Int) (w1 : World) => 0 ≤ k ∧ k ≤ n ∧ k ≤ rk X n v ∧ Own w.heap.size w w1 []) (fun (k : Int) => ((n : Int) - k).toNat) (0) ?_ (And.intro (by exact slot_int rfl (by first | omega)) (And.intro rfl (And.intro rfl (And.intro rfl trivial)))) ?_
 ·exact ⟨by omega, by omega, (rk_rng X v n).1, hO0⟩
 intro k w1 hIw1 ih2
 obtain ⟨hk0, hk1, hall, hO⟩ := hIw1
 show Run _ _ _ _ [(8, _), (0, _), (1, _), (7, _)] _ _
 refine run_seq <| run_region <| rl_v rfl rfl rfl (ov_lss rfl rfl rfl) <| rl_nil <| run_seq ?_
 first | refine run_cond_dec rfl (fun h1 => ?_) (fun h1 => ?_) | refine run_cond rfl (fun h1 => ?_) (fun h1 => ?_)
 ·refine run_skip <| run_seq <| run_block <| run_seq <| run_region <| rl_v rfl rfl rfl (ov_move rfl rfl) <| rl_v rfl rfl rfl (ov_assign rfl rfl) <| rl_nil <| run_seq <| run_region <| rl_v rfl rfl rfl (ov_move rfl rfl) <| rl_v rfl rfl rfl (ov_move rfl rfl) <| rl_v rfl rfl rfl (ov_move rfl rfl) <| rl_v rfl rfl rfl (ov_index1 rfl Tryz.underlying30 (by kernel_rfl) rfl rfl ⟨by omega, by omega⟩ (by exact hga (by omega))) ?_
  refine rl_v rfl rfl rfl (ov_load rfl Tryz.underlying3 rfl rfl (by exact hrow _ hO.below _ (by omega) (by omega))) ?_
  refine rl_v rfl rfl rfl (ov_eql rfl rfl rfl) <| rl_nil ?_
  first | refine run_cond_dec rfl (fun h2 => ?_) (fun h2 => ?_) | refine run_cond rfl (fun h2 => ?_) (fun h2 => ?_)
  ·have hr : rk X n v = k := Classical.byContradiction fun e => rk_ne (n := n) hk0 (by omega) h2.symm
   refine run_seq <| run_region <| rl_v rfl rfl rfl (ov_move rfl rfl) <| rl_v rfl rfl rfl (ov_assign rfl rfl) <| rl_nil <| run_ret Tryz.func51 (res1 Tryz.results51 rfl) ?_
   exact ⟨by rw [hr, if_pos h1], hO.below⟩
  ·have hk' : k + 1 ≤ rk X n v := by
    have hr := rk_rng X v n
    have : rk X n v ≠ k := fun e => h2 (by have := rk_at (f := X) (n := n) (x := v) (by omega); rw [e] at this; exact this.symm)
    omega
   refine run_skip <| run_inBlock <| run_region <| rl_v rfl rfl rfl (ov_add rfl rfl rfl (by omega)) ?_
   refine rl_v rfl rfl rfl (ov_move rfl rfl) <| rl_nil ?_
   refine Run.use (ih2 _ _ ?_ ?_) (And.intro (by rfl) (And.intro rfl (And.intro rfl (And.intro rfl trivial))))
   ·first | omega | (dsimp only; omega)
   ·exact ⟨by omega, by omega, hk', hO⟩
 ·refine run_exit rfl <| run_seq <| run_region <| rl_v rfl rfl rfl (ov_assign rfl rfl) <| rl_nil <| run_ret Tryz.func51 (res1 Tryz.results51 rfl) ?_
  exact ⟨by rw [if_neg (by omega)], hO.below⟩
theorem contains5_any (ao : Option Addr) (n c : Nat) (X : Int → Int) (v : Int) (w : World) (hn : n ≤ 1000000) (h : IAt w.heap.size w ao n (fun i => iv (X i))) :
  Calls Tryz.prog 26 #[.slice ao n c, iv v] w fun e w' => e = .returned (.bool (decide (rk X n v < n))) ∧ Below w.heap.size w w' := by
 have hr := rk_rng X v n
 refine calls_of_run (F := [(0, _), (1, _)]) Tryz.func26 rfl Tryz.ntmps26 rfl rfl ?_
 have hO0 := Own.init w
 refine run_seq <| run_region <| rl_v rfl rfl rfl (ov_assign rfl rfl) <| rl_nil <| run_seq <| run_region <| rl_v rfl rfl rfl (ov_move rfl rfl) <| rl_v rfl rfl rfl (ov_move rfl rfl) ?_
 refine rl_call callable_51 rfl rfl rfl rfl rfl rfl (index5_any ao n c X v _ hn h) (fun e1 w2 hp3 => ?_)
 obtain ⟨rfl, hb⟩ := hp3
 refine ⟨_, rfl, ?_⟩
 have hO4 := hO0.past hb
 refine rl_v rfl rfl rfl (ov_geq rfl rfl rfl) <| rl_v rfl rfl rfl (ov_assign rfl rfl) <| rl_nil <| run_ret Tryz.func26 (res1 Tryz.results26 rfl) ?_
 exact ⟨congrArg (fun x => Ending.returned (.bool x)) (decide_eq_decide.2 (by split <;> omega)), hO4.below⟩
theorem clone5_any (ao : Option Addr) (n c : Nat) (G : Int → Int) (w : World) (hn : n ≤ 1000000) (h : IAt w.heap.size w ao n (fun i => iv (G i))) :
  Calls Tryz.prog 16 #[.slice ao n c] w fun e w' => ∃ v c', e = .returned v ∧ IRow v 3 n (fun i => iv (G i)) c' ∧ Own w.heap.size w w' [c'] := by
 obtain ⟨gb, go, hga, hrow⟩ := h.open
 refine calls_of_run (F := [(0, _)]) Tryz.func16 rfl Tryz.ntmps16 rfl rfl ?_
 have hO0 := Own.init w
 refine run_seq <| run_region <| rl_v rfl rfl rfl (ov_assign rfl rfl) <| rl_nil <| run_seq <| run_seq <| run_region <| rl_v rfl rfl rfl (ov_move rfl rfl) <| rl_v rfl rfl rfl (ov_isnil rfl Tryz.underlying30 rfl) <| rl_nil ?_
 first | refine run_cond_dec rfl (fun g1 => ?_) (fun g1n => ?_) | refine run_cond rfl (fun g1 => ?_) (fun g1n => ?_)
 ·have hm0 : n = 0 := by
   rcases Nat.eq_zero_or_pos n with h | h
   ·exact h
   ·rw [hga h] at g1
    exact absurd g1 Bool.noConfusion
  subst hm0
  refine run_seq <| run_region <| rl_v rfl rfl rfl (ov_assign rfl rfl) <| rl_nil <| run_ret Tryz.func16 (res1 Tryz.results16 rfl) ?_
  exact ⟨_, none, rfl, IRow.nil _ _, hO0.nil_cons⟩
 ·refine run_skip <| run_seq <| run_region <| rl_ow rfl (ow_empty rfl rfl rfl Tryz.underlying30 info_3 hO0) ?_
  rintro _ w1 ⟨v5, c5, rfl, hO2, hR5, hs3⟩
  have hr5 : IRow v5 3 0 (fun _ => .int .i64 0) c5 := hR5 _
  refine rl_v rfl rfl rfl (ov_move rfl rfl) <| rl_ow rfl (ow_appS rfl rfl rfl Tryz.underlying30 info_3 rfl hO2 0 hr5 rfl rfl rfl ((hO2.iatF h)) (fun _ => rfl) ⟨by omega, by omega⟩) ?_
  rintro _ w4 ⟨v7, c7, rfl, hO5, hr7, hs6⟩
  refine rl_v rfl rfl rfl (ov_assign rfl rfl) <| rl_nil <| run_ret Tryz.func16 (res1 Tryz.results16 rfl) ?_
  exact ⟨v7, c7, rfl, by rw [Nat.zero_add] at hr7; exact hr7.congr fun i h0 h1 => by unfold joinF; rw [if_neg (by omega)]; exact congrArg (fun j => iv (G j)) (by omega), hO5⟩
end Go.Proofs.YtbcjfjldmfljgaaGreat
