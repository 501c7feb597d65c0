import Derived.Test.YtbepolognfdkeaaGreatFcA
import Derived.Test.YtbepolognfdkeaaGreatHlE
set_option maxRecDepth 100000
namespace Go.Proofs.YtbepolognfdkeaaGreat
open Go.RowKit Go.Proofs Go.MapKept
theorem index5_any (ao : Option Addr) (n c : Nat) (X : Int → Int) (v : Int) (w : World) (hn : n ≤ 1000000) (h : IAt w.heap.size w ao n (fun i => iv (X i))) :
  Calls Tryz.prog 82 #[.slice ao n c, iv v] w fun e w' => e = .returned (iv (if rk X n v < n then rk X n v else -1)) ∧ Below w.heap.size w w' := by
 obtain ⟨gb, go, hga, hrow⟩ := h.open
 refine calls_of_run (F := [(0, _), (1, _)]) Tryz.func82 rfl Tryz.ntmps82 rfl rfl ?_
 have hO0 := Own.init w
 refine run_seq <| run_region <| rl_v rfl rfl rfl (ov_assign rfl rfl) <| rl_nil <| run_seq <| run_seq <| run_region <| rl_v rfl rfl rfl (ov_move rfl rfl) <| rl_v rfl rfl rfl (ov_len rfl Tryz.underlying36 rfl) <| rl_v rfl rfl rfl (ov_move rfl rfl) <| rl_nil <| run_block <| Run.keep [0, 1, 7, 8] (F' := [(0, _), (1, _), (7, _), (8, _)]) rfl <| run_loop1 (fun (k : Int) => [(8, .int .i64 k)]) [0, 1, 7] (fun (k : Int) (w1 : World) => 0 ≤ k ∧ k ≤ n ∧ k ≤ rk X n v ∧ Own w.heap.size w w1 []) (fun (k : Int) => ((n : Int) - k).toNat) (0) ?_ (And.intro (by exact slot_int rfl (by first | omega)) (And.intro rfl (And.intro rfl (And.intro rfl trivial)))) ?_
 ·exact ⟨by omega, by omega, (rk_rng X v n).1, hO0⟩
 intro k w1 hIw1 ih2
 obtain ⟨hk0, hk1, hall, hO⟩ := hIw1
 show Run _ _ _ _ [(8, _), (0, _), (1, _), (7, _)] _ _
 refine run_seq <| run_region <| rl_v rfl rfl rfl (ov_lss rfl rfl rfl) <| rl_nil <| run_seq ?_
 first | refine run_cond_dec rfl (fun h1 => ?_) (fun h1 => ?_) | refine run_cond rfl (fun h1 => ?_) (fun h1 => ?_)
 ·refine run_skip <| run_seq <| run_block <| run_seq <| run_region <| rl_v rfl rfl rfl (ov_move rfl rfl) <| rl_v rfl rfl rfl (ov_assign rfl rfl) <| rl_nil <| run_seq <| run_region <| rl_v rfl rfl rfl (ov_move rfl rfl) <| rl_v rfl rfl rfl (ov_move rfl rfl) <| rl_v rfl rfl rfl (ov_move rfl rfl) <| rl_v rfl rfl rfl (ov_index1 rfl Tryz.underlying36 (by kernel_rfl) rfl rfl ⟨by omega, by omega⟩ (by exact hga (by omega))) ?_
  refine rl_v rfl rfl rfl (ov_load rfl Tryz.underlying3 rfl rfl (by exact hrow _ hO.below _ (by omega) (by omega))) ?_
  refine rl_v rfl rfl rfl (ov_eql rfl rfl rfl) <| rl_nil ?_
  first | refine run_cond_dec rfl (fun h2 => ?_) (fun h2 => ?_) | refine run_cond rfl (fun h2 => ?_) (fun h2 => ?_)
  ·have hr : rk X n v = k := Classical.byContradiction fun e => rk_ne (n := n) hk0 (by omega) h2.symm
   refine run_seq <| run_region <| rl_v rfl rfl rfl (ov_move rfl rfl) <| rl_v rfl rfl rfl (ov_assign rfl rfl) <| rl_nil <| run_ret Tryz.func82 (res1 Tryz.results82 rfl) ?_
   exact ⟨by rw [hr, if_pos h1], hO.below⟩
  ·have hk' : k + 1 ≤ rk X n v := by
    have hr := rk_rng X v n
    have : rk X n v ≠ k := fun e => h2 (by have := rk_at (f := X) (n := n) (x := v) (by omega); rw [e] at this; exact this.symm)
    omega
   refine run_skip <| run_inBlock <| run_region <| rl_v rfl rfl rfl (ov_add rfl rfl rfl (by omega)) ?_
   refine rl_v rfl rfl rfl (ov_move rfl rfl) <| rl_nil ?_
   refine Run.use (ih2 _ _ ?_ ?_) (And.intro (by rfl) (And.intro rfl (And.intro rfl (And.intro rfl trivial))))
   ·first | omega | (dsimp only; omega)
   ·exact ⟨by omega, by omega, hk', hO⟩
 ·refine run_exit rfl <| run_seq <| run_region <| rl_v rfl rfl rfl (ov_assign rfl rfl) <| rl_nil <| run_ret Tryz.func82 (res1 Tryz.results82 rfl) ?_
  exact ⟨by rw [if_neg (by omega)], hO.below⟩
theorem contains5_any (ao : Option Addr) (n c : Nat) (X : Int → Int) (v : Int) (w : World) (hn : n ≤ 1000000) (h : IAt w.heap.size w ao n (fun i => iv (X i))) :
  Calls Tryz.prog 52 #[.slice ao n c, iv v] w fun e w' => e = .returned (.bool (decide (rk X n v < n))) ∧ Below w.heap.size w w' := by
 have hr := rk_rng X v n
 refine calls_of_run (F := [(0, _), (1, _)]) Tryz.func52 rfl Tryz.ntmps52 rfl rfl ?_
 have hO0 := Own.init w
 refine run_seq <| run_region <| rl_v rfl rfl rfl (ov_assign rfl rfl) <| rl_nil <| run_seq <| run_region <| rl_v rfl rfl rfl (ov_move rfl rfl) <| rl_v rfl rfl rfl (ov_move rfl rfl) ?_
 refine rl_call callable_82 rfl rfl rfl rfl rfl rfl (index5_any ao n c X v _ hn h) (fun e1 w2 hp3 => ?_)
 obtain ⟨rfl, hb⟩ := hp3
 refine ⟨_, rfl, ?_⟩
 have hO4 := hO0.past hb
 refine rl_v rfl rfl rfl (ov_geq rfl rfl rfl) <| rl_v rfl rfl rfl (ov_assign rfl rfl) <| rl_nil <| run_ret Tryz.func52 (res1 Tryz.results52 rfl) ?_
 exact ⟨congrArg (fun x => Ending.returned (.bool x)) (decide_eq_decide.2 (by split <;> omega)), hO4.below⟩
theorem clone5_any (ao : Option Addr) (n c : Nat) (G : Int → Int) (w : World) (hn : n ≤ 1000000) (h : IAt w.heap.size w ao n (fun i => iv (G i))) :
  Calls Tryz.prog 53 #[.slice ao n c] w fun e w' => ∃ v c', e = .returned v ∧ IRow v 3 n (fun i => iv (G i)) c' ∧ Own w.heap.size w w' [c'] := by
 obtain ⟨gb, go, hga, hrow⟩ := h.open
 refine calls_of_run (F := [(0, _)]) Tryz.func53 rfl Tryz.ntmps53 rfl rfl ?_
 have hO0 := Own.init w
 refine run_seq <| run_region <| rl_v rfl rfl rfl (ov_assign rfl rfl) <| rl_nil <| run_seq <| run_seq <| run_region <| rl_v rfl rfl rfl (ov_move rfl rfl) <| rl_v rfl rfl rfl (ov_isnil rfl Tryz.underlying36 rfl) <| rl_nil ?_
 first | refine run_cond_dec rfl (fun g1 => ?_) (fun g1n => ?_) | refine run_cond rfl (fun g1 => ?_) (fun g1n => ?_)
 ·have hm0 : n = 0 := by
   rcases Nat.eq_zero_or_pos n with h | h
   ·exact h
   ·rw [hga h] at g1
    exact absurd g1 Bool.noConfusion
  subst hm0
  refine run_seq <| run_region <| rl_v rfl rfl rfl (ov_assign rfl rfl) <| rl_nil <| run_ret Tryz.func53 (res1 Tryz.results53 rfl) ?_
  exact ⟨_, none, rfl, IRow.nil _ _, hO0.nil_cons⟩
 ·refine run_skip <| run_seq <| run_region <| rl_ow rfl (ow_empty rfl rfl rfl Tryz.underlying36 info_3 hO0) ?_
  rintro _ w1 ⟨v5, c5, rfl, hO2, hR5, hs3⟩
  have hr5 : IRow v5 3 0 (fun _ => .int .i64 0) c5 := hR5 _
  refine rl_v rfl rfl rfl (ov_move rfl rfl) <| rl_ow rfl (ow_appS rfl rfl rfl Tryz.underlying36 info_3 rfl hO2 0 hr5 rfl rfl rfl ((hO2.iatF h)) (fun _ => rfl) ⟨by omega, by omega⟩) ?_
  rintro _ w4 ⟨v7, c7, rfl, hO5, hr7, hs6⟩
  refine rl_v rfl rfl rfl (ov_assign rfl rfl) <| rl_nil <| run_ret Tryz.func53 (res1 Tryz.results53 rfl) ?_
  exact ⟨v7, c7, rfl, by rw [Nat.zero_add] at hr7; exact hr7.congr fun i h0 h1 => by unfold joinF; rw [if_neg (by omega)]; exact congrArg (fun j => iv (G j)) (by omega), hO5⟩
theorem min5_any (ao : Option Addr) (n c : Nat) (X : Int → Int) (w : World) (hn1 : 1 ≤ n) (hn : n ≤ 1000000) (h : IAt w.heap.size w ao n (fun i => iv (X i))) :
  Calls Tryz.prog 123 #[.slice ao n c] w fun e w' => (∃ m : Int, e = .returned (iv m) ∧ (∃ i : Int, 0 ≤ i ∧ i < n ∧ X i = m) ∧ ∀ i : Int, 0 ≤ i → i < n → m ≤ X i) ∧ Below w.heap.size w w' := by
 obtain ⟨gb, go, hga, hrow⟩ := h.open
 refine calls_of_run (F := [(0, _)]) Tryz.func123 rfl Tryz.ntmps123 rfl rfl ?_
 have hO0 := Own.init w
 refine run_seq <| run_region <| rl_v rfl rfl rfl (ov_assign rfl rfl) <| rl_nil <| run_seq <| run_seq <| run_region <| rl_v rfl rfl rfl (ov_move rfl rfl) <| rl_v rfl rfl rfl (ov_len rfl Tryz.underlying36 rfl) <| rl_v rfl rfl rfl (ov_lss rfl rfl rfl) <| rl_nil ?_
 first | refine run_cond_dec rfl (fun h1 => ?_) (fun h1 => ?_) | refine run_cond rfl (fun h1 => ?_) (fun h1 => ?_)
 ·exfalso; omega
 ·refine run_skip <| run_seq <| run_region <| rl_v rfl rfl rfl (ov_move rfl rfl) <| rl_v rfl rfl rfl (ov_index1 rfl Tryz.underlying36 (by kernel_rfl) rfl rfl ⟨by omega, by omega⟩ (by exact hga (by omega))) ?_
  refine rl_v rfl rfl rfl (ov_load rfl Tryz.underlying3 rfl rfl (by exact hrow _ hO0.below _ (by omega) (by omega))) ?_
  refine rl_v rfl rfl rfl (ov_assign rfl rfl) <| rl_nil <| run_seq <| run_seq <| run_region <| rl_v rfl rfl rfl (ov_assign rfl rfl) <| rl_nil <| run_block <| Run.keep [0, 3, 4] (F' := [(0, _), (3, _), (4, _)]) rfl <| run_loop2 (fun (k : Int) (m : Int) => [(4, .int .i64 k), (3, .int .i64 m)]) [0] (fun (k : Int) (m : Int) (w1 : World) => 1 ≤ k ∧ k ≤ n ∧ (∃ i : Int, 0 ≤ i ∧ i < n ∧ X i = m) ∧ (∀ i : Int, 0 ≤ i → i < k → m ≤ X i) ∧ Own w.heap.size w w1 []) (fun (k : Int) (m : Int) => ((n : Int) - k).toNat) (1) (X 0) ?_ (And.intro (by exact slot_int rfl (by first | omega)) (And.intro (by exact slot_int rfl (by first | omega)) (And.intro rfl trivial))) ?_
  ·exact ⟨by omega, by omega, ⟨0, by omega, by omega, rfl⟩, fun i i0 i1 => by rw [show i = 0 by omega]; exact Int.le_refl _, hO0⟩
  intro k m w1 hIw1 ih2
  obtain ⟨hk0, hk1, hex, hall, hO⟩ := hIw1
  show Run _ _ _ _ [(4, _), (3, _), (0, _)] _ _
  refine run_seq <| run_seq <| run_region <| rl_v rfl rfl rfl (ov_move rfl rfl) <| rl_v rfl rfl rfl (ov_move rfl rfl) <| rl_v rfl rfl rfl (ov_len rfl Tryz.underlying36 rfl) <| rl_v rfl rfl rfl (ov_lss rfl rfl rfl) <| rl_nil ?_
  first | refine run_cond_dec rfl (fun h2 => ?_) (fun h2 => ?_) | refine run_cond rfl (fun h2 => ?_) (fun h2 => ?_)
  ·refine run_skip <| run_seq <| run_block <| run_region <| rl_v rfl rfl rfl (ov_move rfl rfl) <| rl_v rfl rfl rfl (ov_move rfl rfl) <| rl_v rfl rfl rfl (ov_move rfl rfl) <| rl_v rfl rfl rfl (ov_index1 rfl Tryz.underlying36 (by kernel_rfl) rfl rfl ⟨by omega, by omega⟩ (by exact hga (by omega))) ?_
   refine rl_v rfl rfl rfl (ov_load rfl Tryz.underlying3 rfl rfl (by exact hrow _ hO.below _ (by omega) (by omega))) ?_
   refine rl_v rfl rfl rfl (ov_min rfl rfl rfl) <| rl_v rfl rfl rfl (ov_assign rfl rfl) <| rl_nil <| run_inBlock <| run_region <| rl_v rfl rfl rfl (ov_move rfl rfl) <| rl_v rfl rfl rfl (ov_add rfl rfl rfl (by omega)) ?_
   refine rl_v rfl rfl rfl (ov_assign rfl rfl) <| rl_nil ?_
   refine Run.use (ih2 (k + 1) (min m (X k)) _ ?_ ?_) (And.intro (by exact slot_int rfl (by first | omega)) (And.intro (by exact slot_int rfl (by first | omega)) (And.intro rfl trivial)))
   ·first | omega | (dsimp only; omega)
   ·exact ⟨by omega, by omega, by rcases Int.le_total m (X k) with h | h; (rw [Int.min_eq_left h]; exact hex); (rw [Int.min_eq_right h]; exact ⟨k, by omega, h2, rfl⟩), fun i i0 i1 => by by_cases e : i = k; (rw [e]; omega); (have := hall i i0 (by omega); omega), hO⟩
  ·refine run_exit rfl <| run_seq <| run_region <| rl_v rfl rfl rfl (ov_move rfl rfl) <| rl_v rfl rfl rfl (ov_assign rfl rfl) <| rl_nil <| run_ret Tryz.func123 (res1 Tryz.results123 rfl) ?_
   exact ⟨⟨m, rfl, hex, fun i i0 i1 => hall i i0 (by omega)⟩, hO.below⟩
def RTab (B : Nat) (w : World) (ao : Option Addr) (n : Nat) (L : Int → Nat) (F : Int → Int → Int) : Prop :=
 ∃ (A : Int → Option Addr) (C : Int → Nat), IAt B w ao n (fun r => .slice (A r) (L r) (C r)) ∧ (∀ r : Int, 0 ≤ r → r < n → L r ≤ C r) ∧ ∀ r : Int, 0 ≤ r → r < n → IAt B w (A r) (L r) (fun c => iv (F r c))
theorem RTab.below {B : Nat} {w w' : World} {ao : Option Addr} {n : Nat} {L : Int → Nat} {F : Int → Int → Int} (h : RTab B w ao n L F) (hb : Below B w w') : RTab B w' ao n L F := by
 obtain ⟨A, C, h1, h2, h3⟩ := h
 exact ⟨A, C, h1.below hb, h2, fun r r0 r1 => (h3 r r0 r1).below hb⟩
theorem RTab.mono {B B' : Nat} {w : World} {ao : Option Addr} {n : Nat} {L : Int → Nat} {F : Int → Int → Int} (h : RTab B w ao n L F) (hB : B ≤ B') : RTab B' w ao n L F := by
 obtain ⟨A, C, h1, h2, h3⟩ := h
 exact ⟨A, C, h1.mono hB, h2, fun r r0 r1 => (h3 r r0 r1).mono hB⟩
theorem RTab.tab {B : Nat} {w : World} {ao : Option Addr} {n : Nat} {L : Int → Nat} {F : Int → Int → Int} (h : RTab B w ao n L F) : ITab B w ao n L (fun r c => iv (F r c)) := by
 obtain ⟨A, C, h1, _, h3⟩ := h
 exact ⟨A, C, h1, h3⟩
theorem Own.rtab {B : Nat} {w0 w : World} {H : List (Option Blk)} (hO : Own B w0 w H) {ao : Option Addr} {n : Nat} {L : Int → Nat} {F : Int → Int → Int} (h : RTab B w0 ao n L F) : RTab w.heap.size w ao n L F := (h.below hO.below).mono hO.size
def wishOf (n : Nat) (L : Int → Nat) (E : Int → Int → Int) : Wish :=
 ⟨n, fun i => (rk (E i) (L i) i).toNat + 1, fun i k => if k < rk (E i) (L i) i then E i k else i⟩
theorem wishes_any (ga : Option Addr) (n gc : Nat) (L : Int → Nat) (E : Int → Int → Int) (i : Int) (w : World) (i0 : 0 ≤ i) (i1 : i < n) (hn : n ≤ 1000000) (hl : L i ≤ 1000000) (h : RTab w.heap.size w ga n L E) :
  Calls Tryz.prog 121 #[.agg #[.slice ga n gc], iv i] w fun e w' => ∃ v c, e = .returned v ∧ IRow v 3 ((wishOf n L E).l i) (fun k => iv ((wishOf n L E).e i k)) c ∧ Own w.heap.size w w' [c] := by
 obtain ⟨A, C, h1, hroom, hcan⟩ := h
 obtain ⟨gb, go, hga, hrow⟩ := h1.open
 have hr := rk_rng (E i) i (L i)
 refine calls_of_run (F := [(0, _), (1, _)]) Tryz.func121 rfl Tryz.ntmps121 rfl rfl ?_
 have hO0 := Own.init w
 refine run_seq <| run_region <| rl_ow rfl (ow_box _ rfl rfl rfl rfl rfl hO0) ?_
 rintro _ w1 ⟨b2, rfl, hO2, hs3⟩
 refine rl_v rfl rfl rfl (ov_assign rfl rfl) <| rl_nil <| run_seq <| run_region <| rl_v rfl rfl rfl (ov_fieldS rfl Tryz.underlying98 rfl (fo := 0) rfl (by kernel_rfl) rfl) ?_
 refine rl_v rfl rfl rfl (ov_load rfl Tryz.underlying69 rfl rfl (by exact hO2.cellL 0 rfl (off := 0) rfl)) ?_
 refine rl_v rfl rfl rfl (ov_move rfl rfl) <| rl_v rfl rfl rfl (ov_index1 rfl Tryz.underlying69 (by kernel_rfl) rfl rfl ⟨by omega, by omega⟩ (by exact hga (by omega))) ?_
 refine rl_v rfl rfl rfl (ov_load rfl Tryz.underlying36 rfl rfl (by exact hrow _ hO2.below _ (by omega) (by omega))) ?_
 refine rl_v rfl rfl rfl (ov_assign rfl rfl) <| rl_nil <| run_seq <| run_seq <| run_region <| rl_v rfl rfl rfl (ov_move rfl rfl) <| rl_v rfl rfl rfl (ov_move rfl rfl) ?_
 refine rl_call callable_82 rfl rfl rfl rfl rfl rfl (index5_any (A i) (L i) (C i) (E i) i _ hl (hO2.iatF (hcan i i0 i1))) (fun e4 w5 hp6 => ?_)
 obtain ⟨rfl, hb⟩ := hp6
 refine ⟨_, rfl, ?_⟩
 have hO7 := hO2.past hb
 obtain ⟨a, ha⟩ : ∃ a : Nat, (a : Int) = rk (E i) (L i) i := ⟨_, Int.toNat_of_nonneg hr.1⟩
 have hfin : ∀ {v : Value} {c : Option Blk}, IRow v 3 (a + 1) (upd (fun k => iv (E i k)) a (iv i)) c → IRow v 3 ((wishOf n L E).l i) (fun k => iv ((wishOf n L E).e i k)) c := fun {v c} h => by
  have e : (wishOf n L E).l i = a + 1 := by show (rk (E i) (L i) i).toNat + 1 = a + 1; omega
  rw [e]
  refine h.congr fun k k0 k1 => ?_
  show upd (fun k => iv (E i k)) a (iv i) k = iv (if k < rk (E i) (L i) i then E i k else i)
  unfold upd
  by_cases e : k = a
  ·rw [if_pos e, if_neg (by omega)]
  ·rw [if_neg e, if_pos (by omega)]
 refine rl_v rfl rfl rfl (ov_assign rfl rfl) <| rl_nil <| run_seq <| run_region <| rl_v rfl rfl rfl (ov_move rfl rfl) <| rl_v rfl rfl rfl (ov_geq rfl rfl rfl) <| rl_nil ?_
 first | refine run_cond_dec rfl (fun h2 => ?_) (fun h2 => ?_) | refine run_cond rfl (fun h2 => ?_) (fun h2 => ?_)
 ·have hc : rk (E i) (L i) i < L i := Classical.byContradiction fun hn => by rw [if_neg hn] at h2; omega
  have hv : (if rk (E i) (L i) i < (L i : Int) then rk (E i) (L i) i else -1) = a := by rw [if_pos hc, ha]
  have hcap := hroom i i0 i1
  refine run_region <| rl_v rfl rfl rfl (ov_move rfl rfl) <| rl_v rfl rfl rfl (ov_move rfl rfl) <| rl_v rfl rfl rfl (ov_sliceH (a) (s := 1) rfl Tryz.underlying36 (by kernel_rfl) rfl rfl (by omega) (by omega)) ?_
  refine rl_v rfl rfl rfl (ov_assign rfl rfl) <| rl_nil <| run_seq <| run_region <| rl_v rfl rfl rfl (ov_move rfl rfl) ?_
  refine rl_call callable_53 rfl rfl rfl rfl rfl rfl (clone5_any (A i) a (C i) (E i) _ (by omega) (hO7.iatF ((hcan i i0 i1).take (by omega)))) (fun e8 w9 hp10 => ?_)
  obtain ⟨v, c', rfl, hrv, hOc⟩ := hp10
  refine ⟨_, rfl, ?_⟩
  have hO11 := hO7.join hOc
  refine rl_v rfl rfl rfl (ov_move rfl rfl) <| rl_ow rfl (ow_one rfl rfl rfl Tryz.underlying36 info_3 rfl hO11 rfl rfl) ?_
  rintro _ w12 ⟨b9, rfl, hO13, hs14⟩
  refine rl_ow rfl (ow_app1 rfl rfl rfl Tryz.underlying36 info_3 rfl hO13 0 hrv rfl rfl rfl rfl ⟨by omega, by omega⟩) ?_
  rintro _ w15 ⟨v2, c2, rfl, hO16, hr2, hs17⟩
  refine rl_v rfl rfl rfl (ov_assign rfl rfl) <| rl_nil <| run_ret Tryz.func121 (res1 Tryz.results121 rfl) ?_
  exact ⟨v2, c2, rfl, hfin hr2, hO16.sub (.cons_cons _ (List.nil_sublist _))⟩
 ·have hc : ¬ rk (E i) (L i) i < L i := fun hn => by rw [if_pos hn] at h2; omega
  have hLa : L i = a := by omega
  refine run_skip <| run_seq <| run_region <| rl_v rfl rfl rfl (ov_move rfl rfl) ?_
  refine rl_call callable_53 rfl rfl rfl rfl rfl rfl (clone5_any (A i) (L i) (C i) (E i) _ hl (hO7.iatF (hcan i i0 i1))) (fun e18 w19 hp20 => ?_)
  obtain ⟨v, c', rfl, hrv, hOc⟩ := hp20
  refine ⟨_, rfl, ?_⟩
  have hO21 := hO7.join hOc
  refine rl_v rfl rfl rfl (ov_move rfl rfl) <| rl_ow rfl (ow_one rfl rfl rfl Tryz.underlying36 info_3 rfl hO21 rfl rfl) ?_
  rintro _ w22 ⟨b9, rfl, hO23, hs24⟩
  refine rl_ow rfl (ow_app1 rfl rfl rfl Tryz.underlying36 info_3 rfl hO23 0 hrv rfl rfl rfl rfl ⟨by omega, by omega⟩) ?_
  rintro _ w25 ⟨v2, c2, rfl, hO26, hr2, hs27⟩
  refine rl_v rfl rfl rfl (ov_assign rfl rfl) <| rl_nil <| run_ret Tryz.func121 (res1 Tryz.results121 rfl) ?_
  exact ⟨v2, c2, rfl, hfin (by rw [← hLa]; exact hr2), hO26.sub (.cons_cons _ (List.nil_sublist _))⟩
end Go.Proofs.YtbepolognfdkeaaGreat
set_option maxRecDepth 100000
namespace Go.Proofs.YtbepolognfdkeaaGreat
open Go.RowKit Go.Proofs Go.MapKept Hal
theorem ov_nonil {P : Program} {N : Nat} {o : Oper} {F : Fr} {w : World} {T U E : TypeId} {x : Operand} {ao : Option Addr} {n c : Nat} (ho : o.op = .binOp .neq T x (.const (.slice none 0 0)) U) (hT : P.underlying T = some (.slice E)) (hx : Fr.ev F x = some (.slice ao n c)) : OpV P N o F w (.bool (!ao.isNone)) := by
 intro a ha
 unfold execOp
 have h1 := run_equal_slice_nil (P := P) (w := w) T E ao n c hT
 have hn : a.eval (.const (.slice none 0 0)) = .slice none 0 0 := rfl
 simp only [ho, ha.ev hx, hn, Sem.run_bind, eqGuard]
 simp [binOp, h1, Result.andThen]
noncomputable def prt (h : Hal) (S : Int → Prop) : Hal := ⟨h.nb, h.nl, fun i j => @ite _ (S i) (Classical.propDecidable _) (h.V i j) 0⟩
theorem prt_in {h : Hal} {S : Int → Prop} {i : Int} (hi : S i) (j : Int) : (prt h S).V i j = h.V i j := if_pos hi
theorem prt_out {h : Hal} {S : Int → Prop} {i : Int} (hi : ¬ S i) (j : Int) : (prt h S).V i j = 0 := if_neg hi
theorem prt_gn {h : Hal} {S : Int → Prop} {p : Int → Int} {i : Int} (hi : S i) : (prt h S).gn p i = h.gn p i := by
 unfold Hal.gn
 have e : (prt h S).V i = h.V i := funext fun j => prt_in hi j
 rw [e]; rfl
theorem prt_wn {h : Hal} {S : Int → Prop} {p : Int → Int} {i j : Int} (hi : S i) : (prt h S).wn p i j ↔ h.wn p i j := by
 unfold Hal.wn
 rw [prt_gn hi, prt_in hi]
theorem prt_no {h : Hal} {S : Int → Prop} {p : Int → Int} (hp : ∀ j : Int, 0 ≤ j → j < h.nl → 0 ≤ p j) {i : Int} (hg : 0 < (prt h S).gn p i) : S i := Classical.byContradiction fun hn => by
 have : (prt h S).gn p i = 0 := gnN_uniq (Int.le_refl _) (fun j j0 j1 => by
  have := hp j j0 j1
  rw [prt_out hn]; omega) (.inl rfl)
 omega
structure Gvn (h : Hal) (p : Int → Int) (B L : Int → Prop) (m : Int → Int) : Prop where
 w : ∀ j : Int, L j → B (m j) ∧ h.wn p (m j) j
 i : ∀ j k : Int, L j → L k → m j = m k → j = k
theorem rise_inj {n : Nat} {X : Int → Int} (hX : Rise n X) {a b : Int} (a0 : 0 ≤ a) (a1 : a < n) (b0 : 0 ≤ b) (b1 : b < n) (e : X a = X b) : a = b := by
 rcases Int.lt_trichotomy a b with d | d | d
 ·have := hX.inc a b a0 d b1; omega
 ·exact d
 ·have := hX.inc b a b0 d a1; omega
theorem gvn_of {h : Hal} {p : Int → Int} {bn ln : Nat} {Bs Ls : Int → Int} (hC : CrF h p bn Bs ln Ls) (hN : NoC (prt h fun i => InR Bs bn i ∧ i ≠ Bs 0) p) : ∃ m, Gvn h p (InR Bs bn) (InR Ls ln) m := by
 obtain ⟨of1, hm⟩ := hN
 have hn := hC.n
 have hS : ∀ q : Int, 0 ≤ q → q < bn → q ≠ 0 → InR Bs bn (Bs q) ∧ Bs q ≠ Bs 0 := fun q q0 q1 hq => ⟨⟨q, ⟨q0, q1⟩, rfl⟩, fun e => hq (rise_inj hC.b q0 q1 (Int.le_refl _) (by omega) e)⟩
 have hex : ∀ x : Int, ∃ b : Int, (InR Bs bn x ∧ x ≠ Bs 0) → (0 ≤ b ∧ b < h.nl) ∧ of1 b = x := fun x => by
  by_cases c : InR Bs bn x ∧ x ≠ Bs 0
  ·have hb := hC.c.br x c.1
   obtain ⟨b, hb2, e⟩ := hm.cov x hb.1.1 ⟨hb.1, by rw [prt_gn c]; exact hb.2⟩
   exact ⟨b, fun _ => ⟨hb2, e⟩⟩
  ·exact ⟨0, fun q => absurd q c⟩
 have hw : ∀ x b : Int, (InR Bs bn x ∧ x ≠ Bs 0) → 0 ≤ b → b < h.nl → of1 b = x → h.wn p x b := fun x b c b0 b1 e => by
  have hb := hC.c.br x c.1
  have q := (hm.ok b b0 b1 (by omega)).2
  rw [e] at q
  exact (prt_wn c).1 q
 have hall := crowd_all (σ := fun x => Classical.choose (hex x)) hC.b hC.l hn (x := 0) (Int.le_refl _) (by omega) (fun q q0 q1 hq => by
  have c := hS q q0 q1 hq
  obtain ⟨r1, r2⟩ := Classical.choose_spec (hex (Bs q)) c
  exact hC.c.wl (Bs q) _ c.1 r1.1 r1.2 (hw _ _ c r1.1 r1.2 r2)) (fun q r q0 q1 r0 r1 hq hr e => by
  have c := (Classical.choose_spec (hex (Bs q)) (hS q q0 q1 hq)).2
  have d := (Classical.choose_spec (hex (Bs r)) (hS r r0 r1 hr)).2
  have e' : Classical.choose (hex (Bs q)) = Classical.choose (hex (Bs r)) := e
  rw [e'] at c
  exact rise_inj hC.b q0 q1 r0 r1 (c.symm.trans d))
 have hl : ∀ j : Int, InR Ls ln j → (InR Bs bn (of1 j) ∧ of1 j ≠ Bs 0) ∧ 0 ≤ of1 j := fun j ⟨k, hk, e⟩ => by
  obtain ⟨q, hq, hne, eq⟩ := hall k hk.1 hk.2
  have c := hS q hq.1 hq.2 hne
  have d := (Classical.choose_spec (hex (Bs q)) c).2
  have e' : Classical.choose (hex (Bs q)) = Ls k := eq
  rw [e', e] at d
  rw [d]
  exact ⟨c, (hC.c.br _ c.1).1.1⟩
 refine ⟨of1, ⟨fun j hj => ?_, fun j k hj hk e => ?_⟩⟩
 ·have r := hC.c.lr j hj
  have q := hl j hj
  exact ⟨q.1.1, hw _ j q.1 r.1 r.2 rfl⟩
 ·have rj := hC.c.lr j hj
  have rk := hC.c.lr k hk
  exact hm.inj j k rj.1 rj.2 rk.1 rk.2 (hl j hj).2 e
theorem crf_prt {h : Hal} {p : Int → Int} (hp : ∀ j : Int, 0 ≤ j → j < h.nl → 0 ≤ p j) {bn : Nat} {Bs : Int → Int} {x : Int} (x0 : 0 ≤ x) (x1 : x < bn) {bn' ln' : Nat} {Bs' Ls' : Int → Int} (hC : CrF (prt h fun i => InR Bs bn i ∧ i ≠ Bs x) p bn' Bs' ln' Ls') : CrF h p bn' Bs' ln' Ls' ∧ bn' < bn := by
 have hin : ∀ i : Int, InR Bs' bn' i → InR Bs bn i ∧ i ≠ Bs x := fun i hi => prt_no (h := h) hp (hC.c.br i hi).2
 refine ⟨⟨hC.b, hC.l, hC.n, ⟨fun i hi => ⟨(hC.c.br i hi).1, by have := (hC.c.br i hi).2; rw [prt_gn (hin i hi)] at this; exact this⟩, hC.c.lr, fun i j hi j0 j1 hw => hC.c.wl i j hi j0 j1 ((prt_wn (hin i hi)).2 hw)⟩⟩, ?_⟩
 have hex : ∀ q : Int, ∃ r : Int, 0 ≤ q → q < ((bn' + 1 : Nat) : Int) → (0 ≤ r ∧ r < bn) ∧ (q < bn' → Bs r = Bs' q) ∧ (q = bn' → r = x) := fun q => by
  by_cases c : 0 ≤ q ∧ q < bn'
  ·obtain ⟨r, hr, e⟩ := (hin (Bs' q) ⟨q, c, rfl⟩).1
   exact ⟨r, fun _ _ => ⟨hr, fun _ => e, fun h => by omega⟩⟩
  ·exact ⟨x, fun _ _ => ⟨⟨x0, x1⟩, fun h => by omega, fun _ => rfl⟩⟩
 have := pigeonG (n := bn' + 1) (m := bn) (e := fun q => Classical.choose (hex q)) (fun q q0 q1 => (Classical.choose_spec (hex q) q0 q1).1) (fun a b a0 a1 b0 b1 e => by
  obtain ⟨_, ha2, ha3⟩ := Classical.choose_spec (hex a) a0 a1
  obtain ⟨_, hb2, hb3⟩ := Classical.choose_spec (hex b) b0 b1
  have e' : Classical.choose (hex a) = Classical.choose (hex b) := e
  by_cases ca : a < bn' <;> by_cases cb : b < bn'
  ·have q1 := ha2 ca
   have q2 := hb2 cb
   rw [e'] at q1
   exact rise_inj hC.b a0 ca b0 cb (q1.symm.trans q2)
  ·have q1 := ha2 ca
   rw [e', hb3 (by omega)] at q1
   exact absurd q1.symm (hin (Bs' a) ⟨a, ⟨a0, ca⟩, rfl⟩).2
  ·have q1 := hb2 cb
   rw [← e', ha3 (by omega)] at q1
   exact absurd q1.symm (hin (Bs' b) ⟨b, ⟨b0, cb⟩, rfl⟩).2
  ·omega)
 omega
theorem inR_rk {X : Int → Int} {n : Nat} {x : Int} : rk X n x < n ↔ InR X n x := by
 constructor
 ·intro h; exact ⟨rk X n x, ⟨(rk_rng X x n).1, h⟩, rk_at h⟩
 ·rintro ⟨q, hq, e⟩
  exact Classical.byContradiction fun hn => rk_ne (n := n) hq.1 (by have := (rk_rng X x n).2; omega) e
end Go.Proofs.YtbepolognfdkeaaGreat
