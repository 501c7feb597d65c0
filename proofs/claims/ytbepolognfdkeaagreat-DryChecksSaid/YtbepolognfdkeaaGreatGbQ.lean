import Derived.Test.YtbepolognfdkeaaGreatGaO
set_option maxRecDepth 100000
namespace Go.Proofs.YtbepolognfdkeaaGreat
open Go.RowKit Go.Proofs Go.MapKept
theorem cloneLd_any (ao : Option Addr) (n c : Nat) (l : Lds) (w : World) (hn : n ≤ 100000) (h : SAt w.heap.size w ao 4 n (ldF l)) :
  Calls Tryz.prog 33 #[.slice ao n c] w fun e w' => ∃ v c', e = .returned v ∧ SRow v 58 4 n (ldF l) c' ∧ Own w.heap.size w w' [c'] := by
 obtain ⟨gb, go, hga, hrow⟩ := h.open (by decide)
 refine calls_of_run (F := [(0, _)]) Tryz.func33 rfl Tryz.ntmps33 rfl rfl ?_
 have hO0 := Own.init w
 refine run_seq <| run_region <| rl_v rfl rfl rfl (ov_assign rfl rfl) <| rl_nil <| run_seq <| run_seq <| run_region <| rl_v rfl rfl rfl (ov_move rfl rfl) <| rl_v rfl rfl rfl (ov_isnil rfl Tryz.underlying24 rfl) <| rl_nil ?_
 first | refine run_cond_dec rfl (fun g1 => ?_) (fun g1n => ?_) | refine run_cond rfl (fun g1 => ?_) (fun g1n => ?_)
 ·have hm0 : n = 0 := by
   rcases Nat.eq_zero_or_pos n with h | h
   ·exact h
   ·rw [hga h] at g1
    exact absurd g1 Bool.noConfusion
  subst hm0
  refine run_seq <| run_region <| rl_v rfl rfl rfl (ov_assign rfl rfl) <| rl_nil <| run_ret Tryz.func33 (res1 Tryz.results33 rfl) ?_
  exact ⟨_, none, rfl, SRow.nil _ _ _, hO0.nil_cons⟩
 ·refine run_skip <| run_seq <| run_region <| rl_ow rfl (ow_empty rfl rfl rfl Tryz.underlying24 info_58 hO0) ?_
  rintro _ w1 ⟨v5, c5, rfl, hO2, hR5, hs3⟩
  refine rl_v rfl rfl rfl (ov_move rfl rfl) <| rl_ow rfl (ow_appSR (G := fun _ => []) rfl rfl rfl Tryz.underlying24 info_58 rfl rfl hO2 0 (hR5 _) rfl rfl rfl (hO2.satU h) (fun _ _ _ => ⟨rfl, rfl⟩) ⟨by omega, by omega⟩) ?_
  rintro _ w4 ⟨v7, c7, rfl, hO5, hr7, hs6⟩
  refine rl_v rfl rfl rfl (ov_assign rfl rfl) <| rl_nil <| run_ret Tryz.func33 (res1 Tryz.results33 rfl) ?_
  exact ⟨v7, c7, rfl, by rw [Nat.zero_add] at hr7; exact hr7.congr fun i h0 h1 => by unfold joinF; rw [if_neg (by omega)]; exact congrArg (fun j => ldF l j) (by omega), hO5⟩
namespace Lds
def lateTo (l : Lds) (D : Int) (j : Int) : Lds := { l with d := fun i => if i < j then l.d i + D else l.d i }
theorem Valid.late {l : Lds} (h : l.Valid) {D : Int} (hD : 0 ≤ D) (hD2 : D ≤ 900000000) : (l.late D).Fit 1000000000 :=
 ⟨fun i a b => (h i a b).1, fun i a b => by have := (h i a b).2.1; show l.r i < l.d i + D; omega, fun i a b => by have := (h i a b).2.2.1; show l.d i + D ≤ _; omega, fun i a b => (h i a b).2.2.2.1, fun i a b => by have := (h i a b).2.2.2.2.1; show l.len i ≤ l.d i + D - l.r i; omega⟩
end Lds
theorem late_step (l : Lds) (D : Int) (j : Nat) (n : Nat) : ∀ i : Int, 0 ≤ i → i < n → upd (ldF (l.lateTo D j)) j ((ldF (l.lateTo D j) j).set 1 (iv (l.d j + D))) i = ldF (l.lateTo D ((j + 1 : Nat) : Int)) i := fun i i0 i1 => by
 by_cases c : i = j
 ·rw [c, upd_same]
  unfold ldF Lds.lateTo
  dsimp only
  rw [if_pos (show (j : Int) < ((j + 1 : Nat) : Int) by omega)]
  rfl
 ·rw [upd_ne _ _ c]
  unfold ldF Lds.lateTo
  dsimp only
  by_cases c2 : i < j
  ·rw [if_pos c2, if_pos (by omega)]
  ·rw [if_neg c2, if_neg (by omega)]
set_option maxHeartbeats 1000000 in
theorem Delay1_any (la : Option Addr) (lc tb kb : Nat) (l : Lds) (k D : Int) (w0 w : World) (hn : l.n ≤ 256) (hV : l.Valid) (hk : 1 ≤ k ∧ k ≤ 1000) (hl : SAt w0.heap.size w0 la 4 l.n (ldF l)) (hD : 0 ≤ D ∧ D ≤ 900000000) (hO : Own w0.heap.size w0 w [some (lch kb 3 [iv k]), some (lch tb 24 [.slice la l.n lc])]) :
  Calls Tryz.prog 32 (#[iv D] ++ #[ptr tb, ptr kb]) w fun e w' => e = .returned (.bool (decide ((l.late D).Can k))) ∧ (¬ (l.late D).Can k → D < sm l.len l.n) ∧ Own w.heap.size w w' [] := by
 have hll := (hO.readsL 1 rfl).open
 have hkk := (hO.readsL 0 rfl).open
 have hl2 := hO.satU hl
 refine calls_of_run (F := [(0, _), (1, _), (2, _)]) Tryz.func32 rfl Tryz.ntmps32 rfl rfl ?_
 have hO0 := Own.init w
 refine run_seq <| run_region <| rl_v rfl rfl rfl (ov_assign rfl rfl) <| rl_nil <| run_seq <| run_region <| rl_v rfl rfl rfl (ov_load rfl Tryz.underlying24 rfl rfl (by exact hll _ hO0.below rfl)) ?_
 refine rl_call callable_33 rfl rfl rfl rfl rfl rfl (cloneLd_any la l.n lc l _ (by omega) (hO0.satU hl2)) (fun e1 w2 hp3 => ?_)
 obtain ⟨v8, c8, rfl, hr8, hO1⟩ := hp3
 refine ⟨_, rfl, ?_⟩
 have hO4 := hO0.join hO1
 obtain ⟨va, vc, rfl⟩ := Row.val hr8
 obtain ⟨vb, hvb⟩ := hr8.addr
 refine rl_v rfl rfl rfl (ov_assign rfl rfl) <| rl_nil <| run_seq <| run_seq <| run_region <| rl_v rfl rfl rfl (ov_move rfl rfl) <| rl_v rfl rfl rfl (ov_len rfl Tryz.underlying24 rfl) <| rl_v rfl rfl rfl (ov_move rfl rfl) <| rl_nil <| run_block <| Run.keep [0, 2, 5, 10, 11] (F' := [(0, _), (2, _), (5, _), (10, _), (11, _)]) rfl <| run_loop1 (fun (j : Nat) => [(11, .int .i64 (j : Int))]) [0, 2, 5, 10] (fun (j : Nat) (w5 : World) => j ≤ l.n ∧ ∃ c9 : Option Blk, SRow (.slice va l.n vc) 58 4 l.n (ldF (l.lateTo D j)) c9 ∧ Own w.heap.size w w5 [c9]) (fun (j : Nat) => l.n - j) (0) ?_ (And.intro (by exact slot_int rfl (by first | omega)) (And.intro rfl (And.intro rfl (And.intro rfl (And.intro rfl trivial))))) ?_
 ·exact ⟨Nat.zero_le _, c8, hr8.congr fun i i0 i1 => by unfold ldF Lds.lateTo; dsimp only; rw [if_neg (by omega)], hO4⟩
 intro j w5 hIw5 ih6
 obtain ⟨hj, c9, hr9, hO2⟩ := hIw5
 show Run _ _ _ _ [(11, _), (0, _), (2, _), (5, _), (10, _)] _ _
 refine run_seq <| run_region <| rl_v rfl rfl rfl (ov_lss rfl rfl rfl) <| rl_nil <| run_seq ?_
 first | refine run_cond_dec rfl (fun c1 => ?_) (fun c1 => ?_) | refine run_cond rfl (fun c1 => ?_) (fun c1 => ?_)
 ·have hv := hV j (by omega) c1
  have hdj : (l.lateTo D j).d j = l.d j := by unfold Lds.lateTo; dsimp only; rw [if_neg (by omega)]
  have hb1 := hv.1
  have hb2 := hv.2.1
  have hb3 := hv.2.2.1
  refine run_skip <| run_seq <| run_block <| run_seq <| run_region <| rl_v rfl rfl rfl (ov_move rfl rfl) <| rl_v rfl rfl rfl (ov_assign rfl rfl) <| rl_nil <| run_region <| rl_v rfl rfl rfl (ov_move rfl rfl) <| rl_v rfl rfl rfl (ov_move rfl rfl) <| rl_v rfl rfl rfl (ov_index rfl Tryz.underlying24 (by kernel_rfl) (s := 4) rfl rfl ⟨by omega, by omega⟩ (by exact hvb (by omega))) ?_
  refine rl_v rfl rfl rfl (ov_fieldS rfl Tryz.underlying58 rfl (fo := 1) rfl (by kernel_rfl) rfl) ?_
  refine rl_v rfl rfl rfl (ov_load rfl Tryz.underlying3 rfl rfl (by exact (hr9.cellU hO2 0 rfl (hvb (by omega)) j (by omega) c1 1 (by decide)).trans (congrArg (fun z => some (iv z)) hdj))) ?_
  refine rl_v rfl rfl rfl (ov_move rfl rfl) <| rl_v rfl rfl rfl (ov_add rfl rfl rfl (by omega)) ?_
  refine rl_v rfl rfl rfl (ov_index rfl Tryz.underlying24 (by kernel_rfl) (s := 4) rfl rfl ⟨by omega, by omega⟩ (by exact hvb (by omega))) ?_
  refine rl_v rfl rfl rfl (ov_fieldS rfl Tryz.underlying58 rfl (fo := 1) rfl (by kernel_rfl) rfl) ?_
  refine rl_ow rfl (ow_storeR rfl rfl (by kernel_rfl) hO2 0 hr9 rfl (fun _ => (hvb (by omega))) rfl ⟨by omega, by omega⟩ rfl rfl rfl rfl) ?_
  rintro _ w7 ⟨c10, rfl, hO8, hr10, hs9⟩
  refine rl_nil <| run_inBlock <| run_region <| rl_v rfl rfl rfl (ov_add rfl rfl rfl (by omega)) ?_
  refine rl_v rfl rfl rfl (ov_move rfl rfl) <| rl_nil ?_
  refine Run.use (ih6 (j + 1) _ ?_ ?_) (And.intro (by exact slot_int rfl (by first | omega)) (And.intro rfl (And.intro rfl (And.intro rfl (And.intro rfl trivial)))))
  ·first | omega | (dsimp only; omega)
  ·exact ⟨by omega, c10, hr10.congr (late_step l D j l.n), hO8⟩
 ·have hjn : j = l.n := by omega
  rw [hjn] at hr9
  have hr11 : SRow (.slice va (l.late D).n vc) 58 4 (l.late D).n (ldF (l.late D)) c9 := hr9.congr fun i i0 i1 => by
   unfold ldF Lds.lateTo Lds.late; dsimp only; rw [if_pos i1]
  have hF := hV.late hD.1 hD.2
  refine run_exit rfl <| run_seq <| run_region <| rl_v rfl rfl rfl (ov_move rfl rfl) <| rl_v rfl rfl rfl (ov_load rfl Tryz.underlying3 rfl rfl (by exact hkk _ hO2.below rfl)) ?_
  refine rl_call callable_24 rfl rfl rfl rfl rfl rfl (fits_any va vc (l.late D) k _ hn hF (by omega) (hr11.reads hO2 0 rfl)) (fun e10 w11 hp12 => ?_)
  obtain ⟨rfl, hcr, hO5⟩ := hp12
  refine ⟨_, rfl, ?_⟩
  have hO13 := hO2.join hO5
  refine rl_v rfl rfl rfl (ov_assign rfl rfl) <| rl_nil <| run_ret Tryz.func32 (res1 Tryz.results32 rfl) ?_
  exact ⟨rfl, fun h => Classical.byContradiction fun hlt => by obtain ⟨c, y, hc⟩ := hcr h; exact hc.short (D := D) hF hk.1 (by show sm l.len l.n ≤ D; omega) (fun i i0 i1 => by have := (hV i i0 i1).2.2.2.2.1; show l.len i + D ≤ l.d i + D - l.r i; omega), hO13.sub (List.nil_sublist _)⟩
structure DeO (l : Lds) (k d : Int) : Prop where
 yes : l.chkK k = 0 → 0 ≤ d ∧ d ≤ 900000000 ∧ (l.late d).Can k ∧ (d = 0 ∨ ¬ (l.late (d - 1)).Can k)
 no_ : l.chkK k ≠ 0 → d = 0
theorem Delay_any (la : Option Addr) (lc : Nat) (l : Lds) (k : Int) (w : World) (hn : l.n ≤ 100000) (hI : l.I64) (hl : SAt w.heap.size w la 4 l.n (ldF l)) :
  Calls Tryz.prog 14 #[.slice la l.n lc, iv k] w fun e w' => ∃ d : Int, e = .returned (.tuple #[iv d, iv (l.chkK k)]) ∧ DeO l k d ∧ Own w.heap.size w w' [] := by
 refine calls_of_run (F := [(0, _), (1, _)]) Tryz.func14 rfl Tryz.ntmps14 rfl rfl ?_
 have hO0 := Own.init w
 refine run_seq <| run_region <| rl_ow rfl (ow_box _ rfl rfl rfl rfl rfl hO0) ?_
 rintro _ w1 ⟨tb, rfl, hO2, hs3⟩
 refine rl_ow rfl (ow_box _ rfl rfl rfl rfl rfl hO2) ?_
 rintro _ w4 ⟨kb, rfl, hO5, hs6⟩
 refine rl_v rfl rfl rfl (ov_assign rfl rfl) <| rl_v rfl rfl rfl (ov_assign rfl rfl) <| rl_nil <| run_seq <| run_seq <| run_region <| rl_v rfl rfl rfl (ov_load rfl Tryz.underlying24 rfl rfl (by exact hO5.cellL 1 rfl (off := 0) rfl)) ?_
 refine rl_v rfl rfl rfl (ov_load rfl Tryz.underlying3 rfl rfl (by exact hO5.cellL 0 rfl (off := 0) rfl)) ?_
 refine rl_call callable_23 rfl rfl rfl rfl rfl rfl (checkKilns_any la lc l k _ hn hI (hO5.satU hl)) (fun e7 w8 hp9 => ?_)
 obtain ⟨rfl, hO1⟩ := hp9
 refine ⟨_, rfl, ?_⟩
 have hO10 := hO5.join hO1
 refine rl_v rfl rfl rfl (ov_assign rfl rfl) <| rl_nil <| run_seq <| run_region <| rl_v rfl rfl rfl (ov_move rfl rfl) <| rl_v rfl rfl rfl (ov_neq rfl rfl rfl) <| rl_nil ?_
 first | refine run_cond_dec rfl (fun c1 => ?_) (fun c1 => ?_) | refine run_cond rfl (fun c1 => ?_) (fun c1 => ?_)
 ·refine run_seq <| run_region <| rl_v rfl rfl rfl (ov_move rfl rfl) <| rl_v rfl rfl rfl (ov_assign rfl rfl) <| rl_v rfl rfl rfl (ov_assign rfl rfl) <| rl_nil <| run_ret Tryz.func14 (res2 Tryz.results14 rfl rfl) ?_
  exact ⟨0, rfl, ⟨fun h => absurd h c1, fun _ => rfl⟩, hO10.tail.tail⟩
 ·have c1' : l.chkK k = 0 := Classical.not_not.1 c1
  obtain ⟨h1, h2, h3, h4⟩ := Lds.chkK_ne c1'
  have hs0 : 0 ≤ sm l.len l.n := sm_nonneg fun j j0 j1 => by have := (h2 j j0 j1).2.2.2.1; omega
  have hs1 := sm_bound (f := l.len) (k := l.n) 1000000 (by omega) fun j j0 j1 => by
   have := h2 j j0 j1
   unfold Lds.Val at this
   omega
  refine run_skip <| run_seq <| run_region <| rl_v rfl rfl rfl (ov_func rfl rfl rfl) ?_
  refine rl_call callable_31 rfl rfl rfl rfl rfl rfl (least_any 32 callable_32 #[ptr tb, ptr kb] (fun d => (l.late d).Can k) (sm l.len l.n) hs0 (by omega) w.heap.size w _ [some (lch kb 3 [iv k]), some (lch tb 24 [.slice la l.n lc])] (fun n w1 n0 n1 hO => Delay1_any la lc tb kb l k n w w1 h1 h2 (by omega) hl ⟨n0, by omega⟩ hO) hO10) (fun e11 w12 hp13 => ?_)
  obtain ⟨d, rfl, n0, n1, hp, hn2, hO2⟩ := hp13
  refine ⟨_, rfl, ?_⟩
  refine rl_v rfl rfl rfl (ov_assign rfl rfl) <| rl_v rfl rfl rfl (ov_assign rfl rfl) <| rl_nil <| run_ret Tryz.func14 (res2 Tryz.results14 rfl rfl) ?_
  exact ⟨d, by rw [c1'], ⟨fun _ => ⟨n0, by omega, hp, hn2⟩, fun h => absurd c1' h⟩, hO2.tail.tail⟩
end Go.Proofs.YtbepolognfdkeaaGreat
set_option maxRecDepth 100000
namespace Go.Proofs.YtbepolognfdkeaaGreat
open Go.RowKit Go.Proofs Go.MapKept
namespace Lds
def cut (l : Lds) (n : Nat) : Lds := { l with n := n }
theorem I64.cut {l : Lds} (h : l.I64) {n : Nat} (hn : n ≤ l.n) : (l.cut n).I64 := ⟨fun i a b => h.r i a (by have : i < (n : Int) := b; omega), fun i a b => h.d i a (by have : i < (n : Int) := b; omega), fun i a b => h.len i a (by have : i < (n : Int) := b; omega), fun i a b => h.wo i a (by have : i < (n : Int) := b; omega)⟩
noncomputable instance (l : Lds) (i : Int) : Decidable (l.Val i) := Classical.propDecidable _
end Lds
theorem SAt.take7 {B : Nat} {w : World} {ao : Option Addr} {s n m : Nat} {G : Int → List Value} (h : SAt B w ao s n G) (hm : m ≤ n) : SAt B w ao s m G := RAt.take h (Nat.mul_le_mul_right s hm)
theorem some7_any (la : Option Addr) (lc : Nat) (l : Lds) (most : Nat) (w : World) (hc : l.n ≤ lc) (hm : most ≤ 1000) (hl : SAt w.heap.size w la 4 l.n (ldF l)) :
  Calls Tryz.prog 5 #[.slice la l.n lc, iv most] w fun e w' => ∃ v c, e = .returned v ∧ SRow v 63 4 (min l.n most) (ldF l) c ∧ Own w.heap.size w w' [c] := by
 refine calls_of_run (F := [(0, _), (1, _)]) Tryz.func5 rfl Tryz.ntmps5 rfl rfl ?_
 have hO0 := Own.init w
 have hOn := hO0.nil_cons
 refine run_seq <| run_region <| rl_v rfl rfl rfl (ov_assign rfl rfl) <| rl_nil <| run_seq <| run_region <| rl_v rfl rfl rfl (ov_assign rfl rfl) <| rl_nil <| run_seq <| run_region <| rl_v rfl rfl rfl (ov_move rfl rfl) <| rl_v rfl rfl rfl (ov_move rfl rfl) <| rl_v rfl rfl rfl (ov_move rfl rfl) <| rl_v rfl rfl rfl (ov_len rfl Tryz.underlying22 rfl) <| rl_v rfl rfl rfl (ov_move rfl rfl) <| rl_v rfl rfl rfl (ov_min rfl rfl rfl) <| rl_v rfl rfl rfl (ov_sliceH (min l.n most) (s := 4) rfl Tryz.underlying22 (by kernel_rfl) rfl rfl (by omega) (by omega)) ?_
 refine rl_ow rfl (ow_appSR rfl rfl rfl Tryz.underlying22 info_63 rfl rfl hOn 0 (SRow.nil _ _ (ldF l)) rfl rfl rfl ((hOn.satU hl).take7 (Nat.min_le_left _ _)) (fun _ _ _ => ⟨rfl, rfl⟩) ⟨by omega, by omega⟩) ?_
 rintro _ w1 ⟨v13, c13, rfl, hO2, hr13, hs3⟩
 refine rl_v rfl rfl rfl (ov_assign rfl rfl) <| rl_nil <| run_ret Tryz.func5 (res1 Tryz.results5 rfl) ?_
 exact ⟨v13, c13, rfl, by rw [Nat.zero_add] at hr13; exact hr13.congr fun i h0 h1 => by unfold joinF; rw [if_neg (by omega)]; exact congrArg (fun j => ldF l j) (by omega), hO2⟩
end Go.Proofs.YtbepolognfdkeaaGreat
set_option maxRecDepth 100000
namespace Go.Proofs.YtbepolognfdkeaaGreat
open Go.RowKit Go.Proofs Go.MapKept
theorem ldF_upd (l : Lds) (j : Nat) (n : Nat) : ∀ i : Int, 0 ≤ i → i < n → upd (ldF l) j (ldF l j) i = ldF l i := fun i _ _ => by
 by_cases c : i = j
 ·rw [c, upd_same]
 ·rw [upd_ne _ _ c]
theorem give7_any (la : Option Addr) (lc : Nat) (l : Lds) (w : World) (hn : l.n ≤ 100000) (hl : SAt w.heap.size w la 4 l.n (ldF l)) :
  Calls Tryz.prog 6 #[.slice la l.n lc] w fun e w' => ∃ (va : Option Addr) (vc : Nat) (c : Option Blk), e = .returned (.slice va l.n vc) ∧ SRow (.slice va l.n vc) 58 4 l.n (ldF l) c ∧ Own w.heap.size w w' [c] := by
 obtain ⟨lb, lo, hla, hlr⟩ := hl.open (by decide)
 refine calls_of_run (F := [(0, _)]) Tryz.func6 rfl Tryz.ntmps6 rfl rfl ?_
 have hO0 := Own.init w
 have hOn := hO0.nil_cons
 refine run_seq <| run_region <| rl_v rfl rfl rfl (ov_assign rfl rfl) <| rl_nil <| run_seq <| run_region <| rl_v rfl rfl rfl (ov_assign rfl rfl) <| rl_nil <| run_seq <| run_seq <| run_region <| rl_v rfl rfl rfl (ov_assign rfl rfl) <| rl_nil <| run_block <| Run.keep [0, 3, 4] (F' := [(0, _), (3, _), (4, _)]) rfl <| run_loop2 (fun (j : Nat) (v : Value) => [(4, .int .i64 (j : Int)), (3, v)]) [0] (fun (j : Nat) (v : Value) (w1 : World) => j ≤ l.n ∧ ∃ c : Option Blk, SRow v 58 4 j (ldF l) c ∧ Own w.heap.size w w1 [c]) (fun (j : Nat) (v : Value) => l.n - j) (0) (.slice none 0 0) ?_ (And.intro (by exact slot_int rfl (by first | omega)) (And.intro rfl (And.intro rfl trivial))) ?_
 ·exact ⟨Nat.zero_le _, none, SRow.nil _ _ _, hOn⟩
 intro j v w1 hIw1 ih2
 obtain ⟨hj, c, hr, hO1⟩ := hIw1
 show Run _ _ _ _ [(4, _), (3, _), (0, _)] _ _
 refine run_seq <| run_seq <| run_region <| rl_v rfl rfl rfl (ov_move rfl rfl) <| rl_v rfl rfl rfl (ov_move rfl rfl) <| rl_v rfl rfl rfl (ov_len rfl Tryz.underlying22 rfl) <| rl_v rfl rfl rfl (ov_lss rfl rfl rfl) <| rl_nil ?_
 first | refine run_cond_dec rfl (fun c1 => ?_) (fun c1 => ?_) | refine run_cond rfl (fun c1 => ?_) (fun c1 => ?_)
 ·refine run_skip <| run_seq <| run_block <| run_region <| rl_v rfl rfl rfl (ov_move rfl rfl) <| rl_v rfl rfl rfl (ov_move rfl rfl) <| rl_v rfl rfl rfl (ov_move rfl rfl) <| rl_v rfl rfl rfl (ov_index rfl Tryz.underlying22 (by kernel_rfl) (s := 4) rfl rfl ⟨by omega, by omega⟩ (by exact hla (by omega))) ?_
  refine rl_v rfl rfl rfl (ov_loadE rfl Tryz.underlying63 rfl (by kernel_rfl) rfl ⟨by omega, by omega⟩ rfl (hlr _ hO1.below)) ?_
  refine rl_ow rfl (ow_build [_] rfl rfl rfl rfl rfl Tryz.underlying24 info_58 (by decide) hO1 rfl rfl) ?_
  rintro _ w3 ⟨b16, rfl, hO4, hs5⟩
  refine rl_ow rfl (ow_appR1 rfl rfl rfl Tryz.underlying24 info_58 rfl rfl hO4 0 hr rfl rfl rfl rfl rfl ⟨by omega, by omega⟩) ?_
  rintro _ w6 ⟨v2, c2, rfl, hO7, hr2, hs8⟩
  refine rl_v rfl rfl rfl (ov_assign rfl rfl) <| rl_nil <| run_inBlock <| run_region <| rl_v rfl rfl rfl (ov_move rfl rfl) <| rl_v rfl rfl rfl (ov_add rfl rfl rfl (by omega)) ?_
  refine rl_v rfl rfl rfl (ov_assign rfl rfl) <| rl_nil ?_
  refine Run.use (ih2 (j + 1) (v2) _ ?_ ?_) (And.intro (by exact slot_int rfl (by first | omega)) (And.intro rfl (And.intro rfl trivial)))
  ·first | omega | (dsimp only; omega)
  ·exact ⟨by omega, c2, hr2.congr (ldF_upd l j (j + 1)), hO7⟩
 ·obtain ⟨va, vc, rfl⟩ := Row.val hr
  have hjn : j = l.n := by omega
  subst hjn
  refine run_exit rfl <| run_seq <| run_region <| rl_v rfl rfl rfl (ov_move rfl rfl) <| rl_v rfl rfl rfl (ov_assign rfl rfl) <| rl_nil <| run_ret Tryz.func6 (res1 Tryz.results6 rfl) ?_
  exact ⟨va, vc, c, rfl, hr, hO1⟩
end Go.Proofs.YtbepolognfdkeaaGreat
