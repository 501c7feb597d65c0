import Derived.Test.YtlldeifbfpmbaaaGreatFcH
set_option maxRecDepth 100000
namespace Go.Proofs.YtlldeifbfpmbaaaGreat
open Go.RowKit Go.Proofs Go.MapKept
theorem ints5_any (ao bo : Option Addr) (n c m cb : Nat) (X Y : Int → Int) (w : World) (hn : n ≤ 1000000) (h : IAt w.heap.size w ao n (fun i => iv (X i))) (h2 : IAt w.heap.size w bo m (fun i => iv (Y i))) :
  Calls Tryz.prog 17 #[.slice ao n c, .slice bo m cb] w fun e w' => (∃ b, e = .returned (.bool b) ∧ (b = true ↔ n = m ∧ ∀ i : Int, 0 ≤ i → i < n → X i = Y i)) ∧ Below w.heap.size w w' := by
 obtain ⟨gb, go, hga, hrow⟩ := h.open
 obtain ⟨qb, qo, hqa, hq⟩ := h2.open
 refine calls_of_run (F := [(0, _), (1, _)]) Tryz.func17 rfl Tryz.ntmps17 rfl rfl ?_
 have hO0 := Own.init w
 refine run_seq <| run_region <| rl_v rfl rfl rfl (ov_assign rfl rfl) <| rl_nil <| run_seq <| run_seq <| run_region <| rl_v rfl rfl rfl (ov_move rfl rfl) <| rl_v rfl rfl rfl (ov_len rfl Tryz.underlying23 rfl) <| rl_v rfl rfl rfl (ov_move rfl rfl) <| rl_v rfl rfl rfl (ov_len rfl Tryz.underlying23 rfl) <| rl_v rfl rfl rfl (ov_neq rfl rfl rfl) <| rl_nil ?_
 first | refine run_cond_dec rfl (fun h1 => ?_) (fun h1 => ?_) | refine run_cond rfl (fun h1 => ?_) (fun h1 => ?_)
 ·refine run_seq <| run_region <| rl_v rfl rfl rfl (ov_assign rfl rfl) <| rl_nil <| run_ret Tryz.func17 (res1 Tryz.results17 rfl) ?_
  exact ⟨⟨false, rfl, ⟨fun h => Bool.noConfusion h, fun h => absurd h.1 (by omega)⟩⟩, hO0.below⟩
 ·refine run_skip <| run_seq <| run_seq <| run_region <| rl_v rfl rfl rfl (ov_assign rfl rfl) <| rl_nil <| run_block <| Run.keep [0, 1, 5] (F' := [(0, _), (1, _), (5, _)]) rfl <| run_loop1 (fun (k : Int) => [(5, .int .i64 k)]) [0, 1] (fun (k : Int) (w1 : World) => 0 ≤ k ∧ k ≤ n ∧ (∀ i : Int, 0 ≤ i → i < k → X i = Y i) ∧ Own w.heap.size w w1 []) (fun (k : Int) => ((n : Int) - k).toNat) (0) ?_ (And.intro (by exact slot_int rfl (by first | omega)) (And.intro rfl (And.intro rfl trivial))) ?_
  ·exact ⟨by omega, by omega, fun i h0 h1 => by omega, hO0⟩
  intro k w1 hIw1 ih2
  obtain ⟨hk0, hk1, hall, hO⟩ := hIw1
  show Run _ _ _ _ [(5, _), (0, _), (1, _)] _ _
  refine run_seq <| run_seq <| run_region <| rl_v rfl rfl rfl (ov_move rfl rfl) <| rl_v rfl rfl rfl (ov_move rfl rfl) <| rl_v rfl rfl rfl (ov_len rfl Tryz.underlying23 rfl) <| rl_v rfl rfl rfl (ov_lss rfl rfl rfl) <| rl_nil ?_
  first | refine run_cond_dec rfl (fun h3 => ?_) (fun h3 => ?_) | refine run_cond rfl (fun h3 => ?_) (fun h3 => ?_)
  ·refine run_skip <| run_seq <| run_block <| run_seq <| run_quiet mixed (by kernel_rfl) ?_
   refine rq_v rfl rfl rfl (fun _ => ov_move rfl rfl) ?_
   refine rq_v rfl rfl rfl (fun _ => ov_move rfl rfl) ?_
   refine rq_v rfl rfl rfl (fun _ => ov_index1 rfl Tryz.underlying23 (by kernel_rfl) rfl rfl ⟨by omega, by omega⟩ (by exact hga (by omega))) ?_
   refine rq_v rfl rfl rfl (fun _ => ov_load rfl Tryz.underlying3 rfl rfl (by show World.cell? w1 _ = _; first | exact hrow _ hO.below _ (by omega) (by omega) | exact hq _ hO.below _ (by omega) (by omega) | exact hO.cellI 0 rfl _ (by omega) (by omega) | exact hO.cellL 0 rfl rfl | exact hO.cellI 1 rfl _ (by omega) (by omega) | exact hO.cellL 1 rfl rfl | exact hO.cellI 2 rfl _ (by omega) (by omega) | exact hO.cellL 2 rfl rfl | exact hO.cellI 3 rfl _ (by omega) (by omega) | exact hO.cellL 3 rfl rfl | exact hO.cellI 4 rfl _ (by omega) (by omega) | exact hO.cellL 4 rfl rfl | exact hO.cellI 5 rfl _ (by omega) (by omega) | exact hO.cellL 5 rfl rfl)) ?_
   refine rq_v rfl rfl rfl (fun _ => ov_move rfl rfl) ?_
   refine rq_v rfl rfl rfl (fun _ => ov_move rfl rfl) ?_
   refine rq_v rfl rfl rfl (fun _ => ov_index1 rfl Tryz.underlying23 (by kernel_rfl) rfl rfl ⟨by omega, by omega⟩ (by exact hqa (by omega))) ?_
   refine rq_v rfl rfl rfl (fun _ => ov_load rfl Tryz.underlying3 rfl rfl (by show World.cell? w1 _ = _; first | exact hrow _ hO.below _ (by omega) (by omega) | exact hq _ hO.below _ (by omega) (by omega) | exact hO.cellI 0 rfl _ (by omega) (by omega) | exact hO.cellL 0 rfl rfl | exact hO.cellI 1 rfl _ (by omega) (by omega) | exact hO.cellL 1 rfl rfl | exact hO.cellI 2 rfl _ (by omega) (by omega) | exact hO.cellL 2 rfl rfl | exact hO.cellI 3 rfl _ (by omega) (by omega) | exact hO.cellL 3 rfl rfl | exact hO.cellI 4 rfl _ (by omega) (by omega) | exact hO.cellL 4 rfl rfl | exact hO.cellI 5 rfl _ (by omega) (by omega) | exact hO.cellL 5 rfl rfl)) ?_
   refine rq_v rfl rfl rfl (fun _ => ov_neq rfl rfl rfl) ?_
   refine rq_nil (fun n3 => ?_)
   have hO5 := hO.drewN n3
   generalize World.drewN w1 n3 = w4 at hO5 ⊢
   first | refine run_cond_dec rfl (fun h4 => ?_) (fun h4 => ?_) | refine run_cond rfl (fun h4 => ?_) (fun h4 => ?_)
   ·refine run_seq <| run_region <| rl_v rfl rfl rfl (ov_assign rfl rfl) <| rl_nil <| run_ret Tryz.func17 (res1 Tryz.results17 rfl) ?_
    exact ⟨⟨false, rfl, ⟨fun h => Bool.noConfusion h, fun h => absurd (h.2 k hk0 h3) h4⟩⟩, hO5.below⟩
   ·refine run_skip <| run_inBlock <| run_region <| rl_v rfl rfl rfl (ov_move rfl rfl) <| rl_v rfl rfl rfl (ov_add rfl rfl rfl (by omega)) ?_
    refine rl_v rfl rfl rfl (ov_assign rfl rfl) <| rl_nil ?_
    refine Run.use (ih2 _ _ ?_ ?_) (And.intro (by rfl) (And.intro rfl (And.intro rfl trivial)))
    ·first | omega | (dsimp only; omega)
    ·exact ⟨by omega, by omega, fun i h0 h1' => (by omega : i = k ∨ i < k).elim (fun e => by rw [e]; exact Classical.not_not.1 h4) (fun e => hall i h0 e), hO5⟩
  ·refine run_exit rfl <| run_seq <| run_region <| rl_v rfl rfl rfl (ov_assign rfl rfl) <| rl_nil <| run_ret Tryz.func17 (res1 Tryz.results17 rfl) ?_
   exact ⟨⟨true, rfl, ⟨fun _ => ⟨by omega, fun i i0 i1 => hall i i0 (by omega)⟩, fun _ => rfl⟩⟩, hO.below⟩
def exF : Fair := ⟨2, 2, fun _ => 2, fun g k => if g = k then 0 else 1, fun _ => 2, fun b k => if b = k then 1 else 0, fun _ => 1⟩
theorem exF_ok : exF.Ok := by
 refine ⟨fun g k g0 g1 k0 k1 => ?_, fun g g0 g1 a b a0 a1 b0 b1 e => ?_, fun b k b0 b1 k0 k1 => ?_, fun b b0 b1 x y x0 x1 y0 y1 e => ?_, fun b _ _ => by show (0 : Int) ≤ 1; decide⟩
 ·show 0 ≤ (if g = k then (0 : Int) else 1) ∧ (if g = k then (0 : Int) else 1) < (2 : Nat)
  split <;> omega
 ·have e' : (if g = a then (0 : Int) else 1) = (if g = b then 0 else 1) := e
  have h1 : g < (2 : Nat) := g1
  have h2 : a < (2 : Nat) := a1
  have h3 : b < (2 : Nat) := b1
  split at e' <;> split at e' <;> omega
 ·show 0 ≤ (if b = k then (1 : Int) else 0) ∧ (if b = k then (1 : Int) else 0) < (2 : Nat)
  split <;> omega
 ·have e' : (if b = x then (1 : Int) else 0) = (if b = y then 1 else 0) := e
  have h1 : b < (2 : Nat) := b1
  have h2 : x < (2 : Nat) := x1
  have h3 : y < (2 : Nat) := y1
  split at e' <;> split at e' <;> omega
theorem exF_valid : Valid5 exF exF.m := ⟨exF_ok, ⟨by decide, by decide, fun _ _ _ => by show (2 : Nat) ≤ 64; decide, fun _ _ _ => by show (2 : Nat) ≤ 64; decide, fun _ _ _ => by show (0 : Int) ≤ 1 ∧ (1 : Int) ≤ 64; decide⟩, rfl⟩
theorem two {p : Int → Prop} (h0 : p 0) (h1 : p 1) : ∀ g : Int, 0 ≤ g → g < ((2 : Nat) : Int) → p g := fun g g0 g1 => by
 rcases (show g = 0 ∨ g = 1 by omega) with rfl | rfl
 ·exact h0
 ·exact h1
theorem exF_know : ∀ g : Int, 0 ≤ g → g < exF.n → ∀ b : Int, 0 ≤ b → b < exF.m → exF.know g b := by
 refine two (two ?_ ?_) (two ?_ ?_) <;> decide
theorem exF_lt : ∀ g : Int, 0 ≤ g → g < exF.n → ∀ b : Int, 0 ≤ b → b < exF.m → g ≠ b → exF.rg g g < exF.rg g b := by
 refine two (two ?_ ?_) (two ?_ ?_) <;> decide
theorem exF_top : ∀ b : Int, 0 ≤ b → b < exF.m → exF.rb b (1 - b) = 0 := by
 refine two ?_ ?_ <;> decide
theorem exF_s0 : exF.Stab (fun g => g) :=
 ⟨⟨fun g g0 g1 => .inr ⟨⟨g0, g1⟩, exF_know g g0 g1 g g0 g1⟩, two (by decide) (by decide)⟩, fun g b g0 g1 b0 b1 ⟨h1, _, h3, _⟩ => h3 ⟨g0, exF_lt g g0 g1 b b0 b1 h1⟩⟩
theorem exF_s1 : exF.Stab (fun g => 1 - g) := by
 have hn : (exF.n : Int) = 2 := rfl
 have hm : (exF.m : Int) = 2 := rfl
 refine ⟨⟨fun g g0 g1 => .inr ⟨⟨by omega, by omega⟩, exF_know g g0 g1 _ (by omega) (by omega)⟩, two (by decide) (by decide)⟩, fun g b g0 g1 b0 b1 ⟨_, _, _, h4⟩ => ?_⟩
 rcases h4 with h4 | ⟨i, ⟨i0, i1⟩, hi, hlt⟩
 ·have hc : ∀ b : Int, 0 ≤ b → b < exF.m → ¬ exF.cnt (fun g => 1 - g) b < exF.q b := two (by decide) (by decide)
  exact hc b b0 b1 h4
 ·have hi' : 1 - i = b := hi
  have h5 := exF_top b b0 b1
  rw [show 1 - b = i by omega] at h5
  have h6 := Fair.rb_nonneg exF b g
  omega
theorem exF_best {l : Int → Int} (h : exF.Best l) : ∀ g : Int, 0 ≤ g → g < 2 → l g = g := fun g g0 g1 => by
 have hn : (exF.n : Int) = 2 := rfl
 have h1 := h.best _ exF_s0 g g0 g1 (by show g ≠ -1; omega)
 have hk : exF.know g g := exF_know g g0 g1 g g0 g1
 by_cases c : l g = g
 ·exact c
 ·have hr := h.stab.rng g g0 g1
  have := exF_lt g g0 g1 (l g) h1.1 (by omega) (fun e => c e.symm)
  have h2 : exF.rg g (l g) ≤ exF.rg g g := h1.2
  omega
theorem exF_worst {l nb : Int → Int} (h : exF.AS l nb) (hd : ∀ b : Int, 0 ≤ b → b < exF.m → Done exF l nb b) : ∀ g : Int, 0 ≤ g → g < 2 → l g = 1 - g := fun g g0 g1 => by
 have hn : (exF.n : Int) = 2 := rfl
 have hm : (exF.m : Int) = 2 := rfl
 have hs := h.stab hd
 obtain ⟨B, hB⟩ := Fair.Best.exists exF_ok
 have hne : l g ≠ -1 := fun e => by
  have h1 := ((hB.share hs).who g g0 g1).2 e
  have h2 := ((hB.share exF_s1).who g g0 g1).1 h1
  have h3 : 1 - g = -1 := h2
  omega
 have h1 : exF.rg g (1 - g) ≤ exF.rg g (l g) := (h.worst exF_s1 g0 g1 hne).2
 have hr := hs.rng g g0 g1
 by_cases c : l g = 1 - g
 ·exact c
 ·have e : l g = g := by omega
  have := exF_lt g g0 g1 (1 - g) (by omega) (by omega) (by omega)
  rw [e] at h1
  omega
def exW : Wish := wishOf 2 (fun _ => 1) (fun i _ => 1 - i)
theorem exW_rk : exW.rk 0 1 = 0 ∧ exW.rk 1 0 = 0 := by decide
theorem exW_swap : SwapOk 2 (fun _ => 1) (fun i _ => 1 - i) := fun i i0 i1 => ⟨fun _ _ _ => (show 0 ≤ 1 - i ∧ 1 - i < ((2 : Nat) : Int) from ⟨by omega, by omega⟩), fun a b a0 a1 b0 b1 _ => by have h1 : a < ((1 : Nat) : Int) := a1; have h2 : b < ((1 : Nat) : Int) := b1; omega⟩
theorem exW_cert {o t : Int → Int} (h : exW.Cert o t) : ∀ i : Int, 0 ≤ i → i < 2 → o i = 1 - i := fun i i0 i1 => by
 have hn : (exW.n : Int) = 2 := rfl
 have hc : exW.Cert (fun i => 1 - i) (fun _ => 0) := by
  have hr : ∀ i : Int, 0 ≤ i → i < 2 → exW.rk i (1 - i) = 0 := two exW_rk.1 exW_rk.2
  refine ⟨fun i i0 i1 => ⟨by omega, by omega⟩, fun i j _ _ _ _ e => by have e' : 1 - i = 1 - j := e; omega, fun i i0 i1 => ?_, fun _ _ _ => rfl, fun i k i0 i1 k0 k1 => ?_⟩
  ·show exW.rk i (1 - i) < _
   rw [hr i i0 (by omega)]
   show (0 : Int) < ((_ + 1 : Nat) : Int)
   omega
  ·have k1' : k < exW.rk i (1 - i) := k1
   rw [hr i i0 (by omega)] at k1'
   omega
 exact hc.uniq h i0 (by omega)
end Go.Proofs.YtlldeifbfpmbaaaGreat
set_option maxRecDepth 100000
namespace Go.Proofs.YtlldeifbfpmbaaaGreat
open Go.RowKit Go.Proofs Go.MapKept
theorem rl_gow {P : Program} {f N : Nat} {ops : Array Oper} {o : Oper} {rest : List Oper} {k : List Item} {F : Fr} {w : World} {R : Ending → World → Prop} {j g : Nat} {b : Bool} {Post : Fr → World → Prop} (hg : o.guard = some (j, b)) (hj : (ops[j]?).bind (·.dst) = some g) (hb : Fr.get F g = some (.bool b)) (hw : OpW P N o F w Post)
  (h : ∀ F' w', Post F' w' → RL P f N ops rest k F' w' R) : RL P f N ops (o :: rest) k F w R := by
 intro a ha
 refine wpList_step fun K hK => ?_
 have hw1 : Region.wanted o (yielded ops a.tmps) = true := by simp [Region.wanted, hg, yielded_of ha hj hb]
 rw [if_pos hw1]
 exact hw a ha K _ fun F' a' w' hp ha' => hK _ _ (h F' w' hp a' ha')
theorem itab2 {B : Nat} {w0 w : World} {H : List (Option Blk)} (hO : Own B w0 w H) (k i j : Nat) {ob b1 b2 m : Nat} {T T1 T2 : TypeId} {G G1 G2 : Int → Value} {F : Int → Int → Int} (hk : H[k]? = some (some (vch ob T 2 G))) (hi : H[i]? = some (some (vch b1 T1 m G1))) (hj : H[j]? = some (some (vch b2 T2 m G2)))
  (hG0 : G 0 = .slice (some ⟨b1, 0, none⟩) m m) (hG1 : G 1 = .slice (some ⟨b2, 0, none⟩) m m) (h1 : ∀ c : Int, 0 ≤ c → c < m → G1 c = iv (F 0 c)) (h2 : ∀ c : Int, 0 ≤ c → c < m → G2 c = iv (F 1 c)) : RTab w.heap.size w (some ⟨ob, 0, none⟩) 2 (fun _ => m) F := by
 refine ⟨fun r => if r = 0 then some ⟨b1, 0, none⟩ else some ⟨b2, 0, none⟩, fun _ => m, (hO.readsI k hk).congr fun r r0 r1 => ?_, fun _ _ _ => Nat.le_refl _, fun r r0 r1 => ?_⟩
 ·rcases (show r = 0 ∨ r = 1 by omega) with rfl | rfl
  ·exact hG0
  ·exact hG1
 ·rcases (show r = 0 ∨ r = 1 by omega) with rfl | rfl
  ·show IAt _ _ (if (0 : Int) = 0 then _ else _) _ _
   rw [if_pos rfl]; exact (hO.readsI i hi).congr h1
  ·show IAt _ _ (if (1 : Int) = 0 then _ else _) _ _
   rw [if_neg (by decide)]; exact (hO.readsI j hj).congr h2
theorem two2 {p : Int → Prop} (h0 : p 0) (h1 : p 1) : ∀ g : Int, 0 ≤ g → g < ((2 : Nat) : Int) → p g := two h0 h1
set_option maxHeartbeats 1000000 in
theorem awake5_any (hSort : SortRows) (w : World) : Calls Tryz.prog 15 #[] w fun e w' => e = .returned (.bool true) ∧ Below w.heap.size w w' := by
 refine calls_of_run (F := []) Tryz.func15 rfl Tryz.ntmps15 rfl rfl ?_
 have hO0 := Own.init w
 refine run_seq <| run_region <| rl_v rfl rfl rfl (ov_assign rfl rfl) <| rl_nil <| run_seq <| run_region <| rl_ow rfl (ow_build1 [_, _] rfl rfl rfl rfl rfl Tryz.underlying23 info_3 (by decide) hO0 rfl rfl) ?_
 rintro _ w1 ⟨g1b, rfl, hO2, hs3⟩
 refine rl_ow rfl (ow_build1 [_, _] rfl rfl rfl rfl rfl Tryz.underlying23 info_3 (by decide) hO2 rfl rfl) ?_
 rintro _ w4 ⟨g2b, rfl, hO5, hs6⟩
 refine rl_ow rfl (ow_build1 [_, _] rfl rfl rfl rfl rfl Tryz.underlying22 info_23 (by decide) hO5 rfl rfl) ?_
 rintro _ w7 ⟨gb, rfl, hO8, hs9⟩
 refine rl_ow rfl (ow_build1 [_, _] rfl rfl rfl rfl rfl Tryz.underlying23 info_3 (by decide) hO8 rfl rfl) ?_
 rintro _ w10 ⟨b1b, rfl, hO11, hs12⟩
 refine rl_ow rfl (ow_build1 [_, _] rfl rfl rfl rfl rfl Tryz.underlying23 info_3 (by decide) hO11 rfl rfl) ?_
 rintro _ w13 ⟨b2b, rfl, hO14, hs15⟩
 refine rl_ow rfl (ow_build1 [_, _] rfl rfl rfl rfl rfl Tryz.underlying22 info_23 (by decide) hO14 rfl rfl) ?_
 rintro _ w16 ⟨bb, rfl, hO17, hs18⟩
 refine rl_ow rfl (ow_build1 [_, _] rfl rfl rfl rfl rfl Tryz.underlying23 info_3 (by decide) hO17 rfl rfl) ?_
 rintro _ w19 ⟨qb, rfl, hO20, hs21⟩
 refine rl_v rfl rfl rfl (ov_buildL rfl lay_27 rfl (us := [_, _, _]) rfl) <| rl_ow rfl (ow_alloc _ rfl rfl rfl zero_27 rfl hO20) ?_
 rintro _ w22 ⟨fb, rfl, hO23, hs24⟩
 refine rl_ow rfl (ow_storeW rfl rfl (by kernel_rfl) hO23 0 rfl rfl (by rfl) rfl (by rfl)) ?_
 rintro _ w25 ⟨rfl, hO26, hs27⟩
 refine rl_nil <| run_seq <| run_region <| rl_v rfl rfl rfl (ov_loadW rfl Tryz.underlying27 rfl (by kernel_rfl) rfl hO26 0 rfl) ?_
 refine rl_call callable_11 rfl rfl rfl rfl rfl rfl (growers_any (some ⟨gb, 0, none⟩) (some ⟨bb, 0, none⟩) (some ⟨qb, 0, none⟩) 2 2 2 exF _ exF_valid ⟨(itab2 hO26 5 7 6 rfl rfl rfl rfl rfl (two2 rfl rfl) (two2 rfl rfl)).tab, (itab2 hO26 2 4 3 rfl rfl rfl rfl rfl (two2 rfl rfl) (two2 rfl rfl)).tab, (hO26.readsI 1 rfl).congr (two2 rfl rfl)⟩) (fun e28 w29 hp30 => ?_)
 obtain ⟨oa, l, rfl, hO1, hB⟩ := hp30
 refine ⟨_, rfl, ?_⟩
 have hO31 := hO26.join hO1
 refine rl_v rfl rfl rfl (ov_move rfl rfl) <| rl_v rfl rfl rfl (ov_extract rfl rfl (by rfl)) ?_
 refine rl_v rfl rfl rfl (ov_extract rfl rfl (by rfl)) ?_
 refine rl_v rfl rfl rfl (ov_assign rfl rfl) <| rl_v rfl rfl rfl (ov_assign rfl rfl) <| rl_nil <| run_seq <| run_region <| rl_v rfl rfl rfl (ov_loadW rfl Tryz.underlying27 rfl (by kernel_rfl) rfl hO31 1 rfl) ?_
 refine rl_call callable_12 rfl rfl rfl rfl rfl rfl (brewers_any (some ⟨gb, 0, none⟩) (some ⟨bb, 0, none⟩) (some ⟨qb, 0, none⟩) 2 2 2 exF _ exF_valid ⟨(itab2 hO31 6 8 7 rfl rfl rfl rfl rfl (two2 rfl rfl) (two2 rfl rfl)).tab, (itab2 hO31 3 5 4 rfl rfl rfl rfl rfl (two2 rfl rfl) (two2 rfl rfl)).tab, (hO31.readsI 2 rfl).congr (two2 rfl rfl)⟩) (fun e32 w33 hp34 => ?_)
 obtain ⟨oc, l2, nb, rfl, hO2, hA, hD⟩ := hp34
 refine ⟨_, rfl, ?_⟩
 have hO35 := hO31.join hO2
 refine rl_v rfl rfl rfl (ov_move rfl rfl) <| rl_v rfl rfl rfl (ov_extract rfl rfl (by rfl)) ?_
 refine rl_v rfl rfl rfl (ov_extract rfl rfl (by rfl)) ?_
 refine rl_v rfl rfl rfl (ov_assign rfl rfl) <| rl_v rfl rfl rfl (ov_assign rfl rfl) <| rl_nil <| run_seq <| run_region <| rl_ow rfl (ow_one rfl rfl rfl Tryz.underlying23 info_3 rfl hO35 rfl rfl) ?_
 rintro _ w36 ⟨s1, rfl, hO37, hs38⟩
 refine rl_ow rfl (ow_one rfl rfl rfl Tryz.underlying23 info_3 rfl hO37 rfl rfl) ?_
 rintro _ w39 ⟨s2, rfl, hO40, hs41⟩
 refine rl_ow rfl (ow_build1 [_, _] rfl rfl rfl rfl rfl Tryz.underlying22 info_23 (by decide) hO40 rfl rfl) ?_
 rintro _ w42 ⟨sb, rfl, hO43, hs44⟩
 refine rl_v rfl rfl rfl (ov_buildL rfl lay_63 rfl (us := [_]) rfl) ?_
 refine rl_call callable_46 rfl rfl rfl rfl rfl rfl (core_any hSort (some ⟨sb, 0, none⟩) 2 2 (fun _ => 1) (fun i _ => 1 - i) _ (by decide) exW_swap (itab2 hO43 0 2 1 rfl rfl rfl rfl rfl (fun _ _ _ => rfl) (fun _ _ _ => rfl))) (fun e45 w46 hp47 => ?_)
 obtain ⟨od, o, t, rfl, hO3, hC⟩ := hp47
 refine ⟨_, rfl, ?_⟩
 have hO48 := hO43.join hO3
 refine rl_v rfl rfl rfl (ov_move rfl rfl) <| rl_v rfl rfl rfl (ov_extract rfl rfl (by rfl)) ?_
 refine rl_v rfl rfl rfl (ov_extract rfl rfl (by rfl)) ?_
 refine rl_v rfl rfl rfl (ov_assign rfl rfl) <| rl_v rfl rfl rfl (ov_assign rfl rfl) <| rl_nil <| run_seq <| run_region <| rl_v rfl rfl rfl (ov_move rfl rfl) <| rl_v rfl rfl rfl (ov_eql rfl rfl rfl) <| rl_v rfl rfl rfl (ov_move rfl rfl) <| rl_known 36 rfl (rfl) <| rl_gv rfl rfl rfl rfl rfl (ov_move rfl rfl) <| rl_gv rfl rfl rfl rfl rfl (ov_eql rfl rfl rfl) <| rl_v rfl rfl rfl (ov_pick_t rfl rfl rfl) <| rl_v rfl rfl rfl (ov_move rfl rfl) <| rl_known 40 rfl (rfl) <| rl_gv rfl rfl rfl rfl rfl (ov_move rfl rfl) <| rl_gv rfl rfl rfl rfl rfl (ov_eql rfl rfl rfl) <| rl_v rfl rfl rfl (ov_pick_t rfl rfl rfl) <| rl_v rfl rfl rfl (ov_move rfl rfl) <| rl_known 44 rfl (rfl) <| rl_gv rfl rfl rfl rfl rfl (ov_move rfl rfl) <| rl_gow rfl rfl rfl (ow_build1 [_, _] rfl rfl rfl rfl rfl Tryz.underlying23 info_3 (by decide) hO48 rfl rfl) ?_
 rintro _ w49 ⟨x1, rfl, hO50, hs51⟩
 refine rl_gcall callable_17 rfl rfl rfl rfl rfl rfl rfl rfl (ints5_any (some ⟨oa, 0, none⟩) (some ⟨x1, 0, none⟩) 2 2 2 2 l (fun i => i) _ (by decide) (hO50.readsI 6 rfl) ((hO50.readsI 0 rfl).congr (two2 rfl rfl))) (fun e52 w53 hp54 => ?_)
 obtain ⟨⟨y1, rfl, hy1⟩, hbl1⟩ := hp54
 refine ⟨_, rfl, ?_⟩
 have hO55 := hO50.past hbl1
 have hz1 : y1 = true := hy1.2 ⟨rfl, fun i i0 i1 => exF_best hB i i0 i1⟩
 subst hz1
 refine rl_v rfl rfl rfl (ov_pick_t rfl rfl rfl) <| rl_v rfl rfl rfl (ov_move rfl rfl) ?_
 first | refine rl_yesD 49 rfl (rfl) ?_ | refine rl_yes 49 rfl (rfl) ?_
 refine rl_gv rfl rfl rfl rfl rfl (ov_move rfl rfl) <| rl_gow rfl rfl rfl (ow_build1 [_, _] rfl rfl rfl rfl rfl Tryz.underlying23 info_3 (by decide) hO55 rfl rfl) ?_
 rintro _ w56 ⟨x2, rfl, hO57, hs58⟩
 refine rl_gcall callable_17 rfl rfl rfl rfl rfl rfl rfl rfl (ints5_any (some ⟨oc, 0, none⟩) (some ⟨x2, 0, none⟩) 2 2 2 2 l2 (fun i => 1 - i) _ (by decide) (hO57.readsI 6 rfl) ((hO57.readsI 0 rfl).congr (two2 rfl rfl))) (fun e59 w60 hp61 => ?_)
 obtain ⟨⟨y2, rfl, hy2⟩, hbl2⟩ := hp61
 refine ⟨_, rfl, ?_⟩
 have hO62 := hO57.past hbl2
 have hz2 : y2 = true := hy2.2 ⟨rfl, fun i i0 i1 => exF_worst hA hD i i0 i1⟩
 subst hz2
 refine rl_v rfl rfl rfl (ov_pick_t rfl rfl rfl) <| rl_v rfl rfl rfl (ov_move rfl rfl) ?_
 first | refine rl_yesD 54 rfl (rfl) ?_ | refine rl_yes 54 rfl (rfl) ?_
 refine rl_gv rfl rfl rfl rfl rfl (ov_move rfl rfl) <| rl_gow rfl rfl rfl (ow_build1 [_, _] rfl rfl rfl rfl rfl Tryz.underlying23 info_3 (by decide) hO62 rfl rfl) ?_
 rintro _ w63 ⟨x3, rfl, hO64, hs65⟩
 refine rl_gcall callable_17 rfl rfl rfl rfl rfl rfl rfl rfl (ints5_any (some ⟨od, 0, none⟩) (some ⟨x3, 0, none⟩) 2 2 2 2 o (fun i => 1 - i) _ (by decide) (hO64.readsI 3 rfl) ((hO64.readsI 0 rfl).congr (two2 rfl rfl))) (fun e66 w67 hp68 => ?_)
 obtain ⟨⟨y3, rfl, hy3⟩, hbl3⟩ := hp68
 refine ⟨_, rfl, ?_⟩
 have hO69 := hO64.past hbl3
 have hz3 : y3 = true := hy3.2 ⟨rfl, fun i i0 i1 => exW_cert hC i i0 i1⟩
 subst hz3
 refine rl_v rfl rfl rfl (ov_pick_t rfl rfl rfl) <| rl_v rfl rfl rfl (ov_assign rfl rfl) <| rl_nil <| run_ret Tryz.func15 (res1 Tryz.results15 rfl) ?_
 exact ⟨rfl, hO69.below⟩
end Go.Proofs.YtlldeifbfpmbaaaGreat
