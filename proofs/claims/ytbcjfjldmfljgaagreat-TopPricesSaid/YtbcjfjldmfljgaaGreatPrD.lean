import Derived.Test.YtbcjfjldmfljgaaGreatPrC
import Derived.Test.YtbcjfjldmfljgaaGreatGaK
set_option maxRecDepth 100000
namespace Go.Proofs.YtbcjfjldmfljgaaGreat
open Go.RowKit Go.Proofs Go.MapKept
structure Zns where
 n : Nat
 f : Int → Int
 t : Int → Int
 d : Int → Int
 s : Int → Int
def znF (z : Zns) : Int → List Value := fun i => [iv (z.f i), iv (z.t i), iv (z.d i), iv (z.s i)]
def Zns.sel (z : Zns) (m : Nat) (I : Int → Int) : Zns := ⟨m, fun k => z.f (I k), fun k => z.t (I k), fun k => z.d (I k), fun k => z.s (I k)⟩
structure Zns.Sm (z : Zns) : Prop where
 f : ∀ i : Int, 0 ≤ i → i < z.n → 0 ≤ z.f i ∧ z.f i ≤ 1000000000
 t : ∀ i : Int, 0 ≤ i → i < z.n → 0 ≤ z.t i ∧ z.t i ≤ 1000000000
 d : ∀ i : Int, 0 ≤ i → i < z.n → 0 ≤ z.d i ∧ z.d i ≤ 1000000000
 s : ∀ i : Int, 0 ≤ i → i < z.n → 0 ≤ z.s i ∧ z.s i ≤ 1000000000
theorem Zns.Sm.sel {z : Zns} (h : z.Sm) {m : Nat} {I : Int → Int} (hr : ∀ k : Int, 0 ≤ k → k < m → 0 ≤ I k ∧ I k < z.n) : (z.sel m I).Sm :=
 ⟨fun k k0 k1 => h.f _ (hr k k0 k1).1 (hr k k0 k1).2, fun k k0 k1 => h.t _ (hr k k0 k1).1 (hr k k0 k1).2, fun k k0 k1 => h.d _ (hr k k0 k1).1 (hr k k0 k1).2, fun k k0 k1 => h.s _ (hr k k0 k1).1 (hr k k0 k1).2⟩
theorem volume_any (z : Zns) (i : Int) (w : World) : Calls Tryz.prog 37 #[.agg (znF z i).toArray] w fun e w' => e = .returned (iv (min (z.d i) (z.s i))) ∧ Own w.heap.size w w' [] := by
 refine calls_of_run (F := [(0, _)]) Tryz.func37 rfl Tryz.ntmps37 rfl rfl ?_
 have hO0 := Own.init w
 refine run_seq <| run_region <| rl_ow rfl (ow_box _ rfl rfl rfl rfl rfl hO0) ?_
 rintro _ w1 ⟨b1, rfl, hO2, hs3⟩
 have hOb : Own w.heap.size w w1 [some (lch b1 69 (znF z i))] := hO2
 refine rl_v rfl rfl rfl (ov_assign rfl rfl) <| rl_nil <| run_seq <| run_region <| rl_v rfl rfl rfl (ov_fieldS rfl Tryz.underlying69 rfl (fo := 2) rfl (by kernel_rfl) rfl) ?_
 refine rl_v rfl rfl rfl (ov_load rfl Tryz.underlying2 rfl rfl (by exact hOb.cellL 0 rfl (off := 2) rfl)) ?_
 refine rl_v rfl rfl rfl (ov_fieldS rfl Tryz.underlying69 rfl (fo := 3) rfl (by kernel_rfl) rfl) ?_
 refine rl_v rfl rfl rfl (ov_load rfl Tryz.underlying2 rfl rfl (by exact hOb.cellL 0 rfl (off := 3) rfl)) ?_
 refine rl_v rfl rfl rfl (ov_min rfl rfl rfl) <| rl_v rfl rfl rfl (ov_assign rfl rfl) <| rl_nil <| run_ret Tryz.func37 (res1 Tryz.results37 rfl) ?_
 exact ⟨rfl, hOb.tail⟩
theorem surplus_any (z : Zns) (hz : z.Sm) (i : Int) (i0 : 0 ≤ i) (i1 : i < z.n) (w : World) : Calls Tryz.prog 40 #[.agg (znF z i).toArray] w fun e w' => e = .returned (iv (z.d i - z.s i)) ∧ Own w.heap.size w w' [] := by
 have h1 := hz.d i i0 i1
 have h2 := hz.s i i0 i1
 refine calls_of_run (F := [(0, _)]) Tryz.func40 rfl Tryz.ntmps40 rfl rfl ?_
 have hO0 := Own.init w
 refine run_seq <| run_region <| rl_ow rfl (ow_box _ rfl rfl rfl rfl rfl hO0) ?_
 rintro _ w1 ⟨b1, rfl, hO2, hs3⟩
 have hOb : Own w.heap.size w w1 [some (lch b1 69 (znF z i))] := hO2
 refine rl_v rfl rfl rfl (ov_assign rfl rfl) <| rl_nil <| run_seq <| run_region <| rl_v rfl rfl rfl (ov_fieldS rfl Tryz.underlying69 rfl (fo := 2) rfl (by kernel_rfl) rfl) ?_
 refine rl_v rfl rfl rfl (ov_load rfl Tryz.underlying2 rfl rfl (by exact hOb.cellL 0 rfl (off := 2) rfl)) ?_
 refine rl_v rfl rfl rfl (ov_fieldS rfl Tryz.underlying69 rfl (fo := 3) rfl (by kernel_rfl) rfl) ?_
 refine rl_v rfl rfl rfl (ov_load rfl Tryz.underlying2 rfl rfl (by exact hOb.cellL 0 rfl (off := 3) rfl)) ?_
 refine rl_v rfl rfl rfl (ov_sub rfl rfl rfl (by omega)) ?_
 refine rl_v rfl rfl rfl (ov_assign rfl rfl) <| rl_nil <| run_ret Tryz.func40 (res1 Tryz.results40 rfl) ?_
 exact ⟨rfl, hOb.tail⟩
theorem sized_any (x : Int) (hx : -1000000000 ≤ x ∧ x ≤ 1000000000) (w : World) : Calls Tryz.prog 39 #[iv x] w fun e w' => e = .returned (iv (max x (-x))) ∧ Own w.heap.size w w' [] := by
 refine calls_of_run (F := [(0, _)]) Tryz.func39 rfl Tryz.ntmps39 rfl rfl ?_
 have hO0 := Own.init w
 refine run_seq <| run_region <| rl_v rfl rfl rfl (ov_assign rfl rfl) <| rl_nil <| run_seq <| run_region <| rl_v rfl rfl rfl (ov_move rfl rfl) <| rl_v rfl rfl rfl (ov_move rfl rfl) <| rl_v rfl rfl rfl (ov_neg rfl rfl (by omega)) ?_
 refine rl_v rfl rfl rfl (ov_max rfl rfl rfl) <| rl_v rfl rfl rfl (ov_assign rfl rfl) <| rl_nil <| run_ret Tryz.func39 (res1 Tryz.results39 rfl) ?_
 exact ⟨rfl, hO0⟩
def pckZ (z : Zns) (i way r : Int) : Int := if way = 1 then z.t i else if way = -1 then z.f i else min (max r (z.f i)) (z.t i)
theorem pickZ_any (z : Zns) (i way r : Int) (w : World) : Calls Tryz.prog 43 #[.agg (znF z i).toArray, iv way, iv r] w fun e w' => e = .returned (iv (pckZ z i way r)) ∧ Own w.heap.size w w' [] := by
 refine calls_of_run (F := [(0, _), (1, _), (2, _)]) Tryz.func43 rfl Tryz.ntmps43 rfl rfl ?_
 have hO0 := Own.init w
 refine run_seq <| run_region <| rl_ow rfl (ow_box _ rfl rfl rfl rfl rfl hO0) ?_
 rintro _ w1 ⟨b3, rfl, hO2, hs3⟩
 have hOb : Own w.heap.size w w1 [some (lch b3 69 (znF z i))] := hO2
 refine rl_v rfl rfl rfl (ov_assign rfl rfl) <| rl_nil <| run_seq <| run_seq <| run_region <| rl_v rfl rfl rfl (ov_move rfl rfl) <| rl_nil <| run_block <| run_seq <| run_region <| rl_v rfl rfl rfl (ov_eql rfl rfl rfl) <| rl_v rfl rfl rfl (ov_assign rfl rfl) <| rl_nil ?_
 first | refine run_cond_dec rfl (fun c1 => ?_) (fun c1 => ?_) | refine run_cond rfl (fun c1 => ?_) (fun c1 => ?_)
 ·refine run_seq <| run_region <| rl_v rfl rfl rfl (ov_fieldS rfl Tryz.underlying69 rfl (fo := 1) rfl (by kernel_rfl) rfl) ?_
  refine rl_v rfl rfl rfl (ov_load rfl Tryz.underlying2 rfl rfl (by exact hOb.cellL 0 rfl (off := 1) rfl)) ?_
  refine rl_v rfl rfl rfl (ov_assign rfl rfl) <| rl_nil <| run_ret Tryz.func43 (res1 Tryz.results43 rfl) ?_
  exact ⟨by unfold pckZ; rw [if_pos c1], hOb.tail⟩
 ·refine run_seq <| run_region <| rl_v rfl rfl rfl (ov_eql rfl rfl rfl) <| rl_v rfl rfl rfl (ov_assign rfl rfl) <| rl_nil ?_
  first | refine run_cond_dec rfl (fun c2 => ?_) (fun c2 => ?_) | refine run_cond rfl (fun c2 => ?_) (fun c2 => ?_)
  ·refine run_seq <| run_region <| rl_v rfl rfl rfl (ov_fieldS rfl Tryz.underlying69 rfl (fo := 0) rfl (by kernel_rfl) rfl) ?_
   refine rl_v rfl rfl rfl (ov_load rfl Tryz.underlying2 rfl rfl (by exact hOb.cellL 0 rfl (off := 0) rfl)) ?_
   refine rl_v rfl rfl rfl (ov_assign rfl rfl) <| rl_nil <| run_ret Tryz.func43 (res1 Tryz.results43 rfl) ?_
   exact ⟨by unfold pckZ; rw [if_neg c1, if_pos c2], hOb.tail⟩
  ·refine run_skip <| run_inBlock <| run_seq <| run_region <| rl_v rfl rfl rfl (ov_move rfl rfl) <| rl_v rfl rfl rfl (ov_fieldS rfl Tryz.underlying69 rfl (fo := 0) rfl (by kernel_rfl) rfl) ?_
   refine rl_v rfl rfl rfl (ov_load rfl Tryz.underlying2 rfl rfl (by exact hOb.cellL 0 rfl (off := 0) rfl)) ?_
   refine rl_v rfl rfl rfl (ov_max rfl rfl rfl) <| rl_v rfl rfl rfl (ov_fieldS rfl Tryz.underlying69 rfl (fo := 1) rfl (by kernel_rfl) rfl) ?_
   refine rl_v rfl rfl rfl (ov_load rfl Tryz.underlying2 rfl rfl (by exact hOb.cellL 0 rfl (off := 1) rfl)) ?_
   refine rl_v rfl rfl rfl (ov_min rfl rfl rfl) <| rl_v rfl rfl rfl (ov_assign rfl rfl) <| rl_nil <| run_ret Tryz.func43 (res1 Tryz.results43 rfl) ?_
   exact ⟨by unfold pckZ; rw [if_neg c1, if_neg c2], hOb.tail⟩
theorem price1_any (z : Zns) (hz : z.Sm) (i : Int) (i0 : 0 ≤ i) (i1 : i < z.n) (w : World) : Calls Tryz.prog 36 (#[.agg (znF z i).toArray] ++ #[]) w fun e w' => e = .returned (iv (-(min (z.d i) (z.s i)))) ∧ Own w.heap.size w w' [] := by
 have h1 := hz.d i i0 i1
 have h2 := hz.s i i0 i1
 refine calls_of_run (F := [(0, _)]) Tryz.func36 rfl Tryz.ntmps36 rfl rfl ?_
 have hO0 := Own.init w
 refine run_seq <| run_region <| rl_ow rfl (ow_box _ rfl rfl rfl rfl rfl hO0) ?_
 rintro _ w1 ⟨b1, rfl, hO2, hs3⟩
 have hOb : Own w.heap.size w w1 [some (lch b1 69 (znF z i))] := hO2
 refine rl_v rfl rfl rfl (ov_assign rfl rfl) <| rl_nil <| run_seq <| run_region <| rl_v rfl rfl rfl (ov_loadW rfl Tryz.underlying69 rfl (by kernel_rfl) rfl hOb 0 rfl) ?_
 refine rl_call callable_37 rfl rfl rfl rfl rfl rfl (volume_any z i _) (fun e4 w5 hp6 => ?_)
 obtain ⟨rfl, hOa⟩ := hp6
 refine ⟨_, rfl, ?_⟩
 have hO7 := hOb.join hOa
 refine rl_v rfl rfl rfl (ov_neg rfl rfl (by omega)) ?_
 refine rl_v rfl rfl rfl (ov_assign rfl rfl) <| rl_nil <| run_ret Tryz.func36 (res1 Tryz.results36 rfl) ?_
 exact ⟨rfl, hO7.sub (List.nil_sublist _)⟩
theorem price2_any (z : Zns) (hz : z.Sm) (i : Int) (i0 : 0 ≤ i) (i1 : i < z.n) (w : World) : Calls Tryz.prog 38 (#[.agg (znF z i).toArray] ++ #[]) w fun e w' => e = .returned (iv (max (z.d i - z.s i) (-(z.d i - z.s i)))) ∧ Own w.heap.size w w' [] := by
 have h1 := hz.d i i0 i1
 have h2 := hz.s i i0 i1
 refine calls_of_run (F := [(0, _)]) Tryz.func38 rfl Tryz.ntmps38 rfl rfl ?_
 have hO0 := Own.init w
 refine run_seq <| run_region <| rl_ow rfl (ow_box _ rfl rfl rfl rfl rfl hO0) ?_
 rintro _ w1 ⟨b1, rfl, hO2, hs3⟩
 have hOb : Own w.heap.size w w1 [some (lch b1 69 (znF z i))] := hO2
 refine rl_v rfl rfl rfl (ov_assign rfl rfl) <| rl_nil <| run_seq <| run_region <| rl_v rfl rfl rfl (ov_loadW rfl Tryz.underlying69 rfl (by kernel_rfl) rfl hOb 0 rfl) ?_
 refine rl_call callable_40 rfl rfl rfl rfl rfl rfl (surplus_any z hz i i0 i1 _) (fun e4 w5 hp6 => ?_)
 obtain ⟨rfl, hOa⟩ := hp6
 refine ⟨_, rfl, ?_⟩
 have hO7 := hOb.join hOa
 refine rl_call callable_39 rfl rfl rfl rfl rfl rfl (sized_any (z.d i - z.s i) (by omega) _) (fun e8 w9 hp10 => ?_)
 obtain ⟨rfl, hOc⟩ := hp10
 refine ⟨_, rfl, ?_⟩
 have hO11 := hO7.join hOc
 refine rl_v rfl rfl rfl (ov_assign rfl rfl) <| rl_nil <| run_ret Tryz.func38 (res1 Tryz.results38 rfl) ?_
 exact ⟨rfl, hO11.sub (List.nil_sublist _)⟩
theorem cloneZ_any (ao : Option Addr) (n c : Nat) (z : Zns) (w : World) (hn : n ≤ 100000) (h : SAt w.heap.size w ao 4 n (znF z)) :
  Calls Tryz.prog 70 #[.slice ao n c] w fun e w' => ∃ v c', e = .returned v ∧ SRow v 69 4 n (znF z) c' ∧ Own w.heap.size w w' [c'] := by
 obtain ⟨gb, go, hga, hrow⟩ := h.open (by decide)
 refine calls_of_run (F := [(0, _)]) Tryz.func70 rfl Tryz.ntmps70 rfl rfl ?_
 have hO0 := Own.init w
 refine run_seq <| run_region <| rl_v rfl rfl rfl (ov_assign rfl rfl) <| rl_nil <| run_seq <| run_seq <| run_region <| rl_v rfl rfl rfl (ov_move rfl rfl) <| rl_v rfl rfl rfl (ov_isnil rfl Tryz.underlying66 rfl) <| rl_nil ?_
 first | refine run_cond_dec rfl (fun g1 => ?_) (fun g1n => ?_) | refine run_cond rfl (fun g1 => ?_) (fun g1n => ?_)
 ·have hm0 : n = 0 := by
   rcases Nat.eq_zero_or_pos n with h | h
   ·exact h
   ·rw [hga h] at g1
    exact absurd g1 Bool.noConfusion
  subst hm0
  refine run_seq <| run_region <| rl_v rfl rfl rfl (ov_assign rfl rfl) <| rl_nil <| run_ret Tryz.func70 (res1 Tryz.results70 rfl) ?_
  exact ⟨_, none, rfl, SRow.nil _ _ _, hO0.nil_cons⟩
 ·refine run_skip <| run_seq <| run_region <| rl_ow rfl (ow_empty rfl rfl rfl Tryz.underlying66 info_69 hO0) ?_
  rintro _ w1 ⟨v5, c5, rfl, hO2, hR5, hs3⟩
  refine rl_v rfl rfl rfl (ov_move rfl rfl) <| rl_ow rfl (ow_appSR (G := fun _ => []) rfl rfl rfl Tryz.underlying66 info_69 rfl rfl hO2 0 (hR5 _) rfl rfl rfl (hO2.satU h) (fun _ _ _ => ⟨rfl, rfl⟩) ⟨by omega, by omega⟩) ?_
  rintro _ w4 ⟨v7, c7, rfl, hO5, hr7, hs6⟩
  refine rl_v rfl rfl rfl (ov_assign rfl rfl) <| rl_nil <| run_ret Tryz.func70 (res1 Tryz.results70 rfl) ?_
  exact ⟨v7, c7, rfl, by rw [Nat.zero_add] at hr7; exact hr7.congr fun i h0 h1 => by unfold joinF; rw [if_neg (by omega)]; exact congrArg (fun j => znF z j) (by omega), hO5⟩
def DelZ (dg : Nat) (caps : Array Value) (z : Zns) (D : Int → Bool) (B : Nat) (w0 : World) (H : List (Option Blk)) : Prop :=
 ∀ (i : Int) (c : Option Blk) (w : World), 0 ≤ i → i < z.n → Own B w0 w (c :: H) → Calls Tryz.prog dg (#[.agg (znF z i).toArray] ++ caps) w fun e w' => e = .returned (.bool (D i)) ∧ Own w.heap.size w w' []
theorem indexZ_any (dg : Nat) (hcl : Callable Tryz.prog dg) (caps : Array Value) (z : Zns) (D : Int → Bool) (B : Nat) (w0 w : World) (H : List (Option Blk)) (c : Option Blk) (va : Option Addr) (vc : Nat) (hn : z.n ≤ 1000) (hD : DelZ dg caps z D B w0 H) (hr : SRow (.slice va z.n vc) 69 4 z.n (znF z) c) (hO : Own B w0 w (c :: H)) :
  Calls Tryz.prog 86 #[.slice va z.n vc, .func (.func dg) #[] caps] w fun e w' => ∃ r : Int, e = .returned (iv r) ∧ ((r = -1 ∧ ∀ i : Int, 0 ≤ i → i < z.n → D i = false) ∨ ((0 ≤ r ∧ r < z.n) ∧ D r = true ∧ ∀ i : Int, 0 ≤ i → i < r → D i = false)) ∧ Own B w0 w' (c :: H) := by
 obtain ⟨vb, hvb⟩ := hr.addr
 refine calls_of_run (F := [(0, _), (1, _)]) Tryz.func86 rfl Tryz.ntmps86 rfl rfl <| run_seq <| run_region <| rl_v rfl rfl rfl (ov_assign rfl rfl) <| rl_nil <| run_seq <| run_seq <| run_region <| rl_v rfl rfl rfl (ov_move rfl rfl) <| rl_v rfl rfl rfl (ov_len rfl Tryz.underlying66 rfl) <| rl_v rfl rfl rfl (ov_move rfl rfl) <| rl_nil <| run_block <| Run.keep [0, 1, 7, 8] (F' := [(0, _), (1, _), (7, _), (8, _)]) rfl <| run_loop1 (fun (i : Nat) => [(8, .int .i64 (i : Int))]) [0, 1, 7] (fun (i : Nat) (w1 : World) => i ≤ z.n ∧ (∀ j : Int, 0 ≤ j → j < i → D j = false) ∧ Own B w0 w1 (c :: H)) (fun (i : Nat) => z.n - i) (0) ?_ (And.intro (by exact slot_int rfl (by first | omega)) (And.intro rfl (And.intro rfl (And.intro rfl trivial)))) ?_
 ·exact ⟨Nat.zero_le _, fun j a b => by omega, hO⟩
 intro i w1 hIw1 ih2
 obtain ⟨hi, hs, hO1⟩ := hIw1
 show Run _ _ _ _ [(8, _), (0, _), (1, _), (7, _)] _ _
 refine run_seq <| run_region <| rl_v rfl rfl rfl (ov_lss rfl rfl rfl) <| rl_nil <| run_seq ?_
 first | refine run_cond_dec rfl (fun c1 => ?_) (fun c1 => ?_) | refine run_cond rfl (fun c1 => ?_) (fun c1 => ?_)
 ·refine run_skip <| run_seq <| run_block <| run_seq <| run_region <| rl_v rfl rfl rfl (ov_move rfl rfl) <| rl_v rfl rfl rfl (ov_assign rfl rfl) <| rl_nil <| run_seq <| run_region <| rl_v rfl rfl rfl (ov_move rfl rfl) <| rl_v rfl rfl rfl (ov_move rfl rfl) <| rl_v rfl rfl rfl (ov_move rfl rfl) <| rl_v rfl rfl rfl (ov_index rfl Tryz.underlying66 (by kernel_rfl) (s := 4) rfl rfl ⟨by omega, by omega⟩ (by exact hvb (by omega))) ?_
  refine rl_v rfl rfl rfl (ov_loadE rfl Tryz.underlying69 rfl (by kernel_rfl) rfl ⟨by omega, by omega⟩ rfl ((hr.cellU hO1 0 rfl (hvb (by omega))))) ?_
  refine rl_call hcl rfl rfl rfl rfl rfl rfl (hD i c _ (by omega) c1 hO1) (fun e3 w4 hp5 => ?_)
  obtain ⟨rfl, hOa⟩ := hp5
  refine ⟨_, rfl, ?_⟩
  have hO6 := hO1.join hOa
  refine rl_nil ?_
  first | refine run_cond_dec rfl (fun c2 => ?_) (fun c2 => ?_) | refine run_cond rfl (fun c2 => ?_) (fun c2 => ?_)
  ·refine run_seq <| run_region <| rl_v rfl rfl rfl (ov_move rfl rfl) <| rl_v rfl rfl rfl (ov_assign rfl rfl) <| rl_nil <| run_ret Tryz.func86 (res1 Tryz.results86 rfl) ?_
   exact ⟨i, rfl, .inr ⟨⟨by omega, c1⟩, c2, hs⟩, hO6⟩
  ·refine run_skip <| run_inBlock <| run_region <| rl_v rfl rfl rfl (ov_add rfl rfl rfl (by omega)) ?_
   refine rl_v rfl rfl rfl (ov_move rfl rfl) <| rl_nil ?_
   refine Run.use (ih2 (i + 1) _ ?_ ?_) (And.intro (by exact slot_int rfl (by first | omega)) (And.intro rfl (And.intro rfl (And.intro rfl trivial))))
   ·first | omega | (dsimp only; omega)
   ·exact ⟨by omega, fun j j0 j1 => by by_cases e : j = i; (rw [e]; exact c2); (exact hs j j0 (by omega)), hO6⟩
 ·refine run_exit rfl <| run_seq <| run_region <| rl_v rfl rfl rfl (ov_assign rfl rfl) <| rl_nil <| run_ret Tryz.func86 (res1 Tryz.results86 rfl) ?_
  exact ⟨-1, rfl, .inl ⟨rfl, fun j j0 j1 => hs j j0 (by omega)⟩, hO1⟩
end Go.Proofs.YtbcjfjldmfljgaaGreat
