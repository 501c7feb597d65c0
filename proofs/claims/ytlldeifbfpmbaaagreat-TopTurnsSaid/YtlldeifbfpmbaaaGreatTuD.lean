import Derived.Test.YtlldeifbfpmbaaaGreatEff
import Derived.Test.YtlldeifbfpmbaaaGreatFcA
import Derived.Test.YtlldeifbfpmbaaaGreatFgC
import Derived.Test.YtlldeifbfpmbaaaGreatFoT
set_option maxRecDepth 100000
namespace Go.Proofs.YtlldeifbfpmbaaaGreat
open Go.RowKit Go.Proofs Go.MapKept
def fairL3 (ga ba qa : Option Addr) (n gc bc qc : Nat) : List Value := [.slice ga n gc, .slice ba n bc, .slice qa n qc]
def tF (N t : Nat) (L : Int → Nat) (E : Int → Int → Int) (τ : Int → Int) : Fair := ⟨N, N, L, E, fun _ => t, fun _ => τ, fun _ => 1⟩
theorem tF_valid {N t : Nat} {L : Int → Nat} {E : Int → Int → Int} {τ : Int → Int} (hN : N ≤ 8) (hL : ∀ r : Int, 0 ≤ r → r < N → IsL (L r) (E r) N ∧ L r ≤ 12) (ht : IsL t τ N) (ht2 : t ≤ 12) : Valid5 (tF N t L E τ) N :=
 ⟨⟨fun g k g0 g1 k0 k1 => (hL g g0 g1).1.1 k k0 k1, fun g g0 g1 => (hL g g0 g1).1.2, fun b k _ _ k0 k1 => ht.1 k k0 k1, fun b _ _ => ht.2, fun _ _ _ => by show (0 : Int) ≤ 1; decide⟩,
  ⟨by show N ≤ 64; omega, by show N ≤ 64; omega, fun g g0 g1 => by have := (hL g g0 g1).2; show L g ≤ 64; omega, fun b _ _ => by show t ≤ 64; omega, fun b _ _ => by show (0 : Int) ≤ 1 ∧ (1 : Int) ≤ 64; decide⟩, rfl⟩
section
variable {g1 b1 q1 : Option Addr} {gc1 bc1 qc1 N t : Nat} {L : Int → Nat} {E : Int → Int → Int} {τ : Int → Int} (w : World)
theorem tGrow (hV : Valid5 (tF N t L E τ) N) (hF : FAg w.heap.size w g1 b1 q1 (tF N t L E τ) N) : Calls Tryz.prog 11 #[.agg (fairL3 g1 b1 q1 N gc1 bc1 qc1).toArray] w fun e w' => ∃ ob l, e = .returned (.tuple #[.slice (some ⟨ob, 0, none⟩) N N, iv 0]) ∧ Own w.heap.size w w' [some (vch ob 3 N (fun g => iv (l g)))] ∧ (tF N t L E τ).Best l :=
 growers_any g1 b1 q1 gc1 bc1 qc1 (tF N t L E τ) w hV hF
theorem tBrew (hV : Valid5 (tF N t L E τ) N) (hF : FAg w.heap.size w g1 b1 q1 (tF N t L E τ) N) : Calls Tryz.prog 12 #[.agg (fairL3 g1 b1 q1 N gc1 bc1 qc1).toArray] w fun e w' => ∃ ob l, e = .returned (.tuple #[.slice (some ⟨ob, 0, none⟩) N N, iv 0]) ∧ Own w.heap.size w w' [some (vch ob 3 N (fun g => iv (l g)))] ∧ (tF N t L E τ).Stab l :=
 (brewers_any g1 b1 q1 gc1 bc1 qc1 (tF N t L E τ) w hV hF).mono fun _ _ ⟨ob, l, nb, h1, h2, h3, h4⟩ => ⟨ob, l, h1, h2, h3.stab h4⟩
theorem tAll {l : Int → Int} (hV : Valid5 (tF N t L E τ) N) (hN : N ≤ 8) (hF : FAg w.heap.size w g1 b1 q1 (tF N t L E τ) N) (hR : RTab w.heap.size w b1 N (fun _ => t) (fun _ => τ)) (hA : (tF N t L E τ).AllS 1 (fun _ => l)) :
  Calls Tryz.prog 10 #[.agg (fairL3 g1 b1 q1 N gc1 bc1 qc1).toArray, iv 5] w fun e w' => ∃ (va : Option Addr) (vc : Nat) (H : List (Option Blk)), e = .returned (.tuple #[.slice va 1 vc, iv 0]) ∧ Own w.heap.size w w' H :=
 (allX_any g1 b1 q1 gc1 bc1 qc1 (tF N t L E τ) 5 w hV (by show N ≤ 12; omega) hF hR (by decide) (by decide)).mono fun _ _ ⟨va, vc, M, A, H, h1, h2, h3, h4⟩ => by
  rcases h4 with ⟨_, h5⟩ | ⟨h4, V, h5⟩
  ·have e : M = 1 := h5.len_eq hA
   subst e
   exact ⟨va, vc, H, h1, h3⟩
  ·have : M ≤ 1 := h5.len_le hA
   omega
end
set_option maxHeartbeats 8000000 in
theorem topTurns_any (ga la : Option Addr) (n gc ln lc : Nat) (GL : Int → Nat) (GE : Int → Int → Int) (l : Int → Int) (w : World)
  (hG : RTab w.heap.size w ga n GL GE) (hl : IAt w.heap.size w la ln (fun i => iv (l i))) :
  Calls Tryz.prog 7 #[.slice ga n gc, .slice la ln lc] w fun e w' => e = .returned (.bool true) ∧ Below w.heap.size w w' := by
 obtain ⟨A, C, hG1, hroom, hrow⟩ := hG
 obtain ⟨gb, go, hga, hgr⟩ := hG1.open
 obtain ⟨N, hN⟩ : ∃ N : Nat, (N : Int) = min (n : Int) 8 := ⟨min n 8, by omega⟩
 have hN8 : N ≤ 8 := by omega
 have hNn : N ≤ n := by omega
 refine calls_of_run (F := [(0, _), (1, _)]) Tryz.func7 rfl Tryz.ntmps7 rfl rfl ?_
 have hO0 := Own.init w
 refine run_seq <| run_region <| rl_v rfl rfl rfl (ov_assign rfl rfl) <| rl_nil <| run_seq <| run_region <| rl_v rfl rfl rfl (ov_move rfl rfl) <| rl_v rfl rfl rfl (ov_len rfl Tryz.underlying22 rfl) <| rl_v rfl rfl rfl (ov_min rfl rfl rfl) <| rl_v rfl rfl rfl (ov_assign rfl rfl) <| rl_nil <| run_seq ?_
 rw [← hN]
 refine run_region <| rl_v rfl rfl rfl (ov_move rfl rfl) <| rl_v rfl rfl rfl (ov_move rfl rfl) ?_
 refine rl_call callable_30 rfl rfl rfl rfl rfl rfl (list_any la ln lc N l _ (by omega) (hO0.iatF hl)) (fun e1 w2 hp3 => ?_)
 obtain ⟨vt, t, τ, ct, rfl, ht12, hIt, hrt, hOa⟩ := hp3
 refine ⟨_, rfl, ?_⟩
 have hO4 := hO0.join hOa
 obtain ⟨ta, tc, rfl⟩ := Row.val hrt
 refine rl_v rfl rfl rfl (ov_assign rfl rfl) <| rl_nil <| run_seq <| run_region <| rl_ow rfl (ow_alloc _ rfl rfl rfl zero_27 rfl hO4) ?_
 rintro _ w5 ⟨b7, rfl, hO6, hs7⟩
 have hOs : Own w.heap.size w w5 ([none] ++ [some (lch b7 27 (fairL3 none none none 0 0 0 0)), none, none, ct]) := hO6.nil_cons.nil_cons.nil_cons.perm (((List.perm_append_comm (l₁ := [none, none]) (l₂ := [_])).append_right [ct]).cons _)
 refine rl_nil <| run_seq <| run_seq <| run_region <| rl_v rfl rfl rfl (ov_assign rfl rfl) <| rl_nil <| run_block <| Run.keep [0, 5, 6, 7, 8] (F' := [(0, _), (5, _), (6, _), (7, _), (8, _)]) rfl <| run_loop1 (fun (i : Nat) => [(8, .int .i64 (i : Int))]) [0, 5, 6, 7] (fun (i : Nat) (w8 : World) => i ≤ N ∧ ∃ (L : Int → Nat) (E : Int → Int → Int) (Hg : List (Option Blk)) (cb cq : Option Blk) (g1 b1 q1 : Option Addr) (gc1 bc1 qc1 : Nat), OTab (.slice g1 i gc1) 23 3 i L (fun r c => iv (E r c)) Hg ∧ IRow (.slice b1 i bc1) 23 i (fun _ => .slice ta t tc) cb ∧ IRow (.slice q1 i qc1) 3 i (fun _ => iv 1) cq ∧ (∀ r : Int, 0 ≤ r → r < i → IsL (L r) (E r) N ∧ L r ≤ 12) ∧ Own w.heap.size w w8 (Hg ++ [some (lch b7 27 (fairL3 g1 b1 q1 i gc1 bc1 qc1)), cb, cq, ct])) (fun (i : Nat) => N - i) (0) ?_ (And.intro (by exact slot_int rfl (by first | omega)) (And.intro rfl (And.intro rfl (And.intro rfl (And.intro rfl trivial))))) ?_
 ·exact ⟨Nat.zero_le _, fun _ => 0, fun _ _ => 0, [none], none, none, none, none, none, 0, 0, 0, OTab.nil _ _ _ _, IRow.nil _ _, IRow.nil _ _, fun r a b => by omega, hOs⟩
 intro i w8 hIw8 ih9
 obtain ⟨hi, L, E, Hg, cb, cq, g1, b1, q1, gc1, bc1, qc1, hTg, hb, hq, hL, hO1⟩ := hIw8
 show Run _ _ _ _ [(8, _), (0, _), (5, _), (6, _), (7, _)] _ _
 obtain ⟨co, rv, ch, rfl, hv, h3⟩ := hTg
 have hOp := hO1.perm List.perm_append_comm
 refine run_seq <| run_seq <| run_region <| rl_v rfl rfl rfl (ov_move rfl rfl) <| rl_v rfl rfl rfl (ov_move rfl rfl) <| rl_v rfl rfl rfl (ov_lss rfl rfl rfl) <| rl_nil ?_
 first | refine run_cond_dec rfl (fun c1 => ?_) (fun c1 => ?_) | refine run_cond rfl (fun c1 => ?_) (fun c1 => ?_)
 ·refine run_skip <| run_seq <| run_block <| run_seq <| run_late (fun w' => Own w.heap.size w w' ([some (lch b7 27 (fairL3 g1 b1 q1 i gc1 bc1 qc1))])) 11 mixed ?_
  have hO11 := hOp.drew
  generalize World.drew w8 = w10 at hO11 ⊢
  have hS12 : Own w.heap.size w w10 ([some (lch b7 27 (fairL3 g1 b1 q1 i gc1 bc1 qc1))]) := by first | exact hO11.sub (.cons_cons _ (List.nil_sublist _)) | exact hO11.sub (.cons _ (.cons_cons _ (List.nil_sublist _))) | exact hO11.sub (.cons _ (.cons _ (.cons_cons _ (List.nil_sublist _))))
  refine rhl_v 0 rfl (by kernel_rfl) rfl rfl rfl hS12 (fun _ hS => ov_fieldS rfl Tryz.underlying27 rfl (fo := 0) rfl (by kernel_rfl) rfl) ?_
  refine rhl_v 1 rfl (by kernel_rfl) rfl rfl rfl hS12 (fun _ hS => ov_load rfl Tryz.underlying22 rfl rfl (by exact hS.cellL 0 rfl (off := 0) rfl)) ?_
  refine rhl_v 2 rfl (by kernel_rfl) rfl rfl rfl hS12 (fun _ hS => ov_move rfl rfl) ?_
  refine rhl_v 3 rfl (by kernel_rfl) rfl rfl rfl hS12 (fun _ hS => ov_move rfl rfl) ?_
  refine rhl_v 4 rfl (by kernel_rfl) rfl rfl rfl hS12 (fun _ hS => ov_index1 rfl Tryz.underlying22 (by kernel_rfl) rfl rfl ⟨by omega, by omega⟩ (by exact hga (by omega))) ?_
  refine rhl_v 5 rfl (by kernel_rfl) rfl rfl rfl hS12 (fun _ hS => ov_load rfl Tryz.underlying23 rfl rfl (by exact hgr _ hS.below i (by omega) (by omega))) ?_
  refine rhl_v 6 rfl (by kernel_rfl) rfl rfl rfl hS12 (fun _ hS => ov_move rfl rfl) ?_
  refine rhl_any1 7 (by kernel_rfl) ?_
  refine rcl_op rfl rfl (ow_call2 callable_30 rfl rfl rfl rfl rfl (list_any (A i) (GL i) (C i) N (GE i) _ (by omega) (hO11.iatF (hrow i (by omega) (by omega)))) (by intro e w' hp; obtain ⟨vr, kr, Er, cr, rfl, hk12, hIr, hrr, hOr⟩ := hp; exact ⟨_, rfl⟩)) ?_
  rintro _ w15 ⟨_, v13, he16, rfl, hp14⟩
  obtain ⟨vr, kr, Er, cr, rfl, hk12, hIr, hrr, hOr⟩ := hp14
  injection he16 with he16; subst he16
  have hO17 := hO11.join hOr
  have hS18 : Own w.heap.size w w15 ([some (lch b7 27 (fairL3 g1 b1 q1 i gc1 bc1 qc1))]) := by first | exact hO17.sub (.cons_cons _ (List.nil_sublist _)) | exact hO17.sub (.cons _ (.cons_cons _ (List.nil_sublist _))) | exact hO17.sub (.cons _ (.cons _ (.cons_cons _ (List.nil_sublist _))))
  refine ⟨hS18, ?_⟩
  obtain ⟨ra, rc, rfl⟩ := Row.val hrr
  refine rhl_any1 8 (by kernel_rfl) ?_
  refine rcl_op rfl rfl (ow_one rfl rfl rfl Tryz.underlying22 info_23 rfl hO17 rfl rfl) ?_
  rintro _ w19 ⟨b41, rfl, hO20, hs21⟩
  have hS22 : Own w.heap.size w w19 ([some (lch b7 27 (fairL3 g1 b1 q1 i gc1 bc1 qc1))]) := by first | exact hO20.sub (.cons_cons _ (List.nil_sublist _)) | exact hO20.sub (.cons _ (.cons_cons _ (List.nil_sublist _))) | exact hO20.sub (.cons _ (.cons _ (.cons_cons _ (List.nil_sublist _))))
  refine ⟨hS22, ?_⟩
  refine rhl_any1 9 (by kernel_rfl) ?_
  refine rcl_op rfl rfl (ow_app1 rfl rfl rfl Tryz.underlying22 info_23 rfl hO20 5 hv rfl rfl rfl rfl ⟨by omega, by omega⟩) ?_
  rintro _ w23 ⟨v42, c42, rfl, hO24, hv42, hs25⟩
  have hS26 : Own w.heap.size w w23 ([some (lch b7 27 (fairL3 g1 b1 q1 i gc1 bc1 qc1))]) := by first | exact hO24.sub (.cons_cons _ (List.nil_sublist _)) | exact hO24.sub (.cons _ (.cons_cons _ (List.nil_sublist _))) | exact hO24.sub (.cons _ (.cons _ (.cons_cons _ (List.nil_sublist _))))
  refine ⟨hS26, ?_⟩
  obtain ⟨a42, p42, rfl⟩ := Row.val hv42
  refine rhl_v 10 rfl (by kernel_rfl) rfl rfl rfl hS26 (fun _ hS => ov_fieldS rfl Tryz.underlying27 rfl (fo := 0) rfl (by kernel_rfl) rfl) ?_
  refine rhl_any1 11 (by kernel_rfl) ?_
  refine rcl_last rfl rfl (ow_storeL rfl rfl (by kernel_rfl) hO24 1 rfl rfl rfl rfl rfl) ?_
  rintro _ w27 ⟨rfl, hO28, hs29⟩
  refine rhl_done (by kernel_rfl) ?_
  refine run_seq <| run_region <| rl_v rfl rfl rfl (ov_fieldS rfl Tryz.underlying27 rfl (fo := 1) rfl (by kernel_rfl) rfl) ?_
  refine rl_v rfl rfl rfl (ov_load rfl Tryz.underlying22 rfl rfl (by exact hO28.cellL 1 rfl (off := 1) rfl)) ?_
  refine rl_v rfl rfl rfl (ov_move rfl rfl) <| rl_ow rfl (ow_one rfl rfl rfl Tryz.underlying22 info_23 rfl hO28 rfl rfl) ?_
  rintro _ w30 ⟨b47, rfl, hO31, hs32⟩
  refine rl_ow rfl (ow_app1 rfl rfl rfl Tryz.underlying22 info_23 rfl hO31 2 hb rfl rfl rfl rfl ⟨by omega, by omega⟩) ?_
  rintro _ w33 ⟨v48, c48, rfl, hO34, hb48, hs35⟩
  obtain ⟨a48, p48, rfl⟩ := Row.val hb48
  refine rl_v rfl rfl rfl (ov_fieldS rfl Tryz.underlying27 rfl (fo := 1) rfl (by kernel_rfl) rfl) ?_
  refine rl_ow rfl (ow_storeL rfl rfl (by kernel_rfl) hO34 1 rfl rfl rfl rfl rfl) ?_
  rintro _ w36 ⟨rfl, hO37, hs38⟩
  refine rl_nil <| run_region <| rl_v rfl rfl rfl (ov_fieldS rfl Tryz.underlying27 rfl (fo := 2) rfl (by kernel_rfl) rfl) ?_
  refine rl_v rfl rfl rfl (ov_load rfl Tryz.underlying23 rfl rfl (by exact hO37.cellL 1 rfl (off := 2) rfl)) ?_
  refine rl_ow rfl (ow_one rfl rfl rfl Tryz.underlying23 info_3 rfl hO37 rfl rfl) ?_
  rintro _ w39 ⟨b52, rfl, hO40, hs41⟩
  refine rl_ow rfl (ow_app1 rfl rfl rfl Tryz.underlying23 info_3 rfl hO40 3 hq rfl rfl rfl rfl ⟨by omega, by omega⟩) ?_
  rintro _ w42 ⟨v53, c53, rfl, hO43, hq53, hs44⟩
  obtain ⟨a53, p53, rfl⟩ := Row.val hq53
  refine rl_v rfl rfl rfl (ov_fieldS rfl Tryz.underlying27 rfl (fo := 2) rfl (by kernel_rfl) rfl) ?_
  refine rl_ow rfl (ow_storeL rfl rfl (by kernel_rfl) hO43 1 rfl rfl rfl rfl rfl) ?_
  rintro _ w45 ⟨rfl, hO46, hs47⟩
  have h3' : ∀ r : Nat, r < i → IRow (rv r) 3 (upd L i kr r) (fun c => iv (upd E i Er r c)) (ch r) := fun r hr => by
   rw [show upd E i Er (r : Int) = E r from upd_ne _ _ (by omega), upd_ne _ _ (show (r : Int) ≠ i by omega)]
   exact h3 r hr
  obtain ⟨H2, hT2, hO2⟩ := OTab.snoc (L := upd L i kr) (F := fun r c => iv (upd E i Er r c)) h3' hrr hv42 (hO46.perm ((List.perm_append_comm (l₁ := [_, _, _, _]) (l₂ := _ :: _)).cons _)) (upd_same ..) (fun c _ _ => by rw [upd_same])
  have hL2 : ∀ r : Int, 0 ≤ r → r < ((i + 1 : Nat) : Int) → IsL (upd L i kr r) (upd E i Er r) N ∧ upd L i kr r ≤ 12 := fun r r0 r1 => by
   by_cases z : r = i
   ·rw [z, upd_same, upd_same]; exact ⟨hIr, hk12⟩
   ·rw [upd_ne _ _ z, upd_ne _ _ z]; exact hL r r0 (by omega)
  refine rl_nil <| run_inBlock <| run_region <| rl_v rfl rfl rfl (ov_move rfl rfl) <| rl_v rfl rfl rfl (ov_add rfl rfl rfl (by omega)) ?_
  refine rl_v rfl rfl rfl (ov_assign rfl rfl) <| rl_nil ?_
  refine Run.use (ih9 (i + 1) _ ?_ ?_) (And.intro (by exact slot_int rfl (by first | omega)) (And.intro rfl (And.intro rfl (And.intro rfl (And.intro rfl trivial)))))
  ·first | omega | (dsimp only; omega)
  ·exact ⟨by omega, upd L i kr, upd E i Er, H2, c48, c53, a42, a48, a53, p42, p48, p53, hT2, hb48.congr (fun j _ _ => by unfold upd; split <;> rfl), hq53.congr (fun j _ _ => by unfold upd; split <;> rfl), hL2, hO2⟩
 ·have hiN : N = i := by omega
  subst hiN
  have hOA := hO1
  have hIg : ITab w8.heap.size w8 g1 N L (fun r c => iv (E r c)) := OTab.reads ⟨co, rv, ch, rfl, hv, h3⟩ hOA
  have hO4 := hOA.sub (List.sublist_append_right (co :: (List.range N).map ch) _)
  have hIb := hb.reads hO4 1 rfl
  have hIq := hq.reads hO4 2 rfl
  have hIτ := hrt.reads hO4 3 rfl
  have hLa := hO4.readsL 0 rfl
  have htc := hrt.capF
  have hF : FAg w8.heap.size w8 g1 b1 q1 (tF N t L E τ) N := ⟨hIg, ⟨fun _ => ta, fun _ => tc, hIb, fun _ _ _ => hIτ⟩, hIq⟩
  have hRb : RTab w8.heap.size w8 b1 N (fun _ => t) (fun _ => τ) := ⟨fun _ => ta, fun _ => tc, hIb, fun _ _ _ => htc, fun _ _ _ => hIτ⟩
  have hV := tF_valid (τ := τ) hN8 hL hIt ht12
  obtain ⟨Ag, Cg, RB, RO, gb1, go1, hga1, hrow1, hra1, hel1, _⟩ := hIg.open
  obtain ⟨tb, to, hta, htr⟩ := hIτ.open
  have hI0 := Own.init w8
  refine run_exit rfl <| run_seq <| run_region <| rl_v rfl rfl rfl (ov_loadN rfl Tryz.underlying27 rfl (by kernel_rfl) rfl ((hLa.range _ hI0.below))) ?_
  refine rl_call callable_11 rfl rfl rfl rfl rfl rfl (tGrow _ hV (hI0.fag hF)) (fun e48 w49 hp50 => ?_)
  obtain ⟨ob1, l1, rfl, hOb, hB1⟩ := hp50
  refine ⟨_, rfl, ?_⟩
  have hO51 := hI0.join hOb
  refine rl_v rfl rfl rfl (ov_move rfl rfl) <| rl_v rfl rfl rfl (ov_extract rfl rfl (by rfl)) ?_
  refine rl_v rfl rfl rfl (ov_extract rfl rfl (by rfl)) ?_
  refine rl_v rfl rfl rfl (ov_assign rfl rfl) <| rl_v rfl rfl rfl (ov_assign rfl rfl) <| rl_nil <| run_seq <| run_region <| rl_v rfl rfl rfl (ov_loadN rfl Tryz.underlying27 rfl (by kernel_rfl) rfl ((hLa.range _ hO51.below))) ?_
  refine rl_call callable_12 rfl rfl rfl rfl rfl rfl (tBrew _ hV (hO51.fag hF)) (fun e52 w53 hp54 => ?_)
  obtain ⟨ob2, l2, rfl, hOb, hB2⟩ := hp54
  refine ⟨_, rfl, ?_⟩
  have hO55 := hO51.join hOb
  refine rl_v rfl rfl rfl (ov_move rfl rfl) <| rl_v rfl rfl rfl (ov_extract rfl rfl (by rfl)) ?_
  refine rl_v rfl rfl rfl (ov_extract rfl rfl (by rfl)) ?_
  refine rl_v rfl rfl rfl (ov_assign rfl rfl) <| rl_v rfl rfl rfl (ov_assign rfl rfl) <| rl_nil <| run_seq <| run_seq <| run_region <| rl_v rfl rfl rfl (ov_move rfl rfl) <| rl_v rfl rfl rfl (ov_neq rfl rfl rfl) <| rl_v rfl rfl rfl (ov_move rfl rfl) ?_
  first | refine rl_noD 67 rfl ((fun h => h rfl)) ?_ | refine rl_no 67 rfl ((fun h => h rfl)) ?_
  refine rl_gv rfl rfl rfl rfl rfl (ov_move rfl rfl) <| rl_gv rfl rfl rfl rfl rfl (ov_neq rfl rfl rfl) <| rl_v rfl rfl rfl (ov_pick_f rfl rfl rfl) <| rl_nil ?_
  first | refine run_cond_dec rfl (fun c3 => ?_) (fun c3 => ?_) | refine run_cond rfl (fun c3 => ?_) (fun c3 => ?_)
  ·exfalso; exact c3 rfl
  ·refine run_skip <| run_seq <| run_region <| rl_v rfl rfl rfl (ov_move rfl rfl) ?_
   refine rl_make (N) rfl rfl rfl rfl Tryz.underlying23 info_3 rfl hO55 rfl rfl (by rfl) (by rfl) ⟨by omega, by omega⟩ (fun wb w56 hO57 hs58 => ?_)
   refine rl_v rfl rfl rfl (ov_assign rfl rfl) <| rl_nil <| run_seq <| run_region <| rl_v rfl rfl rfl (ov_move rfl rfl) ?_
   refine rl_make (N) rfl rfl rfl rfl Tryz.underlying75 info_4 rfl hO57 rfl rfl (by rfl) (by rfl) ⟨by omega, by omega⟩ (fun kb w59 hO60 hs61 => ?_)
   refine rl_v rfl rfl rfl (ov_assign rfl rfl) <| rl_nil <| run_seq <| run_seq <| run_region <| rl_v rfl rfl rfl (ov_assign rfl rfl) <| rl_nil <| run_block <| Run.keep [5, 6, 7, 9, 11, 13, 14, 15] (F' := [(5, _), (6, _), (7, _), (9, _), (11, _), (13, _), (14, _), (15, _)]) rfl <| run_loop1 (fun (j : Nat) => [(15, .int .i64 (j : Int))]) [5, 6, 7, 9, 11, 13, 14] (fun (j : Nat) (w62 : World) => j ≤ N ∧ Own w8.heap.size w8 w62 [some (vch kb 4 N (fun _ => .bool false)), some (vch wb 3 N (fun x => iv (if x < j then -1 else 0))), some (vch ob2 3 N (fun g => iv (l2 g))), some (vch ob1 3 N (fun g => iv (l1 g)))]) (fun (j : Nat) => N - j) (0) ?_ (And.intro (by exact slot_int rfl (by first | omega)) (And.intro rfl (And.intro rfl (And.intro rfl (And.intro rfl (And.intro rfl (And.intro rfl (And.intro rfl trivial)))))))) ?_
   ·exact ⟨Nat.zero_le _, hO60.congrI 1 rfl (G' := fun x => iv (if x < ((0 : Nat) : Int) then -1 else 0)) (fun x x0 _ => by rw [if_neg (by omega)])⟩
   intro j w62 hIw62 ih63
   obtain ⟨hj, hO2⟩ := hIw62
   show Run _ _ _ _ [(15, _), (5, _), (6, _), (7, _), (9, _), (11, _), (13, _), (14, _)] _ _
   refine run_seq <| run_seq <| run_region <| rl_v rfl rfl rfl (ov_move rfl rfl) <| rl_v rfl rfl rfl (ov_move rfl rfl) <| rl_v rfl rfl rfl (ov_lss rfl rfl rfl) <| rl_nil ?_
   first | refine run_cond_dec rfl (fun c4 => ?_) (fun c4 => ?_) | refine run_cond rfl (fun c4 => ?_) (fun c4 => ?_)
   ·refine run_skip <| run_seq <| run_block <| run_region <| rl_v rfl rfl rfl (ov_move rfl rfl) <| rl_v rfl rfl rfl (ov_move rfl rfl) <| rl_v rfl rfl rfl (ov_index1 rfl Tryz.underlying23 (by kernel_rfl) rfl rfl ⟨by omega, by omega⟩ rfl) ?_
    refine rl_ow rfl (ow_storeI rfl rfl (by kernel_rfl) hO2 1 rfl rfl ⟨by omega, by omega⟩ rfl) ?_
    rintro _ w64 ⟨rfl, hO65, hs66⟩
    have hOt := hO65.congrI 1 rfl (G' := fun x => iv (if x < ((j + 1 : Nat) : Int) then -1 else 0)) (fun x x0 x1 => by
     by_cases z : x = j
     ·rw [z, upd_same, if_pos (by omega)]
     ·rw [upd_ne _ _ z]
      by_cases y : x < j
      ·rw [if_pos y, if_pos (by omega)]
      ·rw [if_neg y, if_neg (by omega)])
    refine rl_nil <| run_inBlock <| run_region <| rl_v rfl rfl rfl (ov_move rfl rfl) <| rl_v rfl rfl rfl (ov_add rfl rfl rfl (by omega)) ?_
    refine rl_v rfl rfl rfl (ov_assign rfl rfl) <| rl_nil ?_
    refine Run.use (ih63 (j + 1) _ ?_ ?_) (And.intro (by exact slot_int rfl (by first | omega)) (And.intro rfl (And.intro rfl (And.intro rfl (And.intro rfl (And.intro rfl (And.intro rfl (And.intro rfl trivial))))))))
    ·first | omega | (dsimp only; omega)
    ·exact ⟨by omega, hOt⟩
   ·have hOt := hO2.congrI 1 rfl (G' := fun x => iv ((fun _ => (-1 : Int)) x)) (fun x x0 x1 => by rw [if_pos (by omega)])
    refine run_exit rfl <| run_seq <| run_seq <| run_region <| rl_v rfl rfl rfl (ov_assign rfl rfl) <| rl_nil <| run_block <| Run.keep [6, 7, 9, 11, 13, 14, 16] (F' := [(6, _), (7, _), (9, _), (11, _), (13, _), (14, _), (16, _)]) rfl <| run_loop1 (fun (k : Nat) => [(16, .int .i64 (k : Int))]) [6, 7, 9, 11, 13, 14] (fun (k : Nat) (w67 : World) => k ≤ t ∧ ∃ (want : Int → Int) (tk : Int → Bool), Turns (tF N t L E τ) τ k want ∧ (∀ x : Int, 0 ≤ x → x < N → (tk x = true ↔ ∃ a : Int, (0 ≤ a ∧ a < k) ∧ want (τ a) = x)) ∧ Own w8.heap.size w8 w67 [some (vch kb 4 N (fun x => .bool (tk x))), some (vch wb 3 N (fun g => iv (want g))), some (vch ob2 3 N (fun g => iv (l2 g))), some (vch ob1 3 N (fun g => iv (l1 g)))]) (fun (k : Nat) => t - k) (0) ?_ (And.intro (by exact slot_int rfl (by first | omega)) (And.intro rfl (And.intro rfl (And.intro rfl (And.intro rfl (And.intro rfl (And.intro rfl trivial))))))) ?_
    ·exact ⟨Nat.zero_le _, fun _ => -1, fun _ => false, Turns.init, fun x _ _ => ⟨fun h => Bool.noConfusion h, fun ⟨a, ha, _⟩ => by omega⟩, hOt⟩
    intro k w67 hIw67 ih68
    obtain ⟨hk, want, tk, hT, htk, hO3⟩ := hIw67
    show Run _ _ _ _ [(16, _), (6, _), (7, _), (9, _), (11, _), (13, _), (14, _)] _ _
    refine run_seq <| run_seq <| run_region <| rl_v rfl rfl rfl (ov_move rfl rfl) <| rl_v rfl rfl rfl (ov_move rfl rfl) <| rl_v rfl rfl rfl (ov_len rfl Tryz.underlying23 rfl) <| rl_v rfl rfl rfl (ov_lss rfl rfl rfl) <| rl_nil ?_
    first | refine run_cond_dec rfl (fun c5 => ?_) (fun c5 => ?_) | refine run_cond rfl (fun c5 => ?_) (fun c5 => ?_)
    ·have hgk := hIt.1 k (by omega) c5
     have hdk : ∀ j : Int, 0 ≤ j → j < k → τ j ≠ τ k := fun j j0 j1 e => by
      have := hIt.2 j k j0 (by omega) (by omega) c5 e
      omega
     have hLk := hL (τ k) hgk.1 hgk.2
     refine run_skip <| run_seq <| run_block <| run_seq <| run_region <| rl_v rfl rfl rfl (ov_move rfl rfl) <| rl_v rfl rfl rfl (ov_move rfl rfl) <| rl_v rfl rfl rfl (ov_index1 rfl Tryz.underlying23 (by kernel_rfl) rfl rfl ⟨by omega, by omega⟩ (by exact hta (by omega))) ?_
     refine rl_v rfl rfl rfl (ov_load rfl Tryz.underlying3 rfl rfl (by exact htr _ hO3.below k (by omega) c5)) ?_
     refine rl_v rfl rfl rfl (ov_assign rfl rfl) <| rl_nil <| run_seq <| run_region <| rl_v rfl rfl rfl (ov_assign rfl rfl) <| rl_nil <| Run.keep [6, 7, 9, 11, 13, 14, 16, 17, 18] (F' := [(6, _), (7, _), (9, _), (11, _), (13, _), (14, _), (16, _), (17, _), (18, _)]) rfl <| run_join1 (fun (u : Nat) => []) [6, 7, 9, 11, 13, 14, 16] (fun (u : Nat) (w69 : World) => ∃ (want2 : Int → Int) (tk2 : Int → Bool), Turns (tF N t L E τ) τ ((k + 1 : Nat) : Int) want2 ∧ (∀ x : Int, 0 ≤ x → x < N → (tk2 x = true ↔ ∃ a : Int, (0 ≤ a ∧ a < ((k + 1 : Nat) : Int)) ∧ want2 (τ a) = x)) ∧ Own w8.heap.size w8 w69 [some (vch kb 4 N (fun x => .bool (tk2 x))), some (vch wb 3 N (fun g => iv (want2 g))), some (vch ob2 3 N (fun g => iv (l2 g))), some (vch ob1 3 N (fun g => iv (l1 g)))]) (fun hk70 => ?_) ?_
     ·refine run_block <| Run.keep [6, 7, 9, 11, 13, 14, 16, 17, 18] (F' := [(6, _), (7, _), (9, _), (11, _), (13, _), (14, _), (16, _), (17, _), (18, _)]) rfl <| run_loop1 (fun (i : Nat) => [(18, .int .i64 (i : Int))]) [6, 7, 9, 11, 13, 14, 16, 17] (fun (i : Nat) (w71 : World) => i ≤ L (τ k) ∧ (∀ x : Int, 0 ≤ x → x < i → ∃ a : Int, (0 ≤ a ∧ a < k) ∧ want (τ a) = E (τ k) x) ∧ Own w8.heap.size w8 w71 [some (vch kb 4 N (fun x => .bool (tk x))), some (vch wb 3 N (fun g => iv (want g))), some (vch ob2 3 N (fun g => iv (l2 g))), some (vch ob1 3 N (fun g => iv (l1 g)))]) (fun (i : Nat) => L (τ k) - i) (0) ?_ (And.intro (by exact slot_int rfl (by first | omega)) (And.intro rfl (And.intro rfl (And.intro rfl (And.intro rfl (And.intro rfl (And.intro rfl (And.intro rfl (And.intro rfl trivial))))))))) ?_
      ·exact ⟨Nat.zero_le _, fun x a b => by omega, hO3⟩
      intro i w71 hIw71 ih72
      obtain ⟨hi, hal, hO5⟩ := hIw71
      show Run _ _ _ _ [(18, _), (6, _), (7, _), (9, _), (11, _), (13, _), (14, _), (16, _), (17, _)] _ _
      refine run_seq <| run_seq <| run_region <| rl_v rfl rfl rfl (ov_move rfl rfl) <| rl_v rfl rfl rfl (ov_fieldS rfl Tryz.underlying27 rfl (fo := 0) rfl (by kernel_rfl) rfl) ?_
      refine rl_v rfl rfl rfl (ov_load rfl Tryz.underlying22 rfl rfl (by exact hLa.open _ hO5.below (off := 0) rfl)) ?_
      refine rl_v rfl rfl rfl (ov_move rfl rfl) <| rl_v rfl rfl rfl (ov_index1 rfl Tryz.underlying22 (by kernel_rfl) rfl rfl ⟨by omega, by omega⟩ (by exact hga1 (by omega))) ?_
      refine rl_v rfl rfl rfl (ov_load rfl Tryz.underlying23 rfl rfl (by exact hrow1 _ hO5.below (τ k) (by omega) (by omega))) ?_
      refine rl_v rfl rfl rfl (ov_len rfl Tryz.underlying23 rfl) <| rl_v rfl rfl rfl (ov_lss rfl rfl rfl) <| rl_nil ?_
      first | refine run_cond_dec rfl (fun c6 => ?_) (fun c6 => ?_) | refine run_cond rfl (fun c6 => ?_) (fun c6 => ?_)
      ·have hxr := hLk.1.1 i (by omega) c6
       refine run_skip <| run_seq <| run_block <| run_seq <| run_region <| rl_v rfl rfl rfl (ov_fieldS rfl Tryz.underlying27 rfl (fo := 0) rfl (by kernel_rfl) rfl) ?_
       refine rl_v rfl rfl rfl (ov_load rfl Tryz.underlying22 rfl rfl (by exact hLa.open _ hO5.below (off := 0) rfl)) ?_
       refine rl_v rfl rfl rfl (ov_move rfl rfl) <| rl_v rfl rfl rfl (ov_index1 rfl Tryz.underlying22 (by kernel_rfl) rfl rfl ⟨by omega, by omega⟩ (by exact hga1 (by omega))) ?_
       refine rl_v rfl rfl rfl (ov_load rfl Tryz.underlying23 rfl rfl (by exact hrow1 _ hO5.below (τ k) (by omega) (by omega))) ?_
       refine rl_v rfl rfl rfl (ov_move rfl rfl) <| rl_v rfl rfl rfl (ov_index1 rfl Tryz.underlying23 (by kernel_rfl) rfl rfl ⟨by omega, by omega⟩ (by exact hra1 (τ k) (by omega) (by omega) (by omega))) ?_
       refine rl_v rfl rfl rfl (ov_load rfl Tryz.underlying3 rfl rfl (by exact hel1 _ hO5.below (τ k) (by omega) (by omega) i (by omega) c6)) ?_
       refine rl_v rfl rfl rfl (ov_assign rfl rfl) <| rl_nil <| run_seq <| run_region <| rl_v rfl rfl rfl (ov_move rfl rfl) <| rl_v rfl rfl rfl (ov_move rfl rfl) <| rl_v rfl rfl rfl (ov_index1 rfl Tryz.underlying75 (by kernel_rfl) rfl rfl ⟨by omega, by omega⟩ (by rfl)) ?_
       refine rl_v rfl rfl rfl (ov_load rfl Tryz.underlying4 rfl rfl (by exact hO5.cellI 0 rfl (E (τ k) i) (by omega) (by omega))) ?_
       refine rl_v rfl rfl rfl (ov_not rfl rfl) <| rl_nil ?_
       first | refine run_cond_dec rfl (fun c7 => ?_) (fun c7 => ?_) | refine run_cond rfl (fun c7 => ?_) (fun c7 => ?_)
       ·have hnt : ∀ a : Int, 0 ≤ a → a < k → want (τ a) ≠ E (τ k) i := fun a a0 a1 e => by
         have := (htk _ hxr.1 hxr.2).2 ⟨a, ⟨a0, a1⟩, e⟩
         rw [this] at c7
         simp at c7
        refine run_seq <| run_region <| rl_v rfl rfl rfl (ov_move rfl rfl) <| rl_v rfl rfl rfl (ov_move rfl rfl) <| rl_v rfl rfl rfl (ov_index1 rfl Tryz.underlying75 (by kernel_rfl) rfl rfl ⟨by omega, by omega⟩ (by rfl)) ?_
        refine rl_ow rfl (ow_store rfl rfl (by kernel_rfl) hO5 0 rfl rfl ⟨by omega, by omega⟩ rfl rfl) ?_
        rintro _ w73 ⟨rfl, hO74, hs75⟩
        refine rl_nil <| run_seq <| run_region <| rl_v rfl rfl rfl (ov_move rfl rfl) <| rl_v rfl rfl rfl (ov_move rfl rfl) <| rl_v rfl rfl rfl (ov_move rfl rfl) <| rl_v rfl rfl rfl (ov_index1 rfl Tryz.underlying23 (by kernel_rfl) rfl rfl ⟨by omega, by omega⟩ (by rfl)) ?_
        refine rl_ow rfl (ow_storeI rfl rfl (by kernel_rfl) hO74 1 rfl rfl ⟨by omega, by omega⟩ rfl) ?_
        rintro _ w76 ⟨rfl, hO77, hs78⟩
        have hOt := hO77.congrI 0 rfl (G' := fun x => .bool (upd tk (E (τ k) i) true x)) (fun x _ _ => by unfold upd; split <;> rfl)
        have hOu := hOt.congrI 1 rfl (G' := fun x => iv (upd want (τ k) (E (τ k) i) x)) (fun x _ _ => by unfold upd; split <;> rfl)
        have hT3 : Turns (tF N t L E τ) τ ((k + 1 : Nat) : Int) (upd want (τ k) (E (τ k) i)) := by
         rw [show ((k + 1 : Nat) : Int) = (k : Int) + 1 by omega]
         exact hT.take (by omega) hdk (by omega) c6 hal hnt
        have htk3 : ∀ x : Int, 0 ≤ x → x < N → (upd tk (E (τ k) i) true x = true ↔ ∃ a : Int, (0 ≤ a ∧ a < ((k + 1 : Nat) : Int)) ∧ upd want (τ k) (E (τ k) i) (τ a) = x) := fun x x0 x1 => by
         by_cases z : x = E (τ k) i
         ·rw [z, upd_same]
          exact ⟨fun _ => ⟨k, by omega, upd_same ..⟩, fun _ => rfl⟩
         ·rw [upd_ne _ _ z, htk x x0 x1]
          constructor
          ·rintro ⟨a, ha, e⟩
           exact ⟨a, by omega, by rw [upd_ne _ _ (hdk a ha.1 ha.2)]; exact e⟩
          ·rintro ⟨a, ha, e⟩
           by_cases y : a = k
           ·rw [y, upd_same] at e; exact absurd e.symm z
           ·rw [upd_ne _ _ (hdk a ha.1 (by omega))] at e
            exact ⟨a, by omega, e⟩
        refine rl_nil <| run_exit rfl ?_
        refine Run.use (hk70 (0) _ ?_) (And.intro rfl (And.intro rfl (And.intro rfl (And.intro rfl (And.intro rfl (And.intro rfl (And.intro rfl trivial)))))))
        exact ⟨_, _, hT3, htk3, hOu⟩
       ·have hal2 : ∀ x : Int, 0 ≤ x → x < ((i + 1 : Nat) : Int) → ∃ a : Int, (0 ≤ a ∧ a < k) ∧ want (τ a) = E (τ k) x := fun x x0 x1 => by
         by_cases z : x = i
         ·rw [z]; exact (htk _ hxr.1 hxr.2).1 (by simpa using c7)
         ·exact hal x x0 (by omega)
        refine run_skip <| run_inBlock <| run_region <| rl_v rfl rfl rfl (ov_move rfl rfl) <| rl_v rfl rfl rfl (ov_add rfl rfl rfl (by omega)) ?_
        refine rl_v rfl rfl rfl (ov_assign rfl rfl) <| rl_nil ?_
        refine Run.use (ih72 (i + 1) _ ?_ ?_) (And.intro (by exact slot_int rfl (by first | omega)) (And.intro rfl (And.intro rfl (And.intro rfl (And.intro rfl (And.intro rfl (And.intro rfl (And.intro rfl (And.intro rfl trivial)))))))))
        ·first | omega | (dsimp only; omega)
        ·exact ⟨by omega, hal2, hO5⟩
      ·have hwk : want (τ k) = -1 := hT.non _ fun j j0 j1 => hdk j j0 j1
       have hT3 : Turns (tF N t L E τ) τ ((k + 1 : Nat) : Int) want := by
        rw [show ((k + 1 : Nat) : Int) = (k : Int) + 1 by omega]
        exact hT.skip (by omega) hdk fun x x0 x1 => hal x x0 (by have : x < L (τ k) := x1; omega)
       have htk3 : ∀ x : Int, 0 ≤ x → x < N → (tk x = true ↔ ∃ a : Int, (0 ≤ a ∧ a < ((k + 1 : Nat) : Int)) ∧ want (τ a) = x) := fun x x0 x1 => by
        rw [htk x x0 x1]
        constructor
        ·rintro ⟨a, ha, e⟩; exact ⟨a, by omega, e⟩
        ·rintro ⟨a, ha, e⟩
         by_cases y : a = k
         ·rw [y, hwk] at e; omega
         ·exact ⟨a, by omega, e⟩
       refine run_exit rfl ?_
       refine Run.use (hk70 (0) _ ?_) (And.intro rfl (And.intro rfl (And.intro rfl (And.intro rfl (And.intro rfl (And.intro rfl (And.intro rfl trivial)))))))
       exact ⟨_, _, hT3, htk3, hO5⟩
     ·intro u w69 hJw69
      obtain ⟨want2, tk2, hT2, htk2, hO4⟩ := hJw69
      show Run _ _ _ _ [(6, _), (7, _), (9, _), (11, _), (13, _), (14, _), (16, _)] _ _
      refine run_inBlock <| run_region <| rl_v rfl rfl rfl (ov_move rfl rfl) <| rl_v rfl rfl rfl (ov_add rfl rfl rfl (by omega)) ?_
      refine rl_v rfl rfl rfl (ov_assign rfl rfl) <| rl_nil ?_
      refine Run.use (ih68 (k + 1) _ ?_ ?_) (And.intro (by exact slot_int rfl (by first | omega)) (And.intro rfl (And.intro rfl (And.intro rfl (And.intro rfl (And.intro rfl (And.intro rfl trivial)))))))
      ·first | omega | (dsimp only; omega)
      ·exact ⟨by omega, want2, tk2, hT2, htk2, hO4⟩
    ·have hkt : k = t := by omega
     rw [hkt] at hT
     have hU := fun {s : Int → Int} (hs : (tF N t L E τ).Stab s) => hT.uniq hV.ok (fun b _ _ => ⟨rfl, fun k _ _ => rfl⟩) (fun b _ _ => rfl) (fun j j0 j1 => hIt.1 j j0 j1) (fun i j i0 i1 j0 j1 e => hIt.2 i j i0 i1 j0 j1 e) hs
     have hAS := hT.allS hV.ok (fun b _ _ => ⟨rfl, fun k _ _ => rfl⟩) (fun b _ _ => rfl) (fun j j0 j1 => hIt.1 j j0 j1) (fun i j i0 i1 j0 j1 e => hIt.2 i j i0 i1 j0 j1 e) hB1.stab
     refine run_exit rfl <| run_seq <| run_region <| rl_v rfl rfl rfl (ov_loadN rfl Tryz.underlying27 rfl (by kernel_rfl) rfl ((hLa.range _ hO3.below))) ?_
     refine rl_call callable_10 rfl rfl rfl rfl rfl rfl (tAll _ hV hN8 (hO3.fag hF) (hO3.rtab hRb) hAS) (fun e79 w80 hp81 => ?_)
     obtain ⟨va, vc, Ha, rfl, hOh⟩ := hp81
     refine ⟨_, rfl, ?_⟩
     have hO82 := hO3.join hOh
     have hO9 := hO82.sub (List.sublist_append_right Ha _)
     refine rl_v rfl rfl rfl (ov_move rfl rfl) <| rl_v rfl rfl rfl (ov_extract rfl rfl (by rfl)) ?_
     refine rl_v rfl rfl rfl (ov_extract rfl rfl (by rfl)) ?_
     refine rl_v rfl rfl rfl (ov_assign rfl rfl) <| rl_v rfl rfl rfl (ov_assign rfl rfl) <| rl_nil <| run_seq <| run_region <| rl_v rfl rfl rfl (ov_move rfl rfl) <| rl_v rfl rfl rfl (ov_eql rfl rfl rfl) <| rl_v rfl rfl rfl (ov_move rfl rfl) ?_
     first | refine rl_yesD 130 rfl (rfl) ?_ | refine rl_yes 130 rfl (rfl) ?_
     refine rl_gv rfl rfl rfl rfl rfl (ov_move rfl rfl) <| rl_gv rfl rfl rfl rfl rfl (ov_len rfl Tryz.underlying22 rfl) <| rl_gv rfl rfl rfl rfl rfl (ov_eql rfl rfl rfl) <| rl_v rfl rfl rfl (ov_pick_t rfl rfl rfl) <| rl_v rfl rfl rfl (ov_move rfl rfl) ?_
     first | refine rl_yesD 135 rfl (rfl) ?_ | refine rl_yes 135 rfl (rfl) ?_
     refine rl_gv rfl rfl rfl rfl rfl (ov_move rfl rfl) <| rl_gv rfl rfl rfl rfl rfl (ov_move rfl rfl) ?_
     refine rl_gcall callable_37 rfl rfl rfl rfl rfl rfl rfl rfl (tints_any (some ⟨ob1, 0, none⟩) (some ⟨wb, 0, none⟩) N N N N l1 want _ (hO9.readsT 3 rfl N (Nat.le_refl _)) (hO9.readsT 1 rfl N (Nat.le_refl _)) (by omega) rfl (hU hB1.stab)) (fun e83 w84 hp85 => ?_)
     obtain ⟨rfl, hOi⟩ := hp85
     refine ⟨_, rfl, ?_⟩
     have hO86 := hO9.join hOi
     refine rl_v rfl rfl rfl (ov_pick_t rfl rfl rfl) <| rl_v rfl rfl rfl (ov_move rfl rfl) ?_
     first | refine rl_yesD 140 rfl (rfl) ?_ | refine rl_yes 140 rfl (rfl) ?_
     refine rl_gv rfl rfl rfl rfl rfl (ov_move rfl rfl) <| rl_gv rfl rfl rfl rfl rfl (ov_move rfl rfl) ?_
     refine rl_gcall callable_37 rfl rfl rfl rfl rfl rfl rfl rfl (tints_any (some ⟨ob2, 0, none⟩) (some ⟨wb, 0, none⟩) N N N N l2 want _ (hO86.readsT 2 rfl N (Nat.le_refl _)) (hO86.readsT 1 rfl N (Nat.le_refl _)) (by omega) rfl (hU hB2)) (fun e87 w88 hp89 => ?_)
     obtain ⟨rfl, hOi⟩ := hp89
     refine ⟨_, rfl, ?_⟩
     have hO90 := hO86.join hOi
     refine rl_v rfl rfl rfl (ov_pick_t rfl rfl rfl) <| rl_v rfl rfl rfl (ov_move rfl rfl) ?_
     first | refine rl_yesD 145 rfl (rfl) ?_ | refine rl_yes 145 rfl (rfl) ?_
     refine rl_gcall callable_31 rfl rfl rfl rfl rfl rfl rfl rfl (seven_any _) (fun e91 w92 hp93 => ?_)
     obtain ⟨rfl, hbl⟩ := hp93
     refine ⟨_, rfl, ?_⟩
     have hO94 := hO90.past hbl
     refine rl_v rfl rfl rfl (ov_pick_t rfl rfl rfl) <| rl_v rfl rfl rfl (ov_assign rfl rfl) <| rl_nil <| run_ret Tryz.func7 (res1 Tryz.results7 rfl) ?_
     exact ⟨rfl, (hOA.join hO94).below⟩
end Go.Proofs.YtlldeifbfpmbaaaGreat
