import Derived.Test.YtlldeifbfpmbaaaFkE
import Derived.Test.YtlldeifbfpmbaaaFgE
set_option maxRecDepth 100000
namespace Go.Proofs.Ytlldeifbfpmbaaa
open Go.RowKit Go.Proofs Go.MapKept
theorem RO.congrO {W : Wish} {g : Int → Bool} {o o2 : Int → Int} {nr : Nat} {L : Int → Nat} {R : Int → Int → Int} (h : RO W g o nr L R) (e : ∀ i : Int, 0 ≤ i → i < W.n → o i = o2 i) : RO W g o2 nr L R :=
 ⟨h.pos, h.rng, fun r k r0 r1 k0 k1 => by have hr := (h.rng r k r0 r1 k0 k1).1; rw [← e _ hr.1 hr.2]; exact h.cyc r k r0 r1 k0 k1, h.cov, h.dis, h.min⟩
theorem OTab.rown {ao : Option Addr} {m cap n : Nat} {T1 T2 : TypeId} {L : Int → Nat} {F : Int → Int → Int} {H : List (Option Blk)} (h : OTab (.slice ao m cap) T1 T2 n L (fun r c => iv (F r c)) H) : ROwn H ao n L F := by
 obtain ⟨c, rv, ch, rfl, h2, h3⟩ := h
 exact rown_mem (T1 := T1) (T2 := T2) (.head _) h2 fun r hr => ⟨ch r, .tail _ (List.mem_map.2 ⟨r, List.mem_range.2 hr, rfl⟩), h3 r hr⟩
theorem ROwn.addr {H : List (Option Blk)} {oa : Option Addr} {n : Nat} {L : Int → Nat} {R : Int → Int → Int} (h : ROwn H oa n L R) {B : Nat} {w0 w : World} (hO : Own B w0 w H) (hn : 0 < n) :
  ∃ (A : Int → Option Addr) (C : Int → Nat) (b off : Nat), oa = some ⟨b, off, none⟩ ∧ ∀ {B : Nat} {w0 w : World}, Own B w0 w H → (∀ i : Int, 0 ≤ i → i < n → w.cell? ⟨b, off + i.toNat, none⟩ = some (.slice (A i) (L i) (C i))) ∧ ∀ r : Int, 0 ≤ r → r < n → IAt w.heap.size w (A r) (L r) (fun c => iv (R r c)) := by
 obtain ⟨A, C, h1, h2⟩ := h
 obtain ⟨b, off, e, _⟩ := (h2 B w0 w hO).1.open
 have e1 := e hn
 refine ⟨A, C, b, off, e1, fun {B' w0' w'} hO' => ⟨fun i i0 i1 => ?_, (h2 B' w0' w' hO').2⟩⟩
 obtain ⟨b', off', e', r⟩ := (h2 B' w0' w' hO').1.open
 have e2 := e' hn
 rw [e1] at e2
 cases e2
 exact r _ (Below.refl _ _) i i0 i1
set_option maxHeartbeats 4000000 in
theorem swaps5_any (ga : Option Addr) (n gc : Nat) (GL : Int → Nat) (GE : Int → Int → Int) (w : World) (hG : RTab w.heap.size w ga n GL GE) :
  Calls Try.prog 8 #[.agg #[.slice ga n gc]] w fun e w' => e = .returned (.bool true) ∧ Below w.heap.size w w' := by
 refine calls_of_run (F := [(0, _)]) Try.func8 rfl Try.ntmps8 rfl rfl ?_
 have hO0 := Own.init w
 refine run_seq <| run_region <| rl_ow rfl (ow_box _ rfl rfl rfl rfl rfl hO0) ?_
 rintro _ w1 ⟨b1, rfl, hO2, hs3⟩
 refine rl_v rfl rfl rfl (ov_assign rfl rfl) <| rl_nil <| run_seq <| run_region <| rl_v rfl rfl rfl (ov_fieldS rfl Try.underlying47 rfl (fo := 0) rfl (by kernel_rfl) rfl) ?_
 refine rl_v rfl rfl rfl (ov_load rfl Try.underlying22 rfl rfl (by exact hO2.cellL 0 rfl (off := 0) rfl)) ?_
 refine rl_call callable_34 rfl rfl rfl rfl rfl rfl (lists5_any ga n gc 65 70 GL GE _ (by decide) (by decide) (hO2.rtab hG)) (fun e4 w5 hp6 => ?_)
 obtain ⟨ga1, gc1, H1, rfl, hc1, hT1, hOw1⟩ := hp6
 refine ⟨_, rfl, ?_⟩
 have hO7 := hO2.join hOw1
 obtain ⟨n1, hn1⟩ : ∃ n1, n1 = min n 65 := ⟨_, rfl⟩
 obtain ⟨L1, hL1⟩ : ∃ L1 : Int → Nat, L1 = fun r => min (GL r) 70 := ⟨_, rfl⟩
 have hn65 : n1 ≤ 65 := by omega
 have hL70 : ∀ r : Int, 0 ≤ r → r < n1 → L1 r ≤ 1000000 := fun r _ _ => by rw [hL1]; show min (GL r) 70 ≤ 1000000; omega
 rw [← hn1, ← hL1] at hT1
 rw [← hn1]
 have hOa := hO7.perm List.perm_append_comm
 refine rl_v rfl rfl rfl (ov_buildL rfl lay_47 rfl (us := [_]) rfl) <| rl_ow rfl (ow_alloc _ rfl rfl rfl zero_47 rfl hOa) ?_
 rintro _ w8 ⟨b3, rfl, hO9, hs10⟩
 refine rl_ow rfl (ow_storeW rfl rfl (by kernel_rfl) hO9 0 rfl rfl (by rfl) rfl (by rfl)) ?_
 rintro _ w11 ⟨rfl, hO12, hs13⟩
 refine rl_nil <| run_seq <| run_region <| rl_v rfl rfl rfl (ov_loadW rfl Try.underlying47 rfl (by kernel_rfl) rfl hO12 0 rfl) ?_
 refine rl_call callable_35 rfl rfl rfl rfl rfl rfl (refCheckSwap_any ga1 n1 gc1 L1 GE _ hL70 (hT1.rown.at hO12.tail.tail).tab) (fun e14 w15 hp16 => ?_)
 obtain ⟨rfl, hb1⟩ := hp16
 refine ⟨_, rfl, ?_⟩
 have hO17 := hO12.past hb1
 refine rl_v rfl rfl rfl (ov_assign rfl rfl) <| rl_nil <| run_seq <| run_seq <| run_region <| rl_v rfl rfl rfl (ov_loadW rfl Try.underlying47 rfl (by kernel_rfl) rfl hO17 0 rfl) ?_
 refine rl_call callable_25 rfl rfl rfl rfl rfl rfl (swap5_any ga1 n1 gc1 _) (fun e18 w19 hp20 => ?_)
 obtain ⟨rfl, hb2⟩ := hp20
 refine ⟨_, rfl, ?_⟩
 have hO21 := hO17.past hb2
 refine rl_call callable_36 rfl rfl rfl rfl rfl rfl (checkSwap_any ga1 n1 gc1 L1 GE _ (by omega) hL70 (hT1.rown.at hO21.tail.tail).tab) (fun e22 w23 hp24 => ?_)
 obtain ⟨rfl, hb3⟩ := hp24
 refine ⟨_, rfl, ?_⟩
 have hO25 := hO21.past hb3
 refine rl_v rfl rfl rfl (ov_move rfl rfl) <| rl_v rfl rfl rfl (ov_neq rfl rfl rfl) <| rl_nil ?_
 first | refine run_cond_dec rfl (fun bad => ?_) (fun bad => ?_) | refine run_cond rfl (fun bad => ?_) (fun bad => ?_)
 ·exfalso; exact bad rfl
 ·refine run_skip <| run_seq <| run_seq <| run_region <| rl_v rfl rfl rfl (ov_move rfl rfl) <| rl_v rfl rfl rfl (ov_neq rfl rfl rfl) <| rl_nil <| Run.keep [1, 3, 4, 30] (F' := [(1, _), (3, _), (4, _), (30, _)]) rfl <| run_join1 (fun (z : Nat) => []) [3] (fun (z : Nat) (w26 : World) => ∃ (n2 : Nat) (L2 : Int → Nat) (E2 : Int → Int → Int) (ga2 : Option Addr) (gc2 : Nat) (H2 R2 : List (Option Blk)), n2 ≤ 64 ∧ SwapOk n2 L2 E2 ∧ OTab (.slice ga2 n2 gc2) 23 3 n2 L2 (fun r c => iv (E2 r c)) H2 ∧ Own w.heap.size w w26 (some (lch b3 47 [.slice ga2 n2 gc2]) :: (H2 ++ R2))) (fun hk27 => ?_) ?_
  ·first | refine run_cond_dec rfl (fun hE => ?_) (fun hE => ?_) | refine run_cond rfl (fun hE => ?_) (fun hE => ?_)
   ·refine run_seq <| run_region <| rl_v rfl rfl rfl (ov_loadW rfl Try.underlying47 rfl (by kernel_rfl) rfl hO25 0 rfl) ?_
    refine rl_call callable_25 rfl rfl rfl rfl rfl rfl (swap5_any ga1 n1 gc1 _) (fun e28 w29 hp30 => ?_)
    obtain ⟨rfl, hb2⟩ := hp30
    refine ⟨_, rfl, ?_⟩
    have hO31 := hO25.past hb2
    refine rl_call callable_26 rfl rfl rfl rfl rfl rfl (coreBad_any ga1 n1 gc1 L1 GE _ hL70 (by omega) (hT1.rown.at hO31.tail.tail) hE) (fun e32 w33 hp34 => ?_)
    obtain ⟨rfl, hb4⟩ := hp34
    refine ⟨_, rfl, ?_⟩
    have hO35 := hO31.past hb4
    refine rl_v rfl rfl rfl (ov_move rfl rfl) <| rl_v rfl rfl rfl (ov_extract rfl rfl (by rfl)) ?_
    refine rl_v rfl rfl rfl (ov_extract rfl rfl (by rfl)) ?_
    refine rl_v rfl rfl rfl (ov_assign rfl rfl) <| rl_v rfl rfl rfl (ov_assign rfl rfl) <| rl_nil <| run_seq <| run_region <| rl_v rfl rfl rfl (ov_loadW rfl Try.underlying47 rfl (by kernel_rfl) rfl hO35 0 rfl) ?_
    refine rl_call callable_25 rfl rfl rfl rfl rfl rfl (swap5_any ga1 n1 gc1 _) (fun e36 w37 hp38 => ?_)
    obtain ⟨rfl, hb2⟩ := hp38
    refine ⟨_, rfl, ?_⟩
    have hO39 := hO35.past hb2
    refine rl_call callable_37 rfl rfl rfl rfl rfl rfl (ringsBad_any ga1 n1 gc1 L1 GE _ hL70 (by omega) (hT1.rown.at hO39.tail.tail) hE) (fun e40 w41 hp42 => ?_)
    obtain ⟨rfl, hb4⟩ := hp42
    refine ⟨_, rfl, ?_⟩
    have hO43 := hO39.past hb4
    refine rl_v rfl rfl rfl (ov_move rfl rfl) <| rl_v rfl rfl rfl (ov_extract rfl rfl (by rfl)) ?_
    refine rl_v rfl rfl rfl (ov_extract rfl rfl (by rfl)) ?_
    refine rl_v rfl rfl rfl (ov_assign rfl rfl) <| rl_v rfl rfl rfl (ov_assign rfl rfl) <| rl_nil <| run_seq <| run_region <| rl_v rfl rfl rfl (ov_loadW rfl Try.underlying47 rfl (by kernel_rfl) rfl hO43 0 rfl) ?_
    refine rl_call callable_25 rfl rfl rfl rfl rfl rfl (swap5_any ga1 n1 gc1 _) (fun e44 w45 hp46 => ?_)
    obtain ⟨rfl, hb2⟩ := hp46
    refine ⟨_, rfl, ?_⟩
    have hO47 := hO43.past hb2
    refine rl_call callable_27 rfl rfl rfl rfl rfl rfl (betterBad_any ga1 none n1 gc1 0 0 L1 GE _ hL70 (by omega) (hT1.rown.at hO47.tail.tail) hE) (fun e48 w49 hp50 => ?_)
    obtain ⟨rfl, hb4⟩ := hp50
    refine ⟨_, rfl, ?_⟩
    have hO51 := hO47.past hb4
    refine rl_v rfl rfl rfl (ov_move rfl rfl) <| rl_v rfl rfl rfl (ov_extract rfl rfl (by rfl)) ?_
    refine rl_v rfl rfl rfl (ov_extract rfl rfl (by rfl)) ?_
    refine rl_v rfl rfl rfl (ov_assign rfl rfl) <| rl_v rfl rfl rfl (ov_assign rfl rfl) <| rl_nil <| run_seq <| run_seq <| run_region <| rl_v rfl rfl rfl (ov_move rfl rfl) <| rl_v rfl rfl rfl (ov_move rfl rfl) <| rl_v rfl rfl rfl (ov_neq rfl rfl rfl) <| rl_v rfl rfl rfl (ov_move rfl rfl) ?_
    first | refine rl_noD 52 rfl (fun h => h rfl) ?_ | refine rl_no 52 rfl (fun h => h rfl) ?_
    refine rl_gv rfl rfl rfl rfl rfl (ov_move rfl rfl) <| rl_gv rfl rfl rfl rfl rfl (ov_move rfl rfl) <| rl_gv rfl rfl rfl rfl rfl (ov_neq rfl rfl rfl) <| rl_v rfl rfl rfl (ov_pick_f rfl rfl rfl) <| rl_v rfl rfl rfl (ov_move rfl rfl) ?_
    first | refine rl_noD 57 rfl (fun h => h rfl) ?_ | refine rl_no 57 rfl (fun h => h rfl) ?_
    refine rl_gv rfl rfl rfl rfl rfl (ov_move rfl rfl) <| rl_gv rfl rfl rfl rfl rfl (ov_len rfl Try.underlying23 rfl) <| rl_gv rfl rfl rfl rfl rfl (ov_neq rfl rfl rfl) <| rl_v rfl rfl rfl (ov_pick_f rfl rfl rfl) <| rl_v rfl rfl rfl (ov_move rfl rfl) ?_
    first | refine rl_noD 62 rfl (fun h => h rfl) ?_ | refine rl_no 62 rfl (fun h => h rfl) ?_
    refine rl_gv rfl rfl rfl rfl rfl (ov_move rfl rfl) <| rl_gv rfl rfl rfl rfl rfl (ov_len rfl Try.underlying22 rfl) <| rl_gv rfl rfl rfl rfl rfl (ov_neq rfl rfl rfl) <| rl_v rfl rfl rfl (ov_pick_f rfl rfl rfl) <| rl_v rfl rfl rfl (ov_move rfl rfl) ?_
    first | refine rl_noD 67 rfl (fun h => h rfl) ?_ | refine rl_no 67 rfl (fun h => h rfl) ?_
    refine rl_gv rfl rfl rfl rfl rfl (ov_move rfl rfl) <| rl_gv rfl rfl rfl rfl rfl (ov_len rfl Try.underlying23 rfl) <| rl_gv rfl rfl rfl rfl rfl (ov_neq rfl rfl rfl) <| rl_v rfl rfl rfl (ov_pick_f rfl rfl rfl) <| rl_v rfl rfl rfl (ov_move rfl rfl) ?_
    first | refine rl_noD 72 rfl (fun h => h rfl) ?_ | refine rl_no 72 rfl (fun h => h rfl) ?_
    refine rl_gv rfl rfl rfl rfl rfl (ov_move rfl rfl) <| rl_v rfl rfl rfl (ov_pick_f rfl rfl rfl) <| rl_nil <| run_cond_f rfl <| run_skip <| run_region <| rl_v rfl rfl rfl (ov_loadW rfl Try.underlying47 rfl (by kernel_rfl) rfl hO51 1 rfl) ?_
    refine rl_call callable_24 rfl rfl rfl rfl rfl rfl (tidySwap_any ga n gc 10 GL GE _ (by decide) (hO51.rtab hG)) (fun e52 w53 hp54 => ?_)
    obtain ⟨n4, L4, E4, ga4, gc4, H4, rfl, hn4, hS4, hO4⟩ := hp54
    refine ⟨_, rfl, ?_⟩
    have hO55 := hO51.join hO4
    have hO5 := hO55.perm List.perm_middle
    refine rl_ow rfl (ow_storeW rfl rfl (by kernel_rfl) hO5 0 rfl rfl (by rfl) rfl (by rfl)) ?_
    rintro _ w56 ⟨rfl, hO57, hs58⟩
    refine rl_nil ?_
    refine Run.use (hk27 (0) _ ?_) (And.intro rfl trivial)
    exact ⟨n4, L4, E4, ga4, gc4, H4, _, by omega, hS4.ok, hS4.g, hO57⟩
   ·have h0 := chkS_0.1 (Classical.not_not.1 hE)
    refine run_skip ?_
    refine Run.use (hk27 (0) _ ?_) (And.intro rfl trivial)
    exact ⟨n1, L1, GE, ga1, gc1, H1, _, h0.1, h0.2, hT1, hO25.perm (.cons _ (List.perm_append_comm (l₁ := [_]) (l₂ := H1)))⟩
  ·intro z w26 hJw26
   obtain ⟨n2, L2, E2, ga2, gc2, H2, R2, hn2, hok2, hT2, hO2⟩ := hJw26
   show Run _ _ _ _ [(3, _)] _ _
   have hS2 := hT2.rown
   refine run_seq <| run_region <| rl_v rfl rfl rfl (ov_loadW rfl Try.underlying47 rfl (by kernel_rfl) rfl hO2 0 rfl) ?_
   refine rl_call callable_25 rfl rfl rfl rfl rfl rfl (swap5_any ga2 n2 gc2 _) (fun e59 w60 hp61 => ?_)
   obtain ⟨rfl, hb2⟩ := hp61
   refine ⟨_, rfl, ?_⟩
   have hO62 := hO2.past hb2
   refine rl_call callable_26 rfl rfl rfl rfl rfl rfl (core_any sortRows_all ga2 n2 gc2 L2 E2 _ hn2 hok2 (hS2.at (hO62.tail.sub (List.sublist_append_left _ _)))) (fun e63 w64 hp65 => ?_)
   obtain ⟨oc, o, t, rfl, hOc, hC⟩ := hp65
   refine ⟨_, rfl, ?_⟩
   have hO66 := hO62.join hOc
   refine rl_v rfl rfl rfl (ov_move rfl rfl) <| rl_v rfl rfl rfl (ov_extract rfl rfl (by rfl)) ?_
   refine rl_v rfl rfl rfl (ov_extract rfl rfl (by rfl)) ?_
   refine rl_v rfl rfl rfl (ov_assign rfl rfl) <| rl_v rfl rfl rfl (ov_assign rfl rfl) <| rl_nil <| run_seq <| run_region <| rl_v rfl rfl rfl (ov_loadW rfl Try.underlying47 rfl (by kernel_rfl) rfl hO66 1 rfl) ?_
   refine rl_call callable_25 rfl rfl rfl rfl rfl rfl (swap5_any ga2 n2 gc2 _) (fun e67 w68 hp69 => ?_)
   obtain ⟨rfl, hb2⟩ := hp69
   refine ⟨_, rfl, ?_⟩
   have hO70 := hO66.past hb2
   refine rl_call callable_37 rfl rfl rfl rfl rfl rfl (ringsP_any ga2 n2 gc2 L2 E2 _ hn2 hok2 (hS2.at (hO70.tail.tail.sub (List.sublist_append_left _ _)))) (fun e71 w72 hp73 => ?_)
   obtain ⟨oa, nr, ocap, Lr, R, o', t', Hr, rfl, hOr, hRW, hC', hRO, hRise⟩ := hp73
   refine ⟨_, rfl, ?_⟩
   have hO74 := hO70.join hOr
   have hO6 := hO74.perm List.perm_append_comm
   refine rl_v rfl rfl rfl (ov_move rfl rfl) <| rl_v rfl rfl rfl (ov_extract rfl rfl (by rfl)) ?_
   refine rl_v rfl rfl rfl (ov_extract rfl rfl (by rfl)) ?_
   refine rl_v rfl rfl rfl (ov_assign rfl rfl) <| rl_v rfl rfl rfl (ov_assign rfl rfl) <| rl_nil <| run_seq <| run_region <| rl_v rfl rfl rfl (ov_loadW rfl Try.underlying47 rfl (by kernel_rfl) rfl hO6 1 rfl) ?_
   refine rl_call callable_38 rfl rfl rfl rfl rfl rfl (refCore_any ga2 n2 gc2 L2 E2 _ hn2 hok2 (hS2.at (hO6.tail.tail.sub ((List.sublist_append_left _ _).trans (List.sublist_append_left _ _)))).tab) (fun e75 w76 hp77 => ?_)
   obtain ⟨od, o3, t3, rfl, hOd, hC3⟩ := hp77
   refine ⟨_, rfl, ?_⟩
   have hO78 := hO6.join hOd
   refine rl_v rfl rfl rfl (ov_assign rfl rfl) <| rl_nil <| run_seq <| run_region <| rl_v rfl rfl rfl (ov_move rfl rfl) ?_
   refine rl_call callable_39 rfl rfl rfl rfl rfl rfl (refRings_any (some ⟨od, 0, none⟩) n2 n2 o3 _ hn2 hC3.rng hC3.inj (hO78.readsI 0 rfl)) (fun e79 w80 hp81 => ?_)
   obtain ⟨va, vc, nr3, L3, R3, s3, H3, rfl, hT3, hOr3, hRO3, hs3, hRise3⟩ := hp81
   refine ⟨_, rfl, ?_⟩
   have hO82 := hO78.join hOr3
   have hO7 := hO82.perm List.perm_append_comm
   have hO8 : Own w.heap.size w w80 (some (vch od 3 n2 (fun i => iv (o3 i))) :: some (vch oc 3 n2 (fun i => iv (o i))) :: some (lch b3 47 [.slice ga2 n2 gc2]) :: (((H2 ++ R2) ++ Hr) ++ H3)) := hO7
   have hsr : Hr.Sublist (some (vch od 3 n2 (fun i => iv (o3 i))) :: some (vch oc 3 n2 (fun i => iv (o i))) :: some (lch b3 47 [.slice ga2 n2 gc2]) :: (((H2 ++ R2) ++ Hr) ++ H3)) := .cons _ (.cons _ (.cons _ ((List.sublist_append_right _ _).trans (List.sublist_append_left _ _))))
   have hs3 : H3.Sublist (some (vch od 3 n2 (fun i => iv (o3 i))) :: some (vch oc 3 n2 (fun i => iv (o i))) :: some (lch b3 47 [.slice ga2 n2 gc2]) :: (((H2 ++ R2) ++ Hr) ++ H3)) := .cons _ (.cons _ (.cons _ (List.sublist_append_right _ _)))
   obtain ⟨hnr, hrows⟩ := (hRO.congrO (o2 := o3) (fun i i0 i1 => hC3.uniq hC' i0 i1)).uniq hRO3 rfl (fun _ _ _ => rfl) (by assumption) hRise hRise3
   have hshort : nr ≤ n2 := hRO.short
   refine rl_v rfl rfl rfl (ov_assign rfl rfl) <| rl_nil <| run_seq <| run_seq <| run_region <| rl_v rfl rfl rfl (ov_move rfl rfl) <| rl_v rfl rfl rfl (ov_neq rfl rfl rfl) <| rl_v rfl rfl rfl (ov_move rfl rfl) ?_
   first | refine rl_noD 95 rfl (fun h => h rfl) ?_ | refine rl_no 95 rfl (fun h => h rfl) ?_
   refine rl_gv rfl rfl rfl rfl rfl (ov_move rfl rfl) <| rl_gv rfl rfl rfl rfl rfl (ov_neq rfl rfl rfl) <| rl_v rfl rfl rfl (ov_pick_f rfl rfl rfl) <| rl_v rfl rfl rfl (ov_move rfl rfl) ?_
   first | refine rl_noD 99 rfl (fun h => h rfl) ?_ | refine rl_no 99 rfl (fun h => h rfl) ?_
   refine rl_gv rfl rfl rfl rfl rfl (ov_move rfl rfl) <| rl_gv rfl rfl rfl rfl rfl (ov_move rfl rfl) ?_
   refine rl_gcall callable_14 rfl rfl rfl rfl rfl rfl rfl rfl (ints5_any (some ⟨oc, 0, none⟩) (some ⟨od, 0, none⟩) n2 n2 n2 n2 o o3 _ (by omega) (hO8.readsI 1 rfl) (hO8.readsI 0 rfl)) (fun e83 w84 hp85 => ?_)
   obtain ⟨⟨y1, rfl, hy1⟩, hbl3⟩ := hp85
   refine ⟨_, rfl, ?_⟩
   have hO86 := hO8.past hbl3
   have hz1 : y1 = true := hy1.2 ⟨rfl, fun i i0 i1 => (hC.uniq hC3 i0 i1).symm⟩
   subst hz1
   refine rl_gv rfl rfl rfl rfl rfl (ov_not rfl rfl) <| rl_v rfl rfl rfl (ov_pick_f rfl rfl rfl) <| rl_v rfl rfl rfl (ov_move rfl rfl) ?_
   first | refine rl_noD 105 rfl (rfl) ?_ | refine rl_no 105 rfl (rfl) ?_
   refine rl_gv rfl rfl rfl rfl rfl (ov_move rfl rfl) <| rl_gv rfl rfl rfl rfl rfl (ov_len rfl Try.underlying22 rfl) <| rl_gv rfl rfl rfl rfl rfl (ov_move rfl rfl) <| rl_gv rfl rfl rfl rfl rfl (ov_len rfl Try.underlying22 rfl) <| rl_gv rfl rfl rfl rfl rfl (ov_neq rfl rfl rfl) <| rl_v rfl rfl rfl (ov_pick_f rfl rfl rfl) <| rl_nil ?_
   first | refine run_cond_dec rfl (fun bad => ?_) (fun bad => ?_) | refine run_cond rfl (fun bad => ?_) (fun bad => ?_)
   ·exfalso; omega
   ·refine run_skip <| run_seq <| run_seq <| run_region <| rl_v rfl rfl rfl (ov_assign rfl rfl) <| rl_nil <| run_block <| Run.keep [13, 16, 17] (F' := [(13, _), (16, _), (17, _)]) rfl <| run_loop1 (fun (i : Int) => [(17, .int .i64 i)]) [13, 16] (fun (i : Int) (w87 : World) => 0 ≤ i ∧ i ≤ nr ∧ Own w.heap.size w w87 (some (vch od 3 n2 (fun i => iv (o3 i))) :: some (vch oc 3 n2 (fun i => iv (o i))) :: some (lch b3 47 [.slice ga2 n2 gc2]) :: (((H2 ++ R2) ++ Hr) ++ H3))) (fun (i : Int) => ((nr : Int) - i).toNat) (0) ?_ (And.intro (by exact slot_int rfl (by first | omega)) (And.intro rfl (And.intro rfl trivial))) ?_
    ·exact ⟨by omega, by omega, hO86⟩
    intro i w87 hIw87 ih88
    obtain ⟨hi0, hi1, hO9⟩ := hIw87
    show Run _ _ _ _ [(17, _), (13, _), (16, _)] _ _
    refine run_seq <| run_seq <| run_region <| rl_v rfl rfl rfl (ov_move rfl rfl) <| rl_v rfl rfl rfl (ov_move rfl rfl) <| rl_v rfl rfl rfl (ov_len rfl Try.underlying22 rfl) <| rl_v rfl rfl rfl (ov_lss rfl rfl rfl) <| rl_nil ?_
    first | refine run_cond_dec rfl (fun c1 => ?_) (fun c1 => ?_) | refine run_cond rfl (fun c1 => ?_) (fun c1 => ?_)
    ·obtain ⟨A, C, gb, go, hga, hrd⟩ := hRW.addr (hO9.sub hsr) (by omega)
     obtain ⟨A3, C3, gb3, go3, hga3, hrd3⟩ := hT3.rown.addr (hO9.sub hs3) (by omega)
     obtain ⟨hl1, hl2⟩ := hrows i hi0 c1
     have hlen : Lr i ≤ n2 := pigeon (e := R i) (fun k k0 k1 => (hRO.rng i k hi0 c1 k0 k1).1) fun a b a0 a1 b0 b1 e => (hRO.dis i a i b hi0 c1 a0 a1 hi0 c1 b0 b1 e).2
     refine run_skip <| run_seq <| run_block <| run_seq <| run_class (Cl5 w.heap.size w (some (vch od 3 n2 (fun i => iv (o3 i))) :: some (vch oc 3 n2 (fun i => iv (o i))) :: some (lch b3 47 [.slice ga2 n2 gc2]) :: (((H2 ++ R2) ++ Hr) ++ H3))) (⟨hO9.drew⟩) mixed (by kernel_rfl) ?_
     refine rk_v rfl rfl rfl (fun wq hQ => ov_move rfl rfl) ?_
     refine rk_v rfl rfl rfl (fun wq hQ => ov_move rfl rfl) ?_
     refine rk_v rfl rfl rfl (fun wq hQ => ov_index1 rfl Try.underlying22 (by kernel_rfl) rfl rfl ⟨by omega, by omega⟩ (by exact (id hga))) ?_
     refine rk_v rfl rfl rfl (fun wq hQ => ov_load rfl Try.underlying23 rfl rfl (by exact (hrd ((hQ.own).sub hsr)).1 i hi0 c1)) ?_
     refine rk_v rfl rfl rfl (fun wq hQ => ov_move rfl rfl) ?_
     refine rk_v rfl rfl rfl (fun wq hQ => ov_move rfl rfl) ?_
     refine rk_v rfl rfl rfl (fun wq hQ => ov_index1 rfl Try.underlying22 (by kernel_rfl) rfl rfl ⟨by omega, by omega⟩ (by exact (id hga3))) ?_
     refine rk_v rfl rfl rfl (fun wq hQ => ov_load rfl Try.underlying23 rfl rfl (by exact (hrd3 ((hQ.own).sub hs3)).1 i hi0 (by omega))) ?_
     refine rk_call callable_14 rfl rfl rfl rfl rfl rfl (fun wq hQ => (ints5_any (A i) (A3 i) (Lr i) (C i) (L3 i) (C3 i) (R i) (R3 i) _ (by omega) ((hrd ((hQ.own).sub hsr)).2 i hi0 c1) ((hrd3 ((hQ.own).sub hs3)).2 i hi0 (by omega))).mono fun _ _ ⟨⟨y, h1, h2⟩, h3⟩ => ⟨h1.trans (by rw [h2.2 ⟨hl1, hl2⟩]), ⟨(hQ.own).past h3⟩⟩) ?_
     refine rk_v rfl rfl rfl (fun wq hQ => ov_not rfl rfl) ?_
     refine rk_nil (fun w92 hQ => ?_)
     first | refine run_cond_dec rfl (fun bad => ?_) (fun bad => ?_) | refine run_cond rfl (fun bad => ?_) (fun bad => ?_)
     ·exfalso; exact Bool.noConfusion bad
     ·refine run_skip <| run_inBlock <| run_region <| rl_v rfl rfl rfl (ov_move rfl rfl) <| rl_v rfl rfl rfl (ov_add rfl rfl rfl (by omega)) ?_
      refine rl_v rfl rfl rfl (ov_assign rfl rfl) <| rl_nil ?_
      refine Run.use (ih88 (i + 1) _ ?_ ?_) (And.intro (by exact slot_int rfl (by first | omega)) (And.intro rfl (And.intro rfl trivial)))
      ·first | omega | (dsimp only; omega)
      ·exact ⟨by omega, by omega, (hQ.own)⟩
    ·refine run_exit rfl <| run_seq <| run_region ?_
     refine rl_call callable_17 rfl rfl rfl rfl rfl rfl (awake5_any sortRows_all _) (fun e93 w94 hp95 => ?_)
     obtain ⟨rfl, hb9⟩ := hp95
     refine ⟨_, rfl, ?_⟩
     have hO96 := hO9.past hb9
     refine rl_v rfl rfl rfl (ov_assign rfl rfl) <| rl_nil <| run_ret Try.func8 (res1 Try.results8 rfl) ?_
     exact ⟨rfl, hO96.below⟩
end Go.Proofs.Ytlldeifbfpmbaaa
