import Derived.Test.YtfbbagnpdfafjaaDtA
import Derived.Test.YtfbbagnpdfafjaaDtB
import Derived.Test.YtfbbagnpdfafjaaDtC
import Derived.Test.YtfbbagnpdfafjaaHbB
set_option maxRecDepth 100000
namespace Go.Proofs.Ytfbbagnpdfafjaa
open Go.RowKit Go.Proofs
theorem smallTop_any (n most : Int) (B : Nat) (H : List (Option Blk)) (w0 w : World) (hO : Own B w0 w H) (hm : 0 ≤ most ∧ most ≤ 1000000) :
  Calls Try.prog 45 #[iv n, iv most] w fun e w' => e = .returned (iv (sml n most)) ∧ Own B w0 w' H := by
 have hr := sml_rng n hm.1
 have h0 : 0 ≤ n % 18446744073709551616 := Int.emod_nonneg _ (by decide)
 refine calls_of_run (F := [(0, _), (1, _)]) Try.func45 rfl Try.ntmps45 rfl rfl <| run_seq <| run_region <| rl_v rfl rfl rfl (ov_assign rfl rfl) <| rl_nil <| run_seq <| run_region <| rl_v rfl rfl rfl (ov_move rfl rfl) <| rl_v rfl rfl rfl (nv (ov_conv rfl Try.underlying2 Try.underlying90 rfl) (IntKind.wrap_u64 n)) <| rl_v rfl rfl rfl (ov_move rfl rfl) <| rl_v rfl rfl rfl (ov_add rfl rfl rfl (by omega)) ?_
 refine rl_v rfl rfl rfl (nv (ov_conv rfl Try.underlying2 Try.underlying90 rfl) ((IntKind.wrap_u64 (most + 1)).trans (Int.emod_eq_of_lt (by omega) (by omega)))) ?_
 refine rl_v rfl rfl rfl (ov_rem rfl rfl rfl h0 (by omega)) ?_
 refine rl_v rfl rfl rfl (nv (ov_conv rfl Try.underlying90 Try.underlying2 rfl) (IntWalk.i64_in _ (by show _ ≤ sml n most ∧ sml n most ≤ _; omega))) ?_
 refine rl_v rfl rfl rfl (ov_assign rfl rfl) <| rl_nil <| run_ret Try.func45 (res1 Try.results45 rfl) ?_
 exact ⟨rfl, hO⟩
theorem default_t (hb B : Nat) (X : HM) (i : Int) (Pl R : List (Option Blk)) (w0 w : World) (h : HAt B w0 w hb X Pl R) (hG : HG X) (hm20 : X.mem < 20) (hZ : HZ X) (l : List Int) (hl : X.loss i = l) : Calls Try.prog 29 #[ptr hb, iv i] w fun e w' => e = .returned (.tuple #[.agg (lossV l).toArray, iv (X.act i)]) ∧ HAt B w0 w' hb (X.dflt i) Pl R := by
 subst hl
 exact default_any hb B X i Pl R w0 w h hG hm20 hZ
def argQ (P : Int → Int) (n : Nat) (most j : Int) : Int := if 1 ≤ j ∧ j - 1 < n then sml (P (j - 1)) most else 0
theorem argQ_rng (P : Int → Int) (n : Nat) {most : Int} (h : 0 ≤ most) (j : Int) : 0 ≤ argQ P n most j ∧ argQ P n most j ≤ most := by
 unfold argQ
 split
 ·exact sml_rng _ h
 ·omega
theorem upd_next {f : Int → Int} {m x : Int} (h : x = f (m + 1)) : upd (fun t => f (t + 1)) m x = fun t => f (t + 1) := by
 funext j
 unfold upd
 split
 ·rename_i e; rw [e, h]
 ·rfl
theorem Dq.last {Q C : Int → Int} {n : Nat} {i s : Int} {X : HM} (h : Dq Q C n i s (100 - C (i - 1)) (C (i - 1)) (-(Q (i - 1))) X) (hi : i = n) (hs : s = sm Q n) : Dz Q C n X :=
 ⟨h.mem, h.mo, h.pr, h.out, ⟨h.a0.1, h.a0.2.1, by rw [h.a0.2.2, hs]⟩, fun j j0 j1 => by
  by_cases c : j = i - 1
  ·rw [c]; exact h.it
  ·exact h.don j j0 (by omega)⟩
theorem HAt.split {B : Nat} {w0 w : World} {hb : Nat} {X : HM} {Pl R : List (Option Blk)} (h : HAt B w0 w hb X Pl R) (total : Int) (ao : Option Addr) (n c : Nat) (W : Int → Int) (hs : SrcI R ao n W) (hn : n < 20) (hW : ∀ i : Int, 0 ≤ i → i < n → 0 ≤ W i ∧ W i ≤ 1000000000) (ht : 0 ≤ total ∧ total ≤ sm W n) :
  Calls Try.prog 46 #[iv total, .slice ao n c] w fun e w' => ∃ b out, e = .returned (.tuple #[.slice (some ⟨b, 0, none⟩) n n, iv 0]) ∧ Shr total n W out ∧ HAt B w0 w' hb X Pl (some (vch b 2 n (fun i => iv (out i))) :: R) := by
 obtain ⟨K, N, hO, hK, hPl⟩ := h
 exact (Split_any total ao n c B W _ w0 w hO (hs.sub (.cons _ (.cons _ (List.sublist_append_right _ _)))) hn hW ht).mono fun e w' ⟨b, out, h1, h2, h3⟩ => ⟨b, out, h1, h2, K, N, h3.sink, hK, hPl⟩
theorem Dy.dealt_rng {Q C : Int → Int} {k : Nat} {p : Int} {X : HM} (h : Dy Q C (k + 1) p X) (hQ : ∀ t : Int, 0 ≤ Q t ∧ Q t ≤ 20) (hQ0 : Q 0 = 0) (hC : ∀ t : Int, 0 ≤ C t ∧ C t ≤ 30) (hp : 1 ≤ p ∧ p ≤ 500) {os op og : Int → Int} {lf lg : Int} (hs : Shr (sm Q ((k + 1 : Nat) : Int)) k (fun t => Q (t + 1)) os) (hf : Shr lf k (fun t => C (t + 1)) op) (hg : Shr lg k (fun t => (X.ac (t + 1)).cash) og)
  (bf : 0 ≤ lf ∧ lf ≤ sm (fun t => C (t + 1)) k) (bg : 0 ≤ lg ∧ lg ≤ sm (fun t => (X.ac (t + 1)).cash) k) {t : Int} (t0 : 0 ≤ t) (t1 : t < k) : (0 ≤ os t ∧ os t ≤ 20) ∧ (0 ≤ op t ∧ op t ≤ 30) ∧ 0 ≤ og t ∧ og t ≤ 20000 := by
 have hS : 0 ≤ sm Q ((k + 1 : Nat) : Int) := sm_nonneg fun l _ _ => (hQ l).1
 have eS : sm Q ((k + 1 : Nat) : Int) = sm (fun t => Q (t + 1)) k := by rw [sm_shift Q k, hQ0, Int.zero_add]
 have h1 := hs.le (fun i _ _ => (hQ (i + 1)).1) hS (by rw [eS]; exact Int.le_refl _) t t0 t1
 have h2 := hf.le (fun i _ _ => (hC (i + 1)).1) bf.1 bf.2 t t0 t1
 have hc := fun {i : Int} (i0 : 0 ≤ i) (i1 : i < k) => h.cash hQ hC hp (t := i + 1) (by omega) (by omega)
 have h3 := hg.le (fun i i0 i1 => by have := hc i0 i1; omega) bg.1 bg.2 t t0 t1
 have h4 := hQ (t + 1)
 have h5 := hC (t + 1)
 have h6 := hc t0 t1
 omega
set_option maxHeartbeats 4000000 in
theorem dealtTop_any (aa0 ab0 : Option Addr) (n0 c0 n1 c1 : Nat) (P0 F0 : Int → Int) (price : Int) (w : World) (h0 : IAt w.heap.size w aa0 n0 (fun i => iv (P0 i))) (h1 : IAt w.heap.size w ab0 n1 (fun i => iv (F0 i))) :
  Calls Try.prog 13 #[.slice aa0 n0 c0, .slice ab0 n1 c1, iv price] w fun e w' => e = .returned (.bool true) ∧ Below w.heap.size w w' := by
 obtain ⟨gb, go, hga, hrow0⟩ := h0.open
 obtain ⟨kb, ko, hka, hrow1⟩ := h1.open
 obtain ⟨K, hK⟩ : ∃ K : Nat, ((K + 1 : Nat) : Int) = 3 + min (n0 : Int) 6 := ⟨2 + min n0 6, by omega⟩
 have hK9 : 2 ≤ K ∧ K ≤ 8 := by omega
 obtain ⟨Q, hQd⟩ : ∃ Q, Q = argQ P0 n0 20 := ⟨_, rfl⟩
 obtain ⟨C, hCd⟩ : ∃ C, C = argQ F0 n1 30 := ⟨_, rfl⟩
 have hQ : ∀ t : Int, 0 ≤ Q t ∧ Q t ≤ 20 := by rw [hQd]; exact argQ_rng _ _ (by decide)
 have hC : ∀ t : Int, 0 ≤ C t ∧ C t ≤ 30 := by rw [hCd]; exact argQ_rng _ _ (by decide)
 have hQ0 : Q 0 = 0 := by rw [hQd]; exact if_neg (fun h => absurd h.1 (by decide))
 have hC0 : C 0 = 0 := by rw [hCd]; exact if_neg (fun h => absurd h.1 (by decide))
 have hsQ : ∀ k : Int, 0 ≤ k → k ≤ 20 → 0 ≤ sm Q k ∧ sm Q k ≤ k * 20 := fun k k0 _ => ⟨sm_nonneg fun l _ _ => (hQ l).1, sm_bound 20 k0 fun l _ _ => (hQ l).2⟩
 refine calls_of_run (F := [(0, _), (1, _), (2, _)]) Try.func13 rfl Try.ntmps13 rfl rfl <| run_seq <| run_region <| rl_v rfl rfl rfl (ov_assign rfl rfl) <| rl_nil <| run_seq <| run_region <| rl_v rfl rfl rfl (ov_move rfl rfl) <| rl_v rfl rfl rfl (ov_len rfl Try.underlying22 rfl) <| rl_v rfl rfl rfl (ov_min rfl rfl rfl) <| rl_v rfl rfl rfl (nv (ov_add rfl rfl rfl (by omega)) hK.symm) ?_
 refine rl_v rfl rfl rfl (ov_assign rfl rfl) <| rl_nil <| run_seq <| run_region <| rl_v rfl rfl rfl (ov_move rfl rfl) <| rl_ow rfl (ow_build1 [_] rfl rfl rfl rfl rfl Try.underlying22 info_2 (by decide) (Own.init w) rfl rfl) ?_
 rintro _ w1 ⟨b43, rfl, hO2, hs3⟩
 have s0 : SrcI ([some (vch b43 2 1 fun i => [Value.int IntKind.i64 500].getD i.toNat undef)]) (some ⟨b43, 0, none⟩) 1 (fun _ => 500) := fun B w0 w hO => (hO.reads 0 rfl 1 (Nat.le_refl _)).congr fun i hi => by
  have : i = 0 := by omega
  subst this
  rfl
 have s9 : TSrc ([some (vch b43 2 1 fun i => [Value.int IntKind.i64 500].getD i.toNat undef)]) none 0 (fun _ => 1) (fun _ _ => 0) := ⟨fun _ => none, fun _ => 0, fun B w0 w hO => IAt.nil _ _ _ _, fun r r0 r1 => by omega, fun r r0 r1 => by omega⟩
 refine rl_v rfl rfl rfl (ov_buildL rfl lay_40 rfl (us := [_, _, _, _, _, _]) rfl) ?_
 refine rl_call callable_17 rfl rfl rfl rfl rfl rfl (newGood ((K + 1 : Nat) : Int) 1 (some ⟨b43, 0, none⟩) none 1 1 0 0 0 10 (fun _ => 500) (fun _ => 1) (fun _ _ => 0) w.heap.size _ w w1 hO2 s0 s9 (by omega) (by decide) (by decide) (by decide) (by decide) (by decide) (fun _ _ i1 => by omega) (fun _ _ _ => by decide) (fun _ i0 i1 => by omega)) (fun e4 w5 hp6 => ?_)
 obtain ⟨hb, rfl, hA0⟩ := hp6
 refine ⟨_, rfl, ?_⟩
 obtain ⟨X0, hX0⟩ : ∃ X0, X0 = HM.new ((K + 1 : Nat) : Int) 1 0 (fun _ => 500) (fun _ _ => 0) 0 10 := ⟨_, rfl⟩
 rw [← hX0] at hA0
 have hB0 : HB 0 X0 := by rw [hX0]; exact HB.new (by omega) (by decide) (by decide) (fun m m0 m1 => by decide) (fun i i0 i1 => by omega) (by decide) (by decide)
 have e1 : sm Q (2 - 1) = 0 := by
  rw [show (2 - 1 : Int) = 0 + 1 by decide, sm_succ Q (by decide), hQ0]
  rfl
 have hD0 : Dq Q C (K + 1) 2 0 0 0 0 X0 := by
  rw [hX0]
  exact ⟨Int.toNat_natCast _, rfl, rfl, rfl, rfl, rfl, fun _ _ _ => rfl, ⟨rfl, rfl, rfl⟩, fun j j0 j1 => by omega, ⟨rfl, rfl, rfl⟩, fun _ _ _ => ⟨rfl, rfl, rfl⟩⟩
 clear hX0
 refine rl_v rfl rfl rfl (ov_move rfl rfl) <| rl_v rfl rfl rfl (ov_extract rfl rfl (by rfl)) ?_
 refine rl_v rfl rfl rfl (ov_extract rfl rfl (by rfl)) ?_
 refine rl_v rfl rfl rfl (ov_assign rfl rfl) <| rl_v rfl rfl rfl (ov_assign rfl rfl) <| rl_nil <| run_seq <| run_seq <| run_region <| rl_v rfl rfl rfl (ov_move rfl rfl) <| rl_v rfl rfl rfl (ov_neq rfl rfl rfl) <| rl_v rfl rfl rfl (ov_move rfl rfl) ?_
 first | refine rl_noD 50 rfl (fun h => h rfl) ?_ | refine rl_no 50 rfl (fun h => h rfl) ?_
 refine rl_gv rfl rfl rfl rfl rfl (ov_move rfl rfl) <| rl_gv rfl rfl rfl rfl rfl (ov_ptrnil rfl Try.underlying30 rfl) <| rl_v rfl rfl rfl (ov_pick_f rfl rfl rfl) <| rl_nil <| run_cond_f rfl ?_
 have hA1 : HAt w.heap.size w w5 hb X0 [] ([none, none] ++ [some (vch b43 2 1 fun i => [Value.int IntKind.i64 500].getD i.toNat undef)]) := by
  obtain ⟨K1, N1, hO1, hK1, hP1⟩ := hA0
  exact HAt.puts [none, none] hO1.nil_cons.nil_cons hK1 hP1
 refine run_skip <| run_seq <| run_region <| rl_v rfl rfl rfl (ov_assign rfl rfl) <| rl_nil <| run_seq <| run_region <| rl_v rfl rfl rfl (ov_assign rfl rfl) <| rl_v rfl rfl rfl (ov_assign rfl rfl) <| rl_nil <| run_seq <| run_seq <| run_region <| rl_v rfl rfl rfl (ov_assign rfl rfl) <| rl_nil <| run_block <| Run.keep [0, 1, 2, 7, 8, 10, 11, 12, 13] (F' := [(0, _), (1, _), (2, _), (7, _), (8, _), (10, _), (11, _), (12, _), (13, _)]) rfl <| run_loop5 (fun (i : Int) (s : Int) (Y : HM) (v : Value) (u : Value) => [(13, .int .i64 i), (10, .int .i64 s), (11, v), (12, u)]) [0, 1, 2, 7, 8] (fun (i : Int) (s : Int) (Y : HM) (v : Value) (u : Value) (w7 : World) => (2 ≤ i ∧ i ≤ (K : Int) + 2) ∧ s = sm Q (i - 1) ∧ ∃ (m : Nat) (cv cu : Option Blk), i = (m : Int) + 2 ∧ HB (3 * m) Y ∧ (i ≤ (K : Int) + 1 → Dq Q C (K + 1) i s 0 0 0 Y) ∧ (i = (K : Int) + 2 → Dz Q C (K + 1) Y) ∧ IRow v 2 m (fun t => iv (Q (t + 1))) cv ∧ IRow u 2 m (fun t => iv (C (t + 1))) cu ∧ HAt w.heap.size w w7 hb Y [] ([cv, cu] ++ [some (vch b43 2 1 fun i => [Value.int IntKind.i64 500].getD i.toNat undef)])) (fun (i : Int) (s : Int) (Y : HM) (v : Value) (u : Value) => ((K : Int) + 2 - i).toNat) (2) (0) (X0) (.slice none 0 0) (.slice none 0 0) ?_ (And.intro (by exact slot_int rfl (by first | omega)) (And.intro (by exact slot_int rfl (by first | omega)) (And.intro rfl (And.intro rfl (And.intro rfl (And.intro rfl (And.intro rfl (And.intro rfl (And.intro rfl trivial))))))))) ?_
 ·exact ⟨by omega, e1.symm, 0, none, none, rfl, hB0, fun _ => hD0, fun h => by omega, IRow.nil _ _, IRow.nil _ _, hA1⟩
 intro i s Y v u w7 hIw7 ih8
 obtain ⟨hi, hss, m, cv, cu, him, hYB, hD, hDz, hv, hu, hA⟩ := hIw7
 show Run _ _ _ _ [(13, _), (10, _), (11, _), (12, _), (0, _), (1, _), (2, _), (7, _), (8, _)] _ _
 refine run_seq <| run_seq <| run_region <| rl_v rfl rfl rfl (ov_move rfl rfl) <| rl_v rfl rfl rfl (ov_move rfl rfl) <| rl_v rfl rfl rfl (ov_leq rfl rfl rfl) <| rl_nil ?_
 first | refine run_cond_dec rfl (fun hl1 => ?_) (fun hl1 => ?_) | refine run_cond rfl (fun hl1 => ?_) (fun hl1 => ?_)
 ·have hiK : 2 ≤ i ∧ i ≤ ((K + 1 : Nat) : Int) := by omega
  replace hD := hD (by omega)
  refine run_skip <| run_seq <| run_block <| run_seq <| run_region <| rl_v rfl rfl rfl (ov_assign rfl rfl) <| rl_v rfl rfl rfl (ov_assign rfl rfl) <| rl_nil <| run_seq <| run_seq <| run_region <| rl_v rfl rfl rfl (ov_move rfl rfl) <| rl_v rfl rfl rfl (ov_sub rfl rfl rfl (by omega)) ?_
  refine rl_v rfl rfl rfl (ov_move rfl rfl) <| rl_v rfl rfl rfl (ov_len rfl Try.underlying22 rfl) <| rl_v rfl rfl rfl (ov_lss rfl rfl rfl) <| rl_nil <| Run.keep [0, 1, 2, 7, 8, 10, 11, 12, 13, 14, 15, 63] (F' := [(0, _), (1, _), (2, _), (7, _), (8, _), (10, _), (11, _), (12, _), (13, _), (14, _), (15, _), (63, _)]) rfl <| run_join1 (fun (q : Int) => [(14, .int .i64 q)]) [0, 1, 2, 7, 8, 10, 11, 12, 13, 15] (fun (q : Int) (w9 : World) => q = Q (i - 1) ∧ HAt w.heap.size w w9 hb Y [] ([cv, cu] ++ [some (vch b43 2 1 fun i => [Value.int IntKind.i64 500].getD i.toNat undef)])) (fun hk10 => ?_) ?_
  ·first | refine run_cond_dec rfl (fun hp1 => ?_) (fun hp1 => ?_) | refine run_cond rfl (fun hp1 => ?_) (fun hp1 => ?_)
   ·refine run_region <| rl_v rfl rfl rfl (ov_move rfl rfl) <| rl_v rfl rfl rfl (ov_move rfl rfl) <| rl_v rfl rfl rfl (ov_sub rfl rfl rfl (by omega)) ?_
    refine rl_v rfl rfl rfl (ov_index1 rfl Try.underlying22 (by kernel_rfl) rfl rfl ⟨by omega, by omega⟩ (by exact (hga (by omega)))) ?_
    refine rl_v rfl rfl rfl (ov_load rfl Try.underlying2 rfl rfl (by exact hrow0 _ (hA.fr).below (i - 2) (by omega) (by omega))) ?_
    refine rl_call callable_45 rfl rfl rfl rfl rfl rfl (hA.call1 (Q := fun e => e = _) (fun H hO _ => smallTop_any (P0 (i - 2)) 20 w.heap.size H w w7 hO (by decide))) (fun e11 w12 hp13 => ?_)
    obtain ⟨rfl, hA2⟩ := hp13
    refine ⟨_, rfl, ?_⟩
    refine rl_v rfl rfl rfl (ov_assign rfl rfl) <| rl_nil ?_
    refine Run.use (hk10 (sml (P0 (i - 2)) 20) _ ?_) (And.intro (by exact slot_int rfl (by first | omega)) (And.intro rfl (And.intro rfl (And.intro rfl (And.intro rfl (And.intro rfl (And.intro rfl (And.intro rfl (And.intro rfl (And.intro rfl (And.intro rfl trivial)))))))))))
    exact ⟨by rw [hQd]; unfold argQ; rw [if_pos (by omega), show i - 1 - 1 = i - 2 by omega], hA2⟩
   ·refine run_skip ?_
    refine Run.use (hk10 (0) _ ?_) (And.intro (by exact slot_int rfl (by first | omega)) (And.intro rfl (And.intro rfl (And.intro rfl (And.intro rfl (And.intro rfl (And.intro rfl (And.intro rfl (And.intro rfl (And.intro rfl (And.intro rfl trivial)))))))))))
    exact ⟨by rw [hQd]; unfold argQ; rw [if_neg (by omega)], hA⟩
  ·intro q w9 hJw9
   obtain ⟨hq, hA2⟩ := hJw9
   show Run _ _ _ _ [(14, _), (0, _), (1, _), (2, _), (7, _), (8, _), (10, _), (11, _), (12, _), (13, _), (15, _)] _ _
   refine run_seq <| run_seq <| run_region <| rl_v rfl rfl rfl (ov_move rfl rfl) <| rl_v rfl rfl rfl (ov_sub rfl rfl rfl (by omega)) ?_
   refine rl_v rfl rfl rfl (ov_move rfl rfl) <| rl_v rfl rfl rfl (ov_len rfl Try.underlying22 rfl) <| rl_v rfl rfl rfl (ov_lss rfl rfl rfl) <| rl_nil <| Run.keep [0, 1, 2, 7, 8, 10, 11, 12, 13, 14, 15, 74] (F' := [(0, _), (1, _), (2, _), (7, _), (8, _), (10, _), (11, _), (12, _), (13, _), (14, _), (15, _), (74, _)]) rfl <| run_join1 (fun (c : Int) => [(15, .int .i64 c)]) [0, 1, 2, 7, 8, 10, 11, 12, 13, 14] (fun (c : Int) (w14 : World) => c = C (i - 1) ∧ HAt w.heap.size w w14 hb Y [] ([cv, cu] ++ [some (vch b43 2 1 fun i => [Value.int IntKind.i64 500].getD i.toNat undef)])) (fun hk15 => ?_) ?_
   ·first | refine run_cond_dec rfl (fun hp2 => ?_) (fun hp2 => ?_) | refine run_cond rfl (fun hp2 => ?_) (fun hp2 => ?_)
    ·refine run_region <| rl_v rfl rfl rfl (ov_move rfl rfl) <| rl_v rfl rfl rfl (ov_move rfl rfl) <| rl_v rfl rfl rfl (ov_sub rfl rfl rfl (by omega)) ?_
     refine rl_v rfl rfl rfl (ov_index1 rfl Try.underlying22 (by kernel_rfl) rfl rfl ⟨by omega, by omega⟩ (by exact (hka (by omega)))) ?_
     refine rl_v rfl rfl rfl (ov_load rfl Try.underlying2 rfl rfl (by exact hrow1 _ (hA2.fr).below (i - 2) (by omega) (by omega))) ?_
     refine rl_call callable_45 rfl rfl rfl rfl rfl rfl (hA2.call1 (Q := fun e => e = _) (fun H hO _ => smallTop_any (F0 (i - 2)) 30 w.heap.size H w w9 hO (by decide))) (fun e16 w17 hp18 => ?_)
     obtain ⟨rfl, hA3⟩ := hp18
     refine ⟨_, rfl, ?_⟩
     refine rl_v rfl rfl rfl (ov_assign rfl rfl) <| rl_nil ?_
     refine Run.use (hk15 (sml (F0 (i - 2)) 30) _ ?_) (And.intro (by exact slot_int rfl (by first | omega)) (And.intro rfl (And.intro rfl (And.intro rfl (And.intro rfl (And.intro rfl (And.intro rfl (And.intro rfl (And.intro rfl (And.intro rfl (And.intro rfl trivial)))))))))))
     exact ⟨by rw [hCd]; unfold argQ; rw [if_pos (by omega), show i - 1 - 1 = i - 2 by omega], hA3⟩
    ·refine run_skip ?_
     refine Run.use (hk15 (0) _ ?_) (And.intro (by exact slot_int rfl (by first | omega)) (And.intro rfl (And.intro rfl (And.intro rfl (And.intro rfl (And.intro rfl (And.intro rfl (And.intro rfl (And.intro rfl (And.intro rfl (And.intro rfl trivial)))))))))))
     exact ⟨by rw [hCd]; unfold argQ; rw [if_neg (by omega)], hA2⟩
   ·intro c w14 hJw14
    obtain ⟨hc, hA3⟩ := hJw14
    show Run _ _ _ _ [(15, _), (0, _), (1, _), (2, _), (7, _), (8, _), (10, _), (11, _), (12, _), (13, _), (14, _)] _ _
    have hqr := hQ (i - 1)
    have hcr := hC (i - 1)
    rw [← hq] at hqr
    rw [← hc] at hcr
    refine run_seq <| run_seq <| run_region <| rl_v rfl rfl rfl (ov_move rfl rfl) <| rl_v rfl rfl rfl (ov_move rfl rfl) ?_
    refine rl_call callable_23 rfl rfl rfl rfl rfl rfl (deposit_any hb w.heap.size Y i 100 [] _ w w14 hA3 (hYB.hg (by omega))) (fun e19 w20 hp21 => ?_)
    obtain ⟨rfl, hA4⟩ := hp21
    refine ⟨_, rfl, ?_⟩
    refine rl_v rfl rfl rfl (ov_neq rfl rfl rfl) <| rl_nil ?_
    first | refine run_cond_dec rfl (fun bad => ?_) (fun bad => ?_) | refine run_cond rfl (fun bad => ?_) (fun bad => ?_)
    ·exfalso; exact bad (hD.mny hiK (by decide))
    ·have hD1 := hD.deposit hiK
     have hY1 := hYB.deposit i 100
     obtain ⟨Y1, hY1e⟩ : ∃ Y1, Y1 = Y.deposit i 100 := ⟨_, rfl⟩
     rw [← hY1e] at hD1 hY1 hA4
     refine run_skip <| run_seq <| run_seq <| Run.keep [0, 1, 2, 7, 8, 10, 11, 12, 13, 14, 15] (F' := [(0, _), (1, _), (2, _), (7, _), (8, _), (10, _), (11, _), (12, _), (13, _), (14, _), (15, _)]) rfl <| run_join2 (fun (Y2 : HM) (z : Int) => [(93, .bool (decide (z ≠ 0)))]) [0, 1, 2, 7, 8, 10, 11, 12, 13, 14, 15] (fun (Y2 : HM) (z : Int) (w22 : World) => z = 0 ∧ HB (3 * m + 1 + 1) Y2 ∧ Dq Q C (K + 1) i s (100 - c) c 0 Y2 ∧ HAt w.heap.size w w22 hb Y2 [] ([cv, cu] ++ [some (vch b43 2 1 fun i => [Value.int IntKind.i64 500].getD i.toNat undef)])) (fun hk23 => ?_) ?_
     ·refine run_region <| rl_v rfl rfl rfl (ov_move rfl rfl) <| rl_v rfl rfl rfl (ov_gtr rfl rfl rfl) <| rl_v rfl rfl rfl (ov_move rfl rfl) ?_
      first | refine rl_split_dec 87 rfl (fun g1 => ?_) (fun g1 => ?_) | refine rl_split 87 rfl (fun g1 => ?_) (fun g1 => ?_)
      ·refine rl_gv rfl rfl rfl rfl rfl (ov_move rfl rfl) <| rl_gv rfl rfl rfl rfl rfl (ov_move rfl rfl) <| rl_gv rfl rfl rfl rfl rfl (ov_move rfl rfl) ?_
       refine rl_gcall callable_27 rfl rfl rfl rfl rfl rfl rfl rfl (contribute_any hb w.heap.size Y1 i c [] _ w w20 hA4 (hY1.hg (by omega))) (fun e25 w26 hp27 => ?_)
       obtain ⟨rfl, hA5⟩ := hp27
       refine ⟨_, rfl, ?_⟩
       refine rl_gv rfl rfl rfl rfl rfl (ov_neq rfl rfl rfl) <| rl_v rfl rfl rfl (ov_pick_t rfl rfl rfl) <| rl_nil ?_
       refine Run.use (hk23 (Y1.contrib i c) (Y1.spd i c) _ ?_) (And.intro (by rfl) (And.intro rfl (And.intro rfl (And.intro rfl (And.intro rfl (And.intro rfl (And.intro rfl (And.intro rfl (And.intro rfl (And.intro rfl (And.intro rfl (And.intro rfl trivial))))))))))))
       exact ⟨hD1.spd hiK (by omega), hY1.contrib i c, hD1.contrib hiK (by omega), hA5⟩
      ·refine rl_gskip rfl rfl rfl rfl rfl rfl <| rl_gskip rfl rfl rfl rfl rfl rfl <| rl_gskip rfl rfl rfl rfl rfl rfl <| rl_gskip rfl rfl rfl rfl rfl rfl <| rl_gskip rfl rfl rfl rfl rfl rfl <| rl_v rfl rfl rfl (ov_pick_f rfl rfl rfl) <| rl_nil ?_
       refine Run.use (hk23 (Y1) (0) _ ?_) (And.intro (by rfl) (And.intro rfl (And.intro rfl (And.intro rfl (And.intro rfl (And.intro rfl (And.intro rfl (And.intro rfl (And.intro rfl (And.intro rfl (And.intro rfl (And.intro rfl trivial))))))))))))
       exact ⟨rfl, hY1.next, hD1.cast (by omega) (by omega) rfl, hA4⟩
     ·intro Y2 z w22 hJw22
      obtain ⟨hz, hY2, hD2, hA5⟩ := hJw22
      show Run _ _ _ _ [(93, _), (0, _), (1, _), (2, _), (7, _), (8, _), (10, _), (11, _), (12, _), (13, _), (14, _), (15, _)] _ _
      first | refine run_cond_dec rfl (fun bad => ?_) (fun bad => ?_) | refine run_cond rfl (fun bad => ?_) (fun bad => ?_)
      ·exfalso; exact bad hz
      ·refine run_skip <| run_seq <| run_seq <| run_region <| rl_v rfl rfl rfl (ov_move rfl rfl) <| rl_v rfl rfl rfl (ov_gtr rfl rfl rfl) <| rl_nil <| Run.keep [0, 1, 2, 7, 8, 10, 11, 12, 13, 14, 15, 95] (F' := [(0, _), (1, _), (2, _), (7, _), (8, _), (10, _), (11, _), (12, _), (13, _), (14, _), (15, _), (95, _)]) rfl <| run_join1 (fun (Y3 : HM) => []) [0, 1, 2, 7, 8, 10, 11, 12, 13, 14, 15] (fun (Y3 : HM) (w28 : World) => HB (3 * m + 1 + 1 + 1) Y3 ∧ Dq Q C (K + 1) i (s + q) (100 - c) c (-q) Y3 ∧ HAt w.heap.size w w28 hb Y3 [] ([cv, cu] ++ [some (vch b43 2 1 fun i => [Value.int IntKind.i64 500].getD i.toNat undef)])) (fun hk29 => ?_) ?_
       ·first | refine run_cond_dec rfl (fun hq1 => ?_) (fun hq1 => ?_) | refine run_cond rfl (fun hq1 => ?_) (fun hq1 => ?_)
        ·refine run_seq <| run_region <| rl_v rfl rfl rfl (ov_move rfl rfl) <| rl_v rfl rfl rfl (ov_move rfl rfl) <| rl_v rfl rfl rfl (ov_move rfl rfl) <| rl_v rfl rfl rfl (ov_buildL rfl lay_45 rfl (us := [_, _, _, _, _]) rfl) ?_
         refine rl_call callable_25 rfl rfl rfl rfl rfl rfl (trade_any hb w.heap.size Y2 ⟨1, i, 0, q, 500⟩ [] _ w w22 hA5 (hY2.hg (by omega))) (fun e30 w31 hp32 => ?_)
         obtain ⟨rfl, hA6⟩ := hp32
         refine ⟨_, rfl, ?_⟩
         refine rl_v rfl rfl rfl (ov_move rfl rfl) <| rl_v rfl rfl rfl (ov_extract rfl rfl (by rfl)) ?_
         refine rl_v rfl rfl rfl (ov_extract rfl rfl (by rfl)) ?_
         refine rl_v rfl rfl rfl (ov_assign rfl rfl) <| rl_v rfl rfl rfl (ov_assign rfl rfl) <| rl_nil <| run_seq <| run_region <| rl_v rfl rfl rfl (ov_move rfl rfl) <| rl_v rfl rfl rfl (ov_neq rfl rfl rfl) <| rl_nil ?_
         first | refine run_cond_dec rfl (fun bad => ?_) (fun bad => ?_) | refine run_cond rfl (fun bad => ?_) (fun bad => ?_)
         ·exfalso; exact bad (hD2.trd hiK (by omega) (by omega))
         ·refine run_skip ?_
          refine Run.use (hk29 (Y2.trade ⟨1, i, 0, q, 500⟩) _ ?_) (And.intro rfl (And.intro rfl (And.intro rfl (And.intro rfl (And.intro rfl (And.intro rfl (And.intro rfl (And.intro rfl (And.intro rfl (And.intro rfl (And.intro rfl trivial)))))))))))
          exact ⟨hY2.trade _ (by show q ≤ 100; omega), hD2.trade hiK (by omega) (by omega), hA6⟩
        ·refine run_skip ?_
         refine Run.use (hk29 (Y2) _ ?_) (And.intro rfl (And.intro rfl (And.intro rfl (And.intro rfl (And.intro rfl (And.intro rfl (And.intro rfl (And.intro rfl (And.intro rfl (And.intro rfl (And.intro rfl trivial)))))))))))
         exact ⟨hY2.next, (by rw [show q = 0 by omega, Int.add_zero]; exact hD2), hA5⟩
       ·intro Y3 w28 hJw28
        obtain ⟨hY3, hD3, hA6⟩ := hJw28
        show Run _ _ _ _ [(0, _), (1, _), (2, _), (7, _), (8, _), (10, _), (11, _), (12, _), (13, _), (14, _), (15, _)] _ _
        have hsq := sm_succ Q (k := i - 1) (by omega)
        rw [← hq, ← hss, show i - 1 + 1 = i + 1 - 1 by omega] at hsq
        have hsr := hsQ (i - 1) (by omega) (by omega)
        rw [← hss] at hsr
        obtain ⟨K2, N2, hO2, hK2, hP2⟩ := HAt.pull [cv, cu] [] hA6
        refine run_seq <| run_region <| rl_v rfl rfl rfl (ov_move rfl rfl) <| rl_v rfl rfl rfl (ov_move rfl rfl) <| rl_v rfl rfl rfl (ov_add rfl rfl rfl (by omega)) ?_
        refine rl_v rfl rfl rfl (ov_assign rfl rfl) <| rl_nil <| run_seq <| run_region <| rl_v rfl rfl rfl (ov_move rfl rfl) <| rl_v rfl rfl rfl (ov_move rfl rfl) ?_
        refine rl_appI rfl rfl rfl rfl rfl rfl rfl rfl Try.underlying22 info_2 rfl hO2 0 hv rfl rfl rfl ⟨by omega, by omega⟩ (fun v2 c2 w33 hO34 hv2 hs35 => ?_)
        refine rl_v rfl rfl rfl (ov_assign rfl rfl) <| rl_nil <| run_region <| rl_v rfl rfl rfl (ov_move rfl rfl) <| rl_v rfl rfl rfl (ov_move rfl rfl) ?_
        refine rl_appI rfl rfl rfl rfl rfl rfl rfl rfl Try.underlying22 info_2 rfl hO34 1 hu rfl rfl rfl ⟨by omega, by omega⟩ (fun u2 c3 w36 hO37 hu2 hs38 => ?_)
        have hA7 := HAt.puts [c2, c3] hO37 hK2 hP2
        rw [upd_next (f := Q) (by rw [hq, show (m : Int) + 1 = i - 1 by omega])] at hv2
        rw [upd_next (f := C) (by rw [hc, show (m : Int) + 1 = i - 1 by omega])] at hu2
        refine rl_v rfl rfl rfl (ov_assign rfl rfl) <| rl_nil <| run_inBlock <| run_region <| rl_v rfl rfl rfl (ov_move rfl rfl) <| rl_v rfl rfl rfl (ov_add rfl rfl rfl (by omega)) ?_
        refine rl_v rfl rfl rfl (ov_assign rfl rfl) <| rl_nil ?_
        refine Run.use (ih8 (i + 1) (s + q) (Y3) (v2) (u2) _ ?_ ?_) (And.intro (by exact slot_int rfl (by first | omega)) (And.intro (by exact slot_int rfl (by first | omega)) (And.intro rfl (And.intro rfl (And.intro rfl (And.intro rfl (And.intro rfl (And.intro rfl (And.intro rfl trivial)))))))))
        ·first | omega | (dsimp only; omega)
        ·exact ⟨by omega, hsq.symm, m + 1, c2, c3, by omega, hY3, fun h => (hD3.cast (by rw [hc]) hc (by rw [hq])).next (by omega), fun h => (hD3.cast (by rw [hc]) hc (by rw [hq])).last (by omega) (by rw [← hsq, show i + 1 - 1 = ((K + 1 : Nat) : Int) by omega]), hv2, hu2, hA7⟩
 ·obtain rfl : m = K := by omega
  replace hDz := hDz (by omega)
  obtain ⟨aw, cw, rfl⟩ := hv.val
  obtain ⟨af, cf, rfl⟩ := hu.val
  have hsS := hsQ ((m + 1 : Nat) : Int) (by omega) (by omega)
  have hsi : s = sm Q ((m + 1 : Nat) : Int) := by rw [hss, show i - 1 = ((m + 1 : Nat) : Int) by omega]
  have hpr := sml_rng price (show (0 : Int) ≤ 499 by decide)
  obtain ⟨p, hp⟩ : ∃ p, p = 1 + sml price 499 := ⟨_, rfl⟩
  have hp5 : 1 ≤ p ∧ p ≤ 500 := by omega
  refine run_exit rfl <| run_seq <| run_seq <| run_region <| rl_v rfl rfl rfl (ov_move rfl rfl) <| rl_v rfl rfl rfl (ov_move rfl rfl) ?_
  refine rl_call callable_45 rfl rfl rfl rfl rfl rfl (hA.call1 (Q := fun e => e = _) (fun H hO _ => smallTop_any price 499 w.heap.size H w w7 hO (by decide))) (fun e39 w40 hp41 => ?_)
  obtain ⟨rfl, hA8⟩ := hp41
  refine ⟨_, rfl, ?_⟩
  refine rl_v rfl rfl rfl (nv (ov_add rfl rfl rfl (by omega)) hp.symm) ?_
  refine rl_call callable_22 rfl rfl rfl rfl rfl rfl (mark_any hb w.heap.size Y 0 p [] _ w w40 hA8 (hYB.hg (by omega))) (fun e42 w43 hp44 => ?_)
  obtain ⟨vm, cm, rfl, hrm, hlm, hA9⟩ := hp44
  refine ⟨_, rfl, ?_⟩
  have hAa := hA9.shed
  have hXB := hYB.mark (by omega) 0 p (.inl (by omega))
  have hX := hDz.mark hp5
  obtain ⟨X, hXe⟩ : ∃ X, X = Y.mark 0 p := ⟨_, rfl⟩
  rw [← hXe] at hAa hXB hX
  have hXG := hXB.hg (by omega)
  have hXm := hX.mem
  have hXmo := hX.mo
  have hmn1 : X.mn = 1 := by unfold HM.mn; rw [hXmo]; rfl
  refine rl_v rfl rfl rfl (ov_move rfl rfl) <| rl_v rfl rfl rfl (ov_extract rfl rfl (by rfl)) ?_
  refine rl_v rfl rfl rfl (ov_extract rfl rfl (by rfl)) ?_
  refine rl_v rfl rfl rfl (ov_assign rfl rfl) <| rl_v rfl rfl rfl (ov_assign rfl rfl) <| rl_nil <| run_seq <| run_region <| rl_v rfl rfl rfl (ov_move rfl rfl) <| rl_v rfl rfl rfl (ov_neq rfl rfl rfl) <| rl_nil ?_
  first | refine run_cond_dec rfl (fun bad => ?_) (fun bad => ?_) | refine run_cond rfl (fun bad => ?_) (fun bad => ?_)
  ·exfalso; exact bad (hDz.mrk hp5)
  ·refine run_skip <| run_seq <| run_region <| rl_v rfl rfl rfl (ov_move rfl rfl) ?_
   refine rl_call callable_31 rfl rfl rfl rfl rfl rfl (account_in hb w.heap.size X [] _ w w43 hAa hXG 1 ⟨by decide, by omega⟩) (fun e45 w46 hp47 => ?_)
   obtain ⟨va, ca, rfl, hra, hAb⟩ := hp47
   refine ⟨_, rfl, ?_⟩
   obtain ⟨aa, pa9, rfl⟩ := hra.val
   obtain ⟨K3, N3, hO3, hK3, hP3⟩ := hAb.open
   refine rl_v rfl rfl rfl (ov_move rfl rfl) <| rl_v rfl rfl rfl (ov_extract rfl rfl (by rfl)) ?_
   refine rl_v rfl rfl rfl (ov_extract rfl rfl (by rfl)) ?_
   refine rl_ow rfl (ow_alloc _ rfl rfl rfl zero_64 rfl hO3) ?_
   rintro _ w48 ⟨b20, rfl, hO49, hs50⟩
   refine rl_ow rfl (ow_storeW rfl rfl (by kernel_rfl) hO49 0 rfl rfl (by rfl) rfl (by rfl)) ?_
   rintro _ w51 ⟨rfl, hO52, hs53⟩
   have hAc0 := HAt.puts [some (lch b20 64 [iv (X.acct 1).cash, iv (X.acct 1).fund, .slice aa X.mn pa9, .bool (X.acct 1).out])] hO52 hK3 hP3
   have hAc : HAt w.heap.size w w51 hb X [] (none :: some (lch b20 64 [iv (X.acct 1).cash, iv (X.acct 1).fund, .slice aa X.mn pa9, .bool (X.acct 1).out]) :: ca :: ([cv, cu] ++ [some (vch b43 2 1 fun i => [Value.int IntKind.i64 500].getD i.toNat undef)])) := by
    obtain ⟨K4, N4, hO4, hK4, hP4⟩ := hAc0
    exact HAt.puts [none] hO4.nil_cons hK4 hP4
   have hcash := fun {t : Int} (t0 : 1 ≤ t) (t1 : t < ((m + 1 : Nat) : Int)) => hX.cash hQ hC hp5 t0 t1
   refine rl_v rfl rfl rfl (ov_assign rfl rfl) <| rl_nil <| run_seq <| run_region <| rl_v rfl rfl rfl (ov_assign rfl rfl) <| rl_nil <| run_seq <| run_seq <| run_region <| rl_v rfl rfl rfl (ov_assign rfl rfl) <| rl_nil <| run_block <| Run.keep [7, 8, 10, 11, 12, 20, 21, 22, 23] (F' := [(7, _), (8, _), (10, _), (11, _), (12, _), (20, _), (21, _), (22, _), (23, _)]) rfl <| run_loop3 (fun (i2 : Int) (m2 : Nat) (v : Value) => [(23, .int .i64 i2), (22, v)]) [7, 8, 10, 11, 12, 20, 21] (fun (i2 : Int) (m2 : Nat) (v : Value) (w54 : World) => ((2 ≤ i2 ∧ i2 ≤ (m : Int) + 2) ∧ i2 = (m2 : Int) + 2) ∧ ∃ cg, IRow v 2 m2 (fun t => iv ((X.ac (t + 1)).cash)) cg ∧ HAt w.heap.size w w54 hb X [] (cg :: some (lch b20 64 [iv (X.acct 1).cash, iv (X.acct 1).fund, .slice aa X.mn pa9, .bool (X.acct 1).out]) :: ca :: ([cv, cu] ++ [some (vch b43 2 1 fun i => [Value.int IntKind.i64 500].getD i.toNat undef)]))) (fun (i2 : Int) (m2 : Nat) (v : Value) => ((m : Int) + 2 - i2).toNat) (2) (0) (.slice none 0 0) ?_ (And.intro (by exact slot_int rfl (by first | omega)) (And.intro rfl (And.intro rfl (And.intro rfl (And.intro rfl (And.intro rfl (And.intro rfl (And.intro rfl (And.intro rfl trivial))))))))) ?_
   ·exact ⟨⟨by omega, rfl⟩, none, IRow.nil _ _, hAc⟩
   intro i2 m2 v w54 hIw54 ih55
   obtain ⟨⟨hi2, him2⟩, cg, hg, hAd⟩ := hIw54
   show Run _ _ _ _ [(23, _), (22, _), (7, _), (8, _), (10, _), (11, _), (12, _), (20, _), (21, _)] _ _
   refine run_seq <| run_seq <| run_region <| rl_v rfl rfl rfl (ov_move rfl rfl) <| rl_v rfl rfl rfl (ov_move rfl rfl) <| rl_v rfl rfl rfl (ov_leq rfl rfl rfl) <| rl_nil ?_
   first | refine run_cond_dec rfl (fun hl2 => ?_) (fun hl2 => ?_) | refine run_cond rfl (fun hl2 => ?_) (fun hl2 => ?_)
   ·have hii : X.is i2 := ⟨by omega, by omega⟩
    refine run_skip <| run_seq <| run_block <| run_seq <| run_region <| rl_v rfl rfl rfl (ov_move rfl rfl) <| rl_v rfl rfl rfl (ov_move rfl rfl) ?_
    refine rl_call callable_31 rfl rfl rfl rfl rfl rfl (account_in hb w.heap.size X [] _ w w54 hAd hXG i2 hii) (fun e56 w57 hp58 => ?_)
    obtain ⟨vb, cb, rfl, hrb, hAe⟩ := hp58
    refine ⟨_, rfl, ?_⟩
    obtain ⟨ab, pb9, rfl⟩ := hrb.val
    obtain ⟨K4, N4, hO4, hK4, hP4⟩ := hAe.open
    refine rl_v rfl rfl rfl (ov_move rfl rfl) <| rl_v rfl rfl rfl (ov_extract rfl rfl (by rfl)) ?_
    refine rl_v rfl rfl rfl (ov_extract rfl rfl (by rfl)) ?_
    refine rl_ow rfl (ow_alloc _ rfl rfl rfl zero_64 rfl hO4) ?_
    rintro _ w59 ⟨b24, rfl, hO60, hs61⟩
    refine rl_ow rfl (ow_storeW rfl rfl (by kernel_rfl) hO60 0 rfl rfl (by rfl) rfl (by rfl)) ?_
    rintro _ w62 ⟨rfl, hO63, hs64⟩
    have hAf := HAt.puts [some (lch b24 64 [iv (X.acct i2).cash, iv (X.acct i2).fund, .slice ab X.mn pb9, .bool (X.acct i2).out])] hO63 hK4 hP4
    refine rl_v rfl rfl rfl (ov_assign rfl rfl) <| rl_nil <| run_seq <| run_seq <| run_region <| rl_v rfl rfl rfl (ov_move rfl rfl) <| rl_v rfl rfl rfl (ov_neq rfl rfl rfl) <| rl_nil ?_
    first | refine run_cond_dec rfl (fun bad => ?_) (fun bad => ?_) | refine run_cond rfl (fun bad => ?_) (fun bad => ?_)
    ·exfalso; exact bad rfl
    ·obtain ⟨K5, N5, hO5, hK5, hP5⟩ := HAt.pull [some (lch b24 64 [iv (X.acct i2).cash, iv (X.acct i2).fund, .slice ab X.mn pb9, .bool (X.acct i2).out]), cb, cg] [] hAf
     refine run_skip <| run_region <| rl_v rfl rfl rfl (ov_move rfl rfl) <| rl_v rfl rfl rfl (ov_fieldS rfl Try.underlying64 rfl (fo := 0) rfl (by kernel_rfl) rfl) ?_
     refine rl_v rfl rfl rfl (ov_load rfl Try.underlying2 rfl rfl (by exact (show _ = some (iv (X.acct i2).cash) from hO5.cellL 0 rfl (off := 0) rfl))) ?_
     refine rl_appI rfl rfl rfl rfl rfl rfl rfl rfl Try.underlying22 info_2 rfl hO5 2 hg rfl rfl rfl ⟨by omega, by omega⟩ (fun v3 c4 w65 hO66 hg3 hs67 => ?_)
     have hAg := (HAt.puts [some (lch b24 64 [iv (X.acct i2).cash, iv (X.acct i2).fund, .slice ab X.mn pb9, .bool (X.acct i2).out]), cb, c4] hO66 hK5 hP5).shed.shed
     rw [upd_next (f := fun t => (X.ac t).cash) (m := (m2 : Int)) (x := (X.acct i2).cash) (by show (X.ac (i2 - 1)).cash = _; rw [show i2 - 1 = (m2 : Int) + 1 by omega])] at hg3
     refine rl_v rfl rfl rfl (ov_assign rfl rfl) <| rl_nil <| run_inBlock <| run_region <| rl_v rfl rfl rfl (ov_move rfl rfl) <| rl_v rfl rfl rfl (ov_add rfl rfl rfl (by omega)) ?_
     refine rl_v rfl rfl rfl (ov_assign rfl rfl) <| rl_nil ?_
     refine Run.use (ih55 (i2 + 1) (m2 + 1) (v3) _ ?_ ?_) (And.intro (by exact slot_int rfl (by first | omega)) (And.intro rfl (And.intro rfl (And.intro rfl (And.intro rfl (And.intro rfl (And.intro rfl (And.intro rfl (And.intro rfl trivial)))))))))
     ·first | omega | (dsimp only; omega)
     ·exact ⟨⟨by omega, by omega⟩, c4, hg3, hAg⟩
   ·obtain rfl : m = m2 := by omega
    obtain ⟨ag, cgc, rfl⟩ := hg.val
    have hact := hX.act hXB
    obtain ⟨z1, z2, z3, z4, z5, hz, hF, hb3, hb4, _, _, _⟩ := hX.dealt (os := Q) (op := Q) (og := Q) hXB hQ hQ0 hC hC0 hp5
    have hZX := hXB.Z
    refine run_exit rfl <| run_seq <| run_region <| rl_v rfl rfl rfl (ov_move rfl rfl) ?_
    refine rl_call callable_29 rfl rfl rfl rfl rfl rfl (default_t hb w.heap.size X 1 [] _ w w54 hAd hXG (by omega) hZX _ hz) (fun e68 w69 hp70 => ?_)
    obtain ⟨rfl, hAh⟩ := hp70
    refine ⟨_, rfl, ?_⟩
    have hDB := hXB.dflt (by omega) 1
    have hDm : (X.dflt 1).mem = X.mem := congrArg Prod.fst (dfl_mem X 1)
    have hDo : (X.dflt 1).mo = X.mo := congrArg Prod.snd (dfl_mem X 1)
    obtain ⟨D, hDe⟩ : ∃ D, D = X.dflt 1 := ⟨_, rfl⟩
    rw [← hDe] at hAh hDB hDm hDo hF
    have hDG := hDB.hg (by omega)
    have hdn1 : D.mn = 1 := by unfold HM.mn; rw [hDo, hXmo]; rfl
    obtain ⟨K6, N6, hO6, hK6, hP6⟩ := hAh.open
    refine rl_v rfl rfl rfl (ov_move rfl rfl) <| rl_v rfl rfl rfl (ov_extract rfl rfl (by rfl)) ?_
    refine rl_v rfl rfl rfl (ov_extract rfl rfl (by rfl)) ?_
    refine rl_ow rfl (ow_alloc _ rfl rfl rfl zero_60 rfl hO6) ?_
    rintro _ w71 ⟨b26, rfl, hO72, hs73⟩
    refine rl_ow rfl (ow_storeW rfl rfl (by kernel_rfl) hO72 0 rfl rfl (by rfl) rfl (by rfl)) ?_
    rintro _ w74 ⟨rfl, hO75, hs76⟩
    have hAi := HAt.puts [some (lch b26 60 (lossV [z1, z2, z3, z4, z5]))] hO75 hK6 hP6
    have hsum := hF.sum
    obtain ⟨nn1, nn2, nn3, nn4, nn5⟩ := hF.nn
    have ha0 : (X.acct 1).cash = sm Q ((m + 1 : Nat) : Int) * (p - 500) := hX.a0.1
    have hap : (X.acct 1).pos 0 = sm Q ((m + 1 : Nat) : Int) := hX.a0.2.2
    have hneg : (X.acct 1).cash ≤ 0 ∧ -1000000 ≤ (X.acct 1).cash := by
     have e1 : sm Q ((m + 1 : Nat) : Int) * (p - 500) = -(sm Q ((m + 1 : Nat) : Int) * (500 - p)) := by rw [show p - 500 = -(500 - p) by omega, Int.mul_neg]
     have e2 : 0 ≤ sm Q ((m + 1 : Nat) : Int) * (500 - p) := Int.mul_nonneg hsS.1 (by omega)
     have e3 : sm Q ((m + 1 : Nat) : Int) * (500 - p) ≤ 180 * 499 := Int.mul_le_mul (by omega) (by omega) (by omega) (by decide)
     omega
    obtain ⟨qb, qo, eq, rq⟩ := (srcRow hra (k := 3) rfl).at (hAi.fr) (by omega)
    refine rl_v rfl rfl rfl (ov_assign rfl rfl) <| rl_nil <| run_seq <| run_seq <| run_region <| rl_v rfl rfl rfl (ov_move rfl rfl) <| rl_v rfl rfl rfl (ov_neq rfl rfl rfl) <| rl_v rfl rfl rfl (ov_move rfl rfl) ?_
    first | refine rl_noD 157 rfl (fun h => h rfl) ?_ | refine rl_no 157 rfl (fun h => h rfl) ?_
    refine rl_gv rfl rfl rfl rfl rfl (ov_move rfl rfl) <| rl_gv rfl rfl rfl rfl rfl (ov_neq rfl rfl rfl) <| rl_v rfl rfl rfl (ov_pick_f rfl rfl rfl) <| rl_v rfl rfl rfl (ov_move rfl rfl) ?_
    first | refine rl_noD 161 rfl (fun h => h hact) ?_ | refine rl_no 161 rfl (fun h => h hact) ?_
    refine rl_gv rfl rfl rfl rfl rfl (ov_fieldS rfl Try.underlying64 rfl (fo := 2) rfl (by kernel_rfl) rfl) ?_
    refine rl_gv rfl rfl rfl rfl rfl (ov_load rfl Try.underlying22 rfl rfl (by exact (hAi.fr).cellL 2 rfl (off := 2) rfl)) ?_
    refine rl_gv rfl rfl rfl rfl rfl (ov_len rfl Try.underlying22 rfl) <| rl_gv rfl rfl rfl rfl rfl (ov_neq rfl rfl rfl) <| rl_v rfl rfl rfl (ov_pick_f rfl rfl rfl) <| rl_v rfl rfl rfl (ov_move rfl rfl) ?_
    first | refine rl_noD 167 rfl ((by omega)) ?_ | refine rl_no 167 rfl ((by omega)) ?_
    refine rl_gv rfl rfl rfl rfl rfl (ov_fieldS rfl Try.underlying64 rfl (fo := 2) rfl (by kernel_rfl) rfl) ?_
    refine rl_gv rfl rfl rfl rfl rfl (ov_load rfl Try.underlying22 rfl rfl (by exact (hAi.fr).cellL 2 rfl (off := 2) rfl)) ?_
    refine rl_gv rfl rfl rfl rfl rfl (ov_index1 rfl Try.underlying22 (by kernel_rfl) rfl rfl ⟨by omega, by omega⟩ (by exact (id eq))) ?_
    refine rl_gv rfl rfl rfl rfl rfl (ov_load rfl Try.underlying2 rfl rfl (by exact (show _ = some (iv ((X.acct 1).pos 0)) from rq (hAi.fr) 0 (by decide) (by omega)))) ?_
    refine rl_gv rfl rfl rfl rfl rfl (ov_move rfl rfl) <| rl_gv rfl rfl rfl rfl rfl (ov_neq rfl rfl rfl) <| rl_v rfl rfl rfl (ov_pick_f rfl rfl rfl) <| rl_v rfl rfl rfl (ov_move rfl rfl) ?_
    first | refine rl_noD 175 rfl (fun h => h (by rw [hap, hsi])) ?_ | refine rl_no 175 rfl (fun h => h (by rw [hap, hsi])) ?_
    refine rl_gv rfl rfl rfl rfl rfl (ov_fieldS rfl Try.underlying64 rfl (fo := 0) rfl (by kernel_rfl) rfl) ?_
    refine rl_gv rfl rfl rfl rfl rfl (ov_load rfl Try.underlying2 rfl rfl (by exact (show _ = some (iv (X.acct 1).cash) from (hAi.fr).cellL 2 rfl (off := 0) rfl))) ?_
    refine rl_gv rfl rfl rfl rfl rfl (ov_gtr rfl rfl rfl) <| rl_v rfl rfl rfl (ov_pick_f rfl rfl rfl) <| rl_nil ?_
    first | refine run_cond_dec rfl (fun bad => ?_) (fun bad => ?_) | refine run_cond rfl (fun bad => ?_) (fun bad => ?_)
    ·exfalso; omega
    ·have eS : sm Q ((m + 1 : Nat) : Int) = sm (fun t => Q (t + 1)) m := by rw [sm_shift Q m, hQ0, Int.zero_add]
     refine run_skip <| run_seq <| run_region <| rl_v rfl rfl rfl (ov_move rfl rfl) <| rl_v rfl rfl rfl (ov_move rfl rfl) ?_
     refine rl_call callable_46 rfl rfl rfl rfl rfl rfl (hAi.split s aw m cw (fun t => Q (t + 1)) (srcRow hv (k := 4) rfl) (by omega) (fun t t0 t1 => by have := hQ (t + 1); omega) (by rw [hsi]; exact ⟨hsS.1, by rw [eS]; exact Int.le_refl _⟩)) (fun e77 w78 hp79 => ?_)
     obtain ⟨b28, os, rfl, hos, hAj⟩ := hp79
     refine ⟨_, rfl, ?_⟩
     refine rl_v rfl rfl rfl (ov_move rfl rfl) <| rl_v rfl rfl rfl (ov_extract rfl rfl (by rfl)) ?_
     refine rl_v rfl rfl rfl (ov_extract rfl rfl (by rfl)) ?_
     refine rl_v rfl rfl rfl (ov_assign rfl rfl) <| rl_v rfl rfl rfl (ov_assign rfl rfl) <| rl_nil <| run_seq <| run_region <| rl_v rfl rfl rfl (ov_fieldS rfl Try.underlying60 rfl (fo := 2) rfl (by kernel_rfl) rfl) ?_
     refine rl_v rfl rfl rfl (ov_load rfl Try.underlying2 rfl rfl (by exact (hAj.fr).cellL 1 rfl (off := 2) rfl)) ?_
     refine rl_v rfl rfl rfl (ov_move rfl rfl) ?_
     refine rl_call callable_46 rfl rfl rfl rfl rfl rfl (hAj.split z3 af m cf (fun t => C (t + 1)) (srcRow hu (k := 6) rfl) (by omega) (fun t t0 t1 => by have := hC (t + 1); omega) hb3) (fun e80 w81 hp82 => ?_)
     obtain ⟨b30, op, rfl, hop, hAk⟩ := hp82
     refine ⟨_, rfl, ?_⟩
     refine rl_v rfl rfl rfl (ov_move rfl rfl) <| rl_v rfl rfl rfl (ov_extract rfl rfl (by rfl)) ?_
     refine rl_v rfl rfl rfl (ov_extract rfl rfl (by rfl)) ?_
     refine rl_v rfl rfl rfl (ov_assign rfl rfl) <| rl_v rfl rfl rfl (ov_assign rfl rfl) <| rl_nil <| run_seq <| run_region <| rl_v rfl rfl rfl (ov_fieldS rfl Try.underlying60 rfl (fo := 3) rfl (by kernel_rfl) rfl) ?_
     refine rl_v rfl rfl rfl (ov_load rfl Try.underlying2 rfl rfl (by exact (hAk.fr).cellL 2 rfl (off := 3) rfl)) ?_
     refine rl_v rfl rfl rfl (ov_move rfl rfl) ?_
     refine rl_call callable_46 rfl rfl rfl rfl rfl rfl (hAk.split z4 ag m cgc (fun t => (X.ac (t + 1)).cash) (srcRow hg (k := 3) rfl) (by omega) (fun t t0 t1 => by have := hcash (t := t + 1) (by omega) (by omega); omega) hb4) (fun e83 w84 hp85 => ?_)
     obtain ⟨b32, og, rfl, hog, hAl⟩ := hp85
     refine ⟨_, rfl, ?_⟩
     obtain ⟨y1, y2, y3, y4, y5, hy, _, _, _, hps, hpp, hpg⟩ := hX.dealt (os := os) (op := op) (og := og) hXB hQ hQ0 hC hC0 hp5
     rw [hz] at hy
     injection hy with e1 hy
     injection hy with e2 hy
     injection hy with e3 hy
     injection hy with e4 hy
     subst e1 e2 e3 e4
     rw [← hDe] at hps hpp hpg
     rw [hsi] at hos
     replace hps := hps hos
     replace hpp := hpp hop
     replace hpg := hpg hog
     refine rl_v rfl rfl rfl (ov_move rfl rfl) <| rl_v rfl rfl rfl (ov_extract rfl rfl (by rfl)) ?_
     refine rl_v rfl rfl rfl (ov_extract rfl rfl (by rfl)) ?_
     refine rl_v rfl rfl rfl (ov_assign rfl rfl) <| rl_v rfl rfl rfl (ov_assign rfl rfl) <| rl_nil <| run_seq <| run_seq <| run_region <| rl_v rfl rfl rfl (ov_move rfl rfl) <| rl_v rfl rfl rfl (ov_neq rfl rfl rfl) <| rl_v rfl rfl rfl (ov_move rfl rfl) ?_
     first | refine rl_noD 202 rfl (fun h => h rfl) ?_ | refine rl_no 202 rfl (fun h => h rfl) ?_
     refine rl_gv rfl rfl rfl rfl rfl (ov_move rfl rfl) <| rl_gv rfl rfl rfl rfl rfl (ov_neq rfl rfl rfl) <| rl_v rfl rfl rfl (ov_pick_f rfl rfl rfl) <| rl_v rfl rfl rfl (ov_move rfl rfl) ?_
     first | refine rl_noD 206 rfl (fun h => h rfl) ?_ | refine rl_no 206 rfl (fun h => h rfl) ?_
     refine rl_gv rfl rfl rfl rfl rfl (ov_move rfl rfl) <| rl_gv rfl rfl rfl rfl rfl (ov_neq rfl rfl rfl) <| rl_v rfl rfl rfl (ov_pick_f rfl rfl rfl) <| rl_v rfl rfl rfl (ov_move rfl rfl) ?_
     first | refine rl_noD 210 rfl (fun h => h rfl) ?_ | refine rl_no 210 rfl (fun h => h rfl) ?_
     refine rl_gv rfl rfl rfl rfl rfl (ov_fieldS rfl Try.underlying60 rfl (fo := 0) rfl (by kernel_rfl) rfl) ?_
     refine rl_gv rfl rfl rfl rfl rfl (ov_load rfl Try.underlying2 rfl rfl (by exact (hAl.fr).cellL 3 rfl (off := 0) rfl)) ?_
     refine rl_gv rfl rfl rfl rfl rfl (ov_fieldS rfl Try.underlying60 rfl (fo := 1) rfl (by kernel_rfl) rfl) ?_
     refine rl_gv rfl rfl rfl rfl rfl (ov_load rfl Try.underlying2 rfl rfl (by exact (hAl.fr).cellL 3 rfl (off := 1) rfl)) ?_
     refine rl_gv rfl rfl rfl rfl rfl (ov_add rfl rfl rfl (by omega)) ?_
     refine rl_gv rfl rfl rfl rfl rfl (ov_fieldS rfl Try.underlying60 rfl (fo := 2) rfl (by kernel_rfl) rfl) ?_
     refine rl_gv rfl rfl rfl rfl rfl (ov_load rfl Try.underlying2 rfl rfl (by exact (hAl.fr).cellL 3 rfl (off := 2) rfl)) ?_
     refine rl_gv rfl rfl rfl rfl rfl (ov_add rfl rfl rfl (by omega)) ?_
     refine rl_gv rfl rfl rfl rfl rfl (ov_fieldS rfl Try.underlying60 rfl (fo := 3) rfl (by kernel_rfl) rfl) ?_
     refine rl_gv rfl rfl rfl rfl rfl (ov_load rfl Try.underlying2 rfl rfl (by exact (hAl.fr).cellL 3 rfl (off := 3) rfl)) ?_
     refine rl_gv rfl rfl rfl rfl rfl (ov_add rfl rfl rfl (by omega)) ?_
     refine rl_gv rfl rfl rfl rfl rfl (ov_fieldS rfl Try.underlying60 rfl (fo := 4) rfl (by kernel_rfl) rfl) ?_
     refine rl_gv rfl rfl rfl rfl rfl (ov_load rfl Try.underlying2 rfl rfl (by exact (hAl.fr).cellL 3 rfl (off := 4) rfl)) ?_
     refine rl_gv rfl rfl rfl rfl rfl (ov_add rfl rfl rfl (by omega)) ?_
     refine rl_gv rfl rfl rfl rfl rfl (ov_fieldS rfl Try.underlying64 rfl (fo := 0) rfl (by kernel_rfl) rfl) ?_
     refine rl_gv rfl rfl rfl rfl rfl (ov_load rfl Try.underlying2 rfl rfl (by exact (show _ = some (iv (X.acct 1).cash) from (hAl.fr).cellL 5 rfl (off := 0) rfl))) ?_
     refine rl_gv rfl rfl rfl rfl rfl (ov_neg rfl rfl (by omega)) ?_
     refine rl_gv rfl rfl rfl rfl rfl (ov_neq rfl rfl rfl) <| rl_v rfl rfl rfl (ov_pick_f rfl rfl rfl) <| rl_nil ?_
     first | refine run_cond_dec rfl (fun bad => ?_) (fun bad => ?_) | refine run_cond rfl (fun bad => ?_) (fun bad => ?_)
     ·exfalso; omega
     ·refine run_skip <| run_seq <| run_seq <| run_region <| rl_v rfl rfl rfl (ov_assign rfl rfl) <| rl_nil <| run_block <| Run.keep [7, 8, 11, 12, 22, 28, 30, 32, 34] (F' := [(7, _), (8, _), (11, _), (12, _), (22, _), (28, _), (30, _), (32, _), (34, _)]) rfl <| run_loop1 (fun (i3 : Int) => [(34, .int .i64 i3)]) [7, 8, 11, 12, 22, 28, 30, 32] (fun (i3 : Int) (w86 : World) => (2 ≤ i3 ∧ i3 ≤ (m : Int) + 2) ∧ HAt w.heap.size w w86 hb D [] (some (vch b32 2 m (fun t => iv (og t))) :: some (vch b30 2 m (fun t => iv (op t))) :: some (vch b28 2 m (fun t => iv (os t))) :: some (lch b26 60 (lossV [z1, z2, z3, z4, z5])) :: cg :: some (lch b20 64 [iv (X.acct 1).cash, iv (X.acct 1).fund, .slice aa X.mn pa9, .bool (X.acct 1).out]) :: ca :: ([cv, cu] ++ [some (vch b43 2 1 fun i => [Value.int IntKind.i64 500].getD i.toNat undef)]))) (fun (i3 : Int) => ((m : Int) + 2 - i3).toNat) (2) ?_ (And.intro (by exact slot_int rfl (by first | omega)) (And.intro rfl (And.intro rfl (And.intro rfl (And.intro rfl (And.intro rfl (And.intro rfl (And.intro rfl (And.intro rfl trivial))))))))) ?_
      ·exact ⟨by omega, hAl⟩
      intro i3 w86 hIw86 ih87
      obtain ⟨hi3, hAm⟩ := hIw86
      show Run _ _ _ _ [(34, _), (7, _), (8, _), (11, _), (12, _), (22, _), (28, _), (30, _), (32, _)] _ _
      refine run_seq <| run_seq <| run_region <| rl_v rfl rfl rfl (ov_move rfl rfl) <| rl_v rfl rfl rfl (ov_move rfl rfl) <| rl_v rfl rfl rfl (ov_leq rfl rfl rfl) <| rl_nil ?_
      first | refine run_cond_dec rfl (fun hl3 => ?_) (fun hl3 => ?_) | refine run_cond rfl (fun hl3 => ?_) (fun hl3 => ?_)
      ·refine run_skip <| run_seq <| run_block <| run_seq <| run_region <| rl_v rfl rfl rfl (ov_move rfl rfl) <| rl_v rfl rfl rfl (ov_move rfl rfl) ?_
       refine rl_call callable_31 rfl rfl rfl rfl rfl rfl (account_in hb w.heap.size D [] _ w w86 hAm hDG i3 ⟨by omega, by omega⟩) (fun e88 w89 hp90 => ?_)
       obtain ⟨vc, cc, rfl, hrc, hAn⟩ := hp90
       refine ⟨_, rfl, ?_⟩
       obtain ⟨ac, pc9, rfl⟩ := hrc.val
       obtain ⟨K7, N7, hO7, hK7, hP7⟩ := hAn.open
       refine rl_v rfl rfl rfl (ov_move rfl rfl) <| rl_v rfl rfl rfl (ov_extract rfl rfl (by rfl)) ?_
       refine rl_v rfl rfl rfl (ov_extract rfl rfl (by rfl)) ?_
       refine rl_ow rfl (ow_alloc _ rfl rfl rfl zero_64 rfl hO7) ?_
       rintro _ w91 ⟨b35, rfl, hO92, hs93⟩
       refine rl_ow rfl (ow_storeW rfl rfl (by kernel_rfl) hO92 0 rfl rfl (by rfl) rfl (by rfl)) ?_
       rintro _ w94 ⟨rfl, hO95, hs96⟩
       have hAo := HAt.puts [some (lch b35 64 [iv (D.acct i3).cash, iv (D.acct i3).fund, .slice ac D.mn pc9, .bool (D.acct i3).out])] hO95 hK7 hP7
       obtain ⟨rb, ro, er, rr⟩ := (srcRow hrc (k := 1) rfl).at hAo.fr (by omega)
       obtain ⟨wb, wo, ew, rw9⟩ := (srcRow hv (k := 9) rfl).at hAo.fr (by omega)
       obtain ⟨fb, fo, ef, rf⟩ := (srcRow hu (k := 10) rfl).at hAo.fr (by omega)
       obtain ⟨cb9, co9, ec, rc9⟩ := (srcRow hg (k := 6) rfl).at hAo.fr (by omega)
       have e1 : (D.acct i3).pos 0 = os (i3 - 2) - Q (i3 - 1) := by have := hps (i3 - 2) (by omega) (by omega); rw [show i3 - 2 + 1 = i3 - 1 by omega] at this; exact this
       have e2 : (D.acct i3).fund = C (i3 - 1) - op (i3 - 2) := by have := hpp (i3 - 2) (by omega) (by omega); rw [show i3 - 2 + 1 = i3 - 1 by omega] at this; exact this
       have e3 : (D.acct i3).cash = (X.ac (i3 - 1)).cash - og (i3 - 2) := by have := hpg (i3 - 2) (by omega) (by omega); rw [show i3 - 2 + 1 = i3 - 1 by omega] at this; exact this
       have hgo := hX.dealt_rng hQ hQ0 hC hp5 hos hop hog hb3 hb4 (t := i3 - 2) (by omega) (by omega)
       have hc3 := hcash (t := i3 - 1) (by omega) (by omega)
       have hq3 := hQ (i3 - 1)
       have hc4 := hC (i3 - 1)
       refine rl_v rfl rfl rfl (ov_assign rfl rfl) <| rl_nil <| run_seq <| run_class (fun w' => HAt w.heap.size w w' hb D [] ([some (lch b35 64 [iv (D.acct i3).cash, iv (D.acct i3).fund, .slice ac D.mn pc9, .bool (D.acct i3).out])] ++ (cc :: some (vch b32 2 m (fun t => iv (og t))) :: some (vch b30 2 m (fun t => iv (op t))) :: some (vch b28 2 m (fun t => iv (os t))) :: some (lch b26 60 (lossV [z1, z2, z3, z4, z5])) :: cg :: some (lch b20 64 [iv (X.acct 1).cash, iv (X.acct 1).fund, .slice aa X.mn pa9, .bool (X.acct 1).out]) :: ca :: ([cv, cu] ++ [some (vch b43 2 1 fun i => [Value.int IntKind.i64 500].getD i.toNat undef)])))) (hAo.drewH) mixed (by kernel_rfl) ?_
       refine rk_v rfl rfl rfl (fun wq hQ => ov_move rfl rfl) ?_
       refine rk_v rfl rfl rfl (fun wq hQ => ov_neq rfl rfl rfl) ?_
       refine rk_v rfl rfl rfl (fun wq hQ => ov_move rfl rfl) ?_
       first | refine rk_noD 243 rfl (fun h => h rfl) ?_ | refine rk_no 243 rfl (fun h => h rfl) ?_
       refine rk_gv rfl rfl rfl rfl rfl (fun wq hQ => ov_fieldS rfl Try.underlying64 rfl (fo := 2) rfl (by kernel_rfl) rfl) ?_
       refine rk_gv rfl rfl rfl rfl rfl (fun wq hQ => ov_load rfl Try.underlying22 rfl rfl (by exact (hQ.own).cellL 0 rfl (off := 2) rfl)) ?_
       refine rk_gv rfl rfl rfl rfl rfl (fun wq hQ => ov_index1 rfl Try.underlying22 (by kernel_rfl) rfl rfl ⟨by omega, by omega⟩ (by exact (id er))) ?_
       refine rk_gv rfl rfl rfl rfl rfl (fun wq hQ => ov_load rfl Try.underlying2 rfl rfl (by exact (show _ = some (iv ((D.acct i3).pos 0)) from rr (hQ.own) 0 (by decide) (by omega)))) ?_
       refine rk_gv rfl rfl rfl rfl rfl (fun wq hQ => ov_move rfl rfl) ?_
       refine rk_gv rfl rfl rfl rfl rfl (fun wq hQ => ov_move rfl rfl) ?_
       refine rk_gv rfl rfl rfl rfl rfl (fun wq hQ => ov_sub rfl rfl rfl (by omega)) ?_
       refine rk_gv rfl rfl rfl rfl rfl (fun wq hQ => ov_index1 rfl Try.underlying22 (by kernel_rfl) rfl rfl ⟨by omega, by omega⟩ (by rfl)) ?_
       refine rk_gv rfl rfl rfl rfl rfl (fun wq hQ => ov_load rfl Try.underlying2 rfl rfl (by exact (show _ = some (iv (os (i3 - 2))) from (hQ.own).cellI 4 rfl (i3 - 2) (by omega) (by omega)))) ?_
       refine rk_gv rfl rfl rfl rfl rfl (fun wq hQ => ov_move rfl rfl) ?_
       refine rk_gv rfl rfl rfl rfl rfl (fun wq hQ => ov_move rfl rfl) ?_
       refine rk_gv rfl rfl rfl rfl rfl (fun wq hQ => ov_sub rfl rfl rfl (by omega)) ?_
       refine rk_gv rfl rfl rfl rfl rfl (fun wq hQ => ov_index1 rfl Try.underlying22 (by kernel_rfl) rfl rfl ⟨by omega, by omega⟩ (by exact (id ew))) ?_
       refine rk_gv rfl rfl rfl rfl rfl (fun wq hQ => ov_load rfl Try.underlying2 rfl rfl (by exact (show _ = some (iv (Q (i3 - 1))) from by rw [show i3 - 1 = i3 - 2 + 1 by omega]; exact rw9 (hQ.own) (i3 - 2) (by omega) (by omega)))) ?_
       refine rk_gv rfl rfl rfl rfl rfl (fun wq hQ => ov_sub rfl rfl rfl (by omega)) ?_
       refine rk_gv rfl rfl rfl rfl rfl (fun wq hQ => ov_neq rfl rfl rfl) ?_
       refine rk_v rfl rfl rfl (fun wq hQ => ov_pick_f rfl rfl rfl) ?_
       refine rk_v rfl rfl rfl (fun wq hQ => ov_move rfl rfl) ?_
       first | refine rk_noD 261 rfl (fun h => h e1) ?_ | refine rk_no 261 rfl (fun h => h e1) ?_
       refine rk_gv rfl rfl rfl rfl rfl (fun wq hQ => ov_fieldS rfl Try.underlying64 rfl (fo := 1) rfl (by kernel_rfl) rfl) ?_
       refine rk_gv rfl rfl rfl rfl rfl (fun wq hQ => ov_load rfl Try.underlying2 rfl rfl (by exact (show _ = some (iv (D.acct i3).fund) from (hQ.own).cellL 0 rfl (off := 1) rfl))) ?_
       refine rk_gv rfl rfl rfl rfl rfl (fun wq hQ => ov_move rfl rfl) ?_
       refine rk_gv rfl rfl rfl rfl rfl (fun wq hQ => ov_move rfl rfl) ?_
       refine rk_gv rfl rfl rfl rfl rfl (fun wq hQ => ov_sub rfl rfl rfl (by omega)) ?_
       refine rk_gv rfl rfl rfl rfl rfl (fun wq hQ => ov_index1 rfl Try.underlying22 (by kernel_rfl) rfl rfl ⟨by omega, by omega⟩ (by exact (id ef))) ?_
       refine rk_gv rfl rfl rfl rfl rfl (fun wq hQ => ov_load rfl Try.underlying2 rfl rfl (by exact (show _ = some (iv (C (i3 - 1))) from by rw [show i3 - 1 = i3 - 2 + 1 by omega]; exact rf (hQ.own) (i3 - 2) (by omega) (by omega)))) ?_
       refine rk_gv rfl rfl rfl rfl rfl (fun wq hQ => ov_move rfl rfl) ?_
       refine rk_gv rfl rfl rfl rfl rfl (fun wq hQ => ov_move rfl rfl) ?_
       refine rk_gv rfl rfl rfl rfl rfl (fun wq hQ => ov_sub rfl rfl rfl (by omega)) ?_
       refine rk_gv rfl rfl rfl rfl rfl (fun wq hQ => ov_index1 rfl Try.underlying22 (by kernel_rfl) rfl rfl ⟨by omega, by omega⟩ (by rfl)) ?_
       refine rk_gv rfl rfl rfl rfl rfl (fun wq hQ => ov_load rfl Try.underlying2 rfl rfl (by exact (show _ = some (iv (op (i3 - 2))) from (hQ.own).cellI 3 rfl (i3 - 2) (by omega) (by omega)))) ?_
       refine rk_gv rfl rfl rfl rfl rfl (fun wq hQ => ov_sub rfl rfl rfl (by omega)) ?_
       refine rk_gv rfl rfl rfl rfl rfl (fun wq hQ => ov_neq rfl rfl rfl) ?_
       refine rk_v rfl rfl rfl (fun wq hQ => ov_pick_f rfl rfl rfl) ?_
       refine rk_v rfl rfl rfl (fun wq hQ => ov_move rfl rfl) ?_
       first | refine rk_noD 277 rfl (fun h => h e2) ?_ | refine rk_no 277 rfl (fun h => h e2) ?_
       refine rk_gv rfl rfl rfl rfl rfl (fun wq hQ => ov_fieldS rfl Try.underlying64 rfl (fo := 0) rfl (by kernel_rfl) rfl) ?_
       refine rk_gv rfl rfl rfl rfl rfl (fun wq hQ => ov_load rfl Try.underlying2 rfl rfl (by exact (show _ = some (iv (D.acct i3).cash) from (hQ.own).cellL 0 rfl (off := 0) rfl))) ?_
       refine rk_gv rfl rfl rfl rfl rfl (fun wq hQ => ov_move rfl rfl) ?_
       refine rk_gv rfl rfl rfl rfl rfl (fun wq hQ => ov_move rfl rfl) ?_
       refine rk_gv rfl rfl rfl rfl rfl (fun wq hQ => ov_sub rfl rfl rfl (by omega)) ?_
       refine rk_gv rfl rfl rfl rfl rfl (fun wq hQ => ov_index1 rfl Try.underlying22 (by kernel_rfl) rfl rfl ⟨by omega, by omega⟩ (by exact (id ec))) ?_
       refine rk_gv rfl rfl rfl rfl rfl (fun wq hQ => ov_load rfl Try.underlying2 rfl rfl (by exact (show _ = some (iv ((X.ac (i3 - 1)).cash)) from by rw [show i3 - 1 = i3 - 2 + 1 by omega]; exact rc9 (hQ.own) (i3 - 2) (by omega) (by omega)))) ?_
       refine rk_gv rfl rfl rfl rfl rfl (fun wq hQ => ov_move rfl rfl) ?_
       refine rk_gv rfl rfl rfl rfl rfl (fun wq hQ => ov_move rfl rfl) ?_
       refine rk_gv rfl rfl rfl rfl rfl (fun wq hQ => ov_sub rfl rfl rfl (by omega)) ?_
       refine rk_gv rfl rfl rfl rfl rfl (fun wq hQ => ov_index1 rfl Try.underlying22 (by kernel_rfl) rfl rfl ⟨by omega, by omega⟩ (by rfl)) ?_
       refine rk_gv rfl rfl rfl rfl rfl (fun wq hQ => ov_load rfl Try.underlying2 rfl rfl (by exact (show _ = some (iv (og (i3 - 2))) from (hQ.own).cellI 2 rfl (i3 - 2) (by omega) (by omega)))) ?_
       refine rk_gv rfl rfl rfl rfl rfl (fun wq hQ => ov_sub rfl rfl rfl (by omega)) ?_
       refine rk_gv rfl rfl rfl rfl rfl (fun wq hQ => ov_neq rfl rfl rfl) ?_
       refine rk_v rfl rfl rfl (fun wq hQ => ov_pick_f rfl rfl rfl) ?_
       refine rk_nil (fun w97 hQw => ?_)
       first | refine run_cond_dec rfl (fun bad => ?_) (fun bad => ?_) | refine run_cond rfl (fun bad => ?_) (fun bad => ?_)
       ·exfalso; exact bad e3
       ·refine run_skip <| run_inBlock <| run_region <| rl_v rfl rfl rfl (ov_move rfl rfl) <| rl_v rfl rfl rfl (ov_add rfl rfl rfl (by omega)) ?_
        refine rl_v rfl rfl rfl (ov_assign rfl rfl) <| rl_nil ?_
        refine Run.use (ih87 (i3 + 1) _ ?_ ?_) (And.intro (by exact slot_int rfl (by first | omega)) (And.intro rfl (And.intro rfl (And.intro rfl (And.intro rfl (And.intro rfl (And.intro rfl (And.intro rfl (And.intro rfl trivial)))))))))
        ·first | omega | (dsimp only; omega)
        ·exact ⟨by omega, hQw.shed.shed⟩
      ·refine run_exit rfl <| run_seq <| run_region ?_
       refine rl_call callable_47 rfl rfl rfl rfl rfl rfl (hAm.call1 (Q := fun e => e = _) (fun H hO _ => nine9_any w.heap.size H w w86 hO)) (fun e98 w99 hp100 => ?_)
       obtain ⟨rfl, hAz⟩ := hp100
       refine ⟨_, rfl, ?_⟩
       refine rl_v rfl rfl rfl (ov_assign rfl rfl) <| rl_nil <| run_ret Try.func13 (res1 Try.results13 rfl) ?_
       exact ⟨rfl, (hAz.fr).below⟩
end Go.Proofs.Ytfbbagnpdfafjaa
