import Derived.Test.YtlldeifbfpmbaaaGreatSet1
set_option maxRecDepth 100000
namespace Go.Proofs.YtlldeifbfpmbaaaGreat
open Go.RowKit Go.Proofs
theorem ps_rng {n : Nat} {D : Int → Int → Int} (hv : Valid n D) (i : Int) : -32000000 ≤ ps n D i ∧ ps n D i ≤ 32000000 := by
 have h1 : 0 ≤ sm (fun r => D r i) n := sm_nonneg fun r _ _ => hv.lo r i
 have h2 : sm (fun r => D r i) n ≤ n * 1000000 := sm_bound _ (by omega) fun r _ _ => hv.hi r i
 have h3 := ow_rng hv i
 have h4 := hv.le
 unfold ow at h3
 unfold ps
 omega
theorem nxt_eq {n : Nat} {p : Int → Int} {a b : Int} (ha : IsPay n p a) (hb : IsGet n p b) : nxt n p = tfr p a b (min (-(p a)) (p b)) := by
 unfold nxt moved
 rw [payer_eq ha, getter_eq hb]
theorem pg_ne {n : Nat} {p : Int → Int} {a b : Int} (ha : IsPay n p a) (hb : IsGet n p b) : a ≠ b := fun e => by have := ha.2.1; have := hb.2.1; rw [e] at *; omega
theorem nxt_rng {n : Nat} {p : Int → Int} {a b M : Int} (ha : IsPay n p a) (hb : IsGet n p b) (h : ∀ i, -M ≤ p i ∧ p i ≤ M) : ∀ i, -M ≤ nxt n p i ∧ nxt n p i ≤ M := fun i => by
 rw [nxt_eq ha hb, tfr_at (pg_ne ha hb)]
 have h1 := h a
 have h2 := h b
 have h3 := ha.2.1
 have h4 := hb.2.1
 split
 ·omega
 ·split
  ·omega
  ·exact h i
theorem heap_pay {n : Nat} {n5 : Int} {st P A : Int → Int} (hH : HP n5 P A) (hC : Cont n n5 P A (fun i => max 0 (-(st i)))) (h1 : 1 ≤ n5) : IsPay n st (P 0) ∧ A 0 = -(st (P 0)) := by
 have h0 := hC.at_ 0 (by omega) (by omega)
 have e0 : A 0 = max 0 (-(st (P 0))) := h0.2.1
 refine ⟨⟨h0.1, by omega, fun i i0 i1 hi => ?_⟩, by omega⟩
 obtain ⟨k, k0, k1, hk⟩ := hC.all i i0 i1 (show 0 < max 0 (-(st i)) by omega)
 have h2 := hH.top _ k rfl k0 k1
 have e1 : A k = max 0 (-(st (P k))) := (hC.at_ k k0 k1).2.1
 rw [hk] at e1
 unfold bf at h2
 rw [hk] at h2
 omega
theorem heap_get {n : Nat} {n5 : Int} {st P A : Int → Int} (hH : HP n5 P A) (hC : Cont n n5 P A (fun i => max 0 (st i))) (h1 : 1 ≤ n5) : IsGet n st (P 0) ∧ A 0 = st (P 0) := by
 have h0 := hC.at_ 0 (by omega) (by omega)
 have e0 : A 0 = max 0 (st (P 0)) := h0.2.1
 refine ⟨⟨h0.1, by omega, fun i i0 i1 hi => ?_⟩, by omega⟩
 obtain ⟨k, k0, k1, hk⟩ := hC.all i i0 i1 (show 0 < max 0 (st i) by omega)
 have h2 := hH.top _ k rfl k0 k1
 have e1 : A k = max 0 (st (P k)) := (hC.at_ k k0 k1).2.1
 rw [hk] at e1
 unfold bf at h2
 rw [hk] at h2
 omega
theorem trG_snoc (n : Nat) (p : Int → Int) (m : Nat) (a b x : Int) (ha : payer n (stP n p m) = a) (hb : getter n (stP n p m) = b) (hx : moved n (stP n p m) = x) (k : Int) (k0 : 0 ≤ k) (k1 : k < (m + 1 : Nat)) : upd (trG n p) m [.int .i64 a, .int .i64 b, .int .i64 x] k = trG n p k := by
 unfold upd
 split
 ·rename_i e
  rw [e]
  unfold trG
  rw [Int.toNat_natCast, ha, hb, hx]
 ·rfl
def upK (q : Int → Int) (k : Int) : Int → Int := fun i => if i < k then q i else 0
theorem upK_at (q : Int → Int) (k : Int) : upK q k k = 0 := if_neg (Int.lt_irrefl k)
theorem upK_push {q : Int → Int} {k x : Int} (h : q k = x) (i : Int) : upd (upK q k) k x i = upK q (k + 1) i := by
 unfold upd upK
 by_cases e : i = k
 ·rw [if_pos e, e, if_pos (by omega), h]
 ·rw [if_neg e]; split <;> split <;> first | rfl | omega
theorem upK_skip {q : Int → Int} {k : Int} (h : q k = 0) (i : Int) : upK q k i = upK q (k + 1) i := by
 unfold upK
 by_cases e : i = k
 ·rw [e, if_neg (Int.lt_irrefl k), if_pos (by omega), h]
 ·split <;> split <;> first | rfl | omega
theorem upK_zero {q : Int → Int} {i : Int} (i0 : 0 ≤ i) : ¬ 0 < upK q 0 i := by unfold upK; rw [if_neg (by omega)]; omega
theorem upK_all {q : Int → Int} {k i : Int} (h : i < k) : upK q k i = q i := if_pos h
theorem settle_any (ao : Option Addr) (n c : Nat) (D : Int → Int → Int) (w : World) (hv : Valid n D) (h : ITab w.heap.size w ao n (fun _ => n) (fun r c => .int .i64 (D r c))) :
  Calls Tryz.prog 35 #[.slice ao n c] w fun e w' => ∃ (K : Nat) (v : Value) (co : Option Blk), e = .returned (.tuple #[v, .int .i64 0]) ∧ Settled n (ps n D) K ∧ K ≤ n ∧ SRow v 127 3 K (trG n (ps n D)) co ∧ Own w.heap.size w w' [co] := by
 have hle := hv.le
 have hpos := hv.pos
 refine calls_of_run (F := [(0, _)]) Tryz.func35 rfl Tryz.ntmps35 rfl rfl ?_
 have hO0 := Own.init w
 refine run_seq <| run_region <| rl_v rfl rfl rfl (ov_assign rfl rfl) <| rl_v rfl rfl rfl (ov_assign rfl rfl) <| rl_nil <| run_seq <| run_seq <| run_region <| rl_v rfl rfl rfl (ov_move rfl rfl) ?_
 refine rl_call callable_60 rfl rfl rfl rfl rfl rfl (check_any ao n c (fun _ => n) D _ (by omega) (h.later hO0.below)) (fun e1 w2 hp3 => ?_)
 obtain ⟨rfl, hb⟩ := hp3
 refine ⟨_, rfl, ?_⟩
 have hO4 := hO0.past hb
 rw [hv.chk]
 refine rl_v rfl rfl rfl (ov_assign rfl rfl) <| rl_nil <| run_seq <| run_region <| rl_v rfl rfl rfl (ov_move rfl rfl) <| rl_v rfl rfl rfl (ov_neq rfl rfl rfl) <| rl_nil ?_
 first | refine run_cond_dec rfl (fun h1 => ?_) (fun h1 => ?_) | refine run_cond rfl (fun h1 => ?_) (fun h1 => ?_)
 ·exfalso; exact h1 rfl
 ·refine run_skip <| run_seq <| run_region <| rl_v rfl rfl rfl (ov_buildL rfl lay_119 rfl (us := [_]) rfl) <| rl_ow rfl (ow_box _ rfl rfl rfl rfl rfl hO4) ?_
  rintro _ w5 ⟨b5, rfl, hO6, hs7⟩
  refine rl_v rfl rfl rfl (ov_buildL rfl lay_119 rfl (us := [_]) rfl) <| rl_ow rfl (ow_box _ rfl rfl rfl rfl rfl hO6) ?_
  rintro _ w8 ⟨b6, rfl, hO9, hs10⟩
  refine rl_v rfl rfl rfl (ov_assign rfl rfl) <| rl_v rfl rfl rfl (ov_assign rfl rfl) <| rl_nil <| run_seq <| run_seq <| run_region <| rl_v rfl rfl rfl (ov_move rfl rfl) ?_
  refine rl_call callable_64 rfl rfl rfl rfl rfl rfl (positions_any ao n c D _ hle hv.all (h.later hO9.below)) (fun e11 w12 hp13 => ?_)
  obtain ⟨bp, rfl, hOp⟩ := hp13
  refine ⟨_, rfl, ?_⟩
  have hO14 := hO9.join hOp
  have hO9 := hO14.nil_cons.nil_cons.perm (H' := [none, some (lch b5 119 [.slice none 0 0]), none, some (lch b6 119 [.slice none 0 0]), some (vch bp 2 n (fun i => .int .i64 (ps n D i)))]) (List.Perm.cons _ ((List.perm_append_comm (l₁ := [none, some (vch bp 2 n (fun i => .int .i64 (ps n D i))), some (lch b6 119 [.slice none 0 0])]) (l₂ := [some (lch b5 119 [.slice none 0 0])])).trans (List.Perm.cons _ (List.Perm.cons _ (List.Perm.swap _ _ _)))))
  refine rl_v rfl rfl rfl (ov_len rfl Tryz.underlying65 rfl) <| rl_v rfl rfl rfl (ov_move rfl rfl) <| rl_nil <| run_block <| Run.keep [5, 6, 23, 24, 25] (F' := [(5, _), (6, _), (23, _), (24, _), (25, _)]) rfl <| run_loop1 (fun (k : Int) => [(25, .int .i64 k)]) [5, 6, 23, 24] (fun (k : Int) (w15 : World) => 0 ≤ k ∧ k ≤ n ∧ ∃ (n5 n6 : Nat) (sv5 sv6 : Value) (P5 A5 P6 A6 : Int → Int) (c5 c6 : Option Blk), (n5 : Int) ≤ k ∧ (n6 : Int) ≤ k ∧ SRow sv5 123 2 n5 (hpG P5 A5) c5 ∧ HP n5 P5 A5 ∧ Cont n n5 P5 A5 (upK (fun i => max 0 (-(ps n D i))) k) ∧ SRow sv6 123 2 n6 (hpG P6 A6) c6 ∧ HP n6 P6 A6 ∧ Cont n n6 P6 A6 (upK (fun i => max 0 (ps n D i)) k) ∧ Own w.heap.size w w15 (c5 :: some (lch b5 119 [sv5]) :: c6 :: some (lch b6 119 [sv6]) :: [some (vch bp 2 n (fun i => .int .i64 (ps n D i)))])) (fun (k : Int) => ((n : Int) - k).toNat) (0) ?_ (And.intro (by exact slot_int rfl (by first | omega)) (And.intro rfl (And.intro rfl (And.intro rfl (And.intro rfl trivial))))) ?_
  ·exact ⟨by omega, by omega, 0, 0, .slice none 0 0, .slice none 0 0, fun _ => 0, fun _ => 0, fun _ => 0, fun _ => 0, none, none, by omega, by omega, SRow.nil _ _ _, fun k k0 k1 => by omega, ⟨fun k k0 k1 => by omega, fun k l k0 k1 => by omega, fun i i0 i1 hi => absurd hi (upK_zero i0)⟩, SRow.nil _ _ _, fun k k0 k1 => by omega, ⟨fun k k0 k1 => by omega, fun k l k0 k1 => by omega, fun i i0 i1 hi => absurd hi (upK_zero i0)⟩, hO9⟩
  intro k w15 hIw15 ih16
  obtain ⟨hk0, hk1, n5, n6, sv5, sv6, P5, A5, P6, A6, c5, c6, h5, h6, hr5, hH5, hC5, hr6, hH6, hC6, hO⟩ := hIw15
  show Run _ _ _ _ [(25, _), (5, _), (6, _), (23, _), (24, _)] _ _
  refine run_seq <| run_region <| rl_v rfl rfl rfl (ov_lss rfl rfl rfl) <| rl_nil <| run_seq ?_
  first | refine run_cond_dec rfl (fun h2 => ?_) (fun h2 => ?_) | refine run_cond rfl (fun h2 => ?_) (fun h2 => ?_)
  ·have hpr := ps_rng hv k
   refine run_skip <| run_seq <| run_block <| run_seq <| run_region <| rl_v rfl rfl rfl (ov_move rfl rfl) <| rl_v rfl rfl rfl (ov_index1 rfl Tryz.underlying65 (by kernel_rfl) rfl rfl ⟨by omega, by omega⟩ rfl) ?_
   refine rl_v rfl rfl rfl (ov_load rfl Tryz.underlying2 rfl rfl (by exact hO.cellI 4 rfl k hk0 (by omega))) ?_
   refine rl_v rfl rfl rfl (ov_assign rfl rfl) <| rl_v rfl rfl rfl (ov_assign rfl rfl) <| rl_nil <| run_seq <| run_region <| rl_v rfl rfl rfl (ov_move rfl rfl) <| rl_v rfl rfl rfl (ov_lss rfl rfl rfl) <| rl_nil ?_
   first | refine run_cond_dec rfl (fun h3 => ?_) (fun h3 => ?_) | refine run_cond rfl (fun h3 => ?_) (fun h3 => ?_)
   ·refine run_region <| rl_v rfl rfl rfl (ov_move rfl rfl) <| rl_v rfl rfl rfl (ov_iface rfl Tryz.underlying115 (by intro _ h; cases h) rfl) ?_
    refine rl_v rfl rfl rfl (ov_move rfl rfl) <| rl_v rfl rfl rfl (ov_move rfl rfl) <| rl_v rfl rfl rfl (ov_neg rfl rfl (by omega)) ?_
    refine rl_v rfl rfl rfl (ov_buildL rfl lay_123 rfl (us := [_, _]) rfl) <| rl_v rfl rfl rfl (ov_iface rfl Tryz.underlying123 (by intro _ h; cases h) rfl) ?_
    refine rl_call callable_65 rfl rfl rfl rfl rfl rfl (heapPush_any b5 _ n5 sv5 P5 A5 k (-(ps n D k)) c5 _ _ _ (by omega) hH5 hO hr5) (fun e17 w18 hp19 => ?_)
    obtain ⟨rfl, sv7, P7, A7, c7, hO7', hr7, hH7, hC7⟩ := hp19
    refine ⟨_, rfl, ?_⟩
    refine rl_nil <| run_inBlock <| run_region <| rl_v rfl rfl rfl (ov_add rfl rfl rfl (by omega)) ?_
    refine rl_v rfl rfl rfl (ov_move rfl rfl) <| rl_nil ?_
    refine Run.use (ih16 (k + 1) _ ?_ ?_) (And.intro (by exact slot_int rfl (by first | omega)) (And.intro rfl (And.intro rfl (And.intro rfl (And.intro rfl trivial)))))
    ·first | omega | (dsimp only; omega)
    ·exact ⟨by omega, by omega, n5 + 1, n6, sv7, sv6, P7, A7, P6, A6, c7, c6, by omega, by omega, hr7, by rw [Int.natCast_add]; exact hH7, by rw [Int.natCast_add]; exact (hC7 n _ hk0 h2 (upK_at _ _) (by omega) hC5).congr (fun i _ _ => upK_push (q := fun i => max 0 (-(ps n D i))) (k := k) (show max 0 (-(ps n D k)) = -(ps n D k) by omega) i), hr6, hH6, hC6.congr (fun i _ _ => upK_skip (q := fun i => max 0 (ps n D i)) (k := k) (show max 0 (ps n D k) = 0 by omega) i), hO7'⟩
   ·refine run_seq <| run_region <| rl_v rfl rfl rfl (ov_move rfl rfl) <| rl_v rfl rfl rfl (ov_gtr rfl rfl rfl) <| rl_nil ?_
    first | refine run_cond_dec rfl (fun h4 => ?_) (fun h4 => ?_) | refine run_cond rfl (fun h4 => ?_) (fun h4 => ?_)
    ·refine run_region <| rl_v rfl rfl rfl (ov_move rfl rfl) <| rl_v rfl rfl rfl (ov_iface rfl Tryz.underlying115 (by intro _ h; cases h) rfl) ?_
     refine rl_v rfl rfl rfl (ov_move rfl rfl) <| rl_v rfl rfl rfl (ov_move rfl rfl) <| rl_v rfl rfl rfl (ov_buildL rfl lay_123 rfl (us := [_, _]) rfl) <| rl_v rfl rfl rfl (ov_iface rfl Tryz.underlying123 (by intro _ h; cases h) rfl) ?_
     refine rl_call callable_65 rfl rfl rfl rfl rfl rfl (heapPush_any b6 _ n6 sv6 P6 A6 k (ps n D k) c6 _ _ _ (by omega) hH6 hO.swap2 hr6) (fun e20 w21 hp22 => ?_)
     obtain ⟨rfl, sv7, P7, A7, c7, hO7', hr7, hH7, hC7⟩ := hp22
     refine ⟨_, rfl, ?_⟩
     have hO8' := hO7'.swap2
     refine rl_nil <| run_inBlock <| run_region <| rl_v rfl rfl rfl (ov_add rfl rfl rfl (by omega)) ?_
     refine rl_v rfl rfl rfl (ov_move rfl rfl) <| rl_nil ?_
     refine Run.use (ih16 (k + 1) _ ?_ ?_) (And.intro (by exact slot_int rfl (by first | omega)) (And.intro rfl (And.intro rfl (And.intro rfl (And.intro rfl trivial)))))
     ·first | omega | (dsimp only; omega)
     ·exact ⟨by omega, by omega, n5, n6 + 1, sv5, sv7, P5, A5, P7, A7, c5, c7, by omega, by omega, hr5, hH5, hC5.congr (fun i _ _ => upK_skip (q := fun i => max 0 (-(ps n D i))) (k := k) (show max 0 (-(ps n D k)) = 0 by omega) i), hr7, by rw [Int.natCast_add]; exact hH7, by rw [Int.natCast_add]; exact (hC7 n _ hk0 h2 (upK_at _ _) (by omega) hC6).congr (fun i _ _ => upK_push (q := fun i => max 0 (ps n D i)) (k := k) (show max 0 (ps n D k) = ps n D k by omega) i), hO8'⟩
    ·refine run_skip <| run_inBlock <| run_region <| rl_v rfl rfl rfl (ov_add rfl rfl rfl (by omega)) ?_
     refine rl_v rfl rfl rfl (ov_move rfl rfl) <| rl_nil ?_
     refine Run.use (ih16 (k + 1) _ ?_ ?_) (And.intro (by exact slot_int rfl (by first | omega)) (And.intro rfl (And.intro rfl (And.intro rfl (And.intro rfl trivial)))))
     ·first | omega | (dsimp only; omega)
     ·exact ⟨by omega, by omega, n5, n6, sv5, sv6, P5, A5, P6, A6, c5, c6, by omega, by omega, hr5, hH5, hC5.congr (fun i _ _ => upK_skip (q := fun i => max 0 (-(ps n D i))) (k := k) (show max 0 (-(ps n D k)) = 0 by omega) i), hr6, hH6, hC6.congr (fun i _ _ => upK_skip (q := fun i => max 0 (ps n D i)) (k := k) (show max 0 (ps n D k) = 0 by omega) i), hO⟩
  ·have hO10 := hO.sub (H' := [c5, some (lch b5 119 [sv5]), c6, some (lch b6 119 [sv6])]) (.cons_cons _ (.cons_cons _ (.cons_cons _ (.cons_cons _ (List.nil_sublist _)))))
   have hO11 : Own w.heap.size w w15 (c5 :: some (lch b5 119 [sv5]) :: c6 :: some (lch b6 119 [sv6]) :: [none]) := hO10.nil_cons.perm (List.perm_append_comm (l₁ := [none]))
   refine run_exit rfl <| run_seq <| run_region <| rl_v rfl rfl rfl (ov_assign rfl rfl) <| rl_nil <| run_seq <| run_block <| Run.keep [5, 6, 9] (F' := [(5, _), (6, _), (9, _)]) rfl <| run_loop3 (fun (m : Nat) (vo : Value) (co : Option Blk) => [(9, vo)]) [5, 6] (fun (m : Nat) (vo : Value) (co : Option Blk) (w23 : World) => m ≤ n ∧ (∀ i, -32000000 ≤ stP n (ps n D) m i ∧ stP n (ps n D) m i ≤ 32000000) ∧ (∀ j, j < m → ∃ i : Int, 0 ≤ i ∧ i < n ∧ stP n (ps n D) j i < 0) ∧ SRow vo 127 3 m (trG n (ps n D)) co ∧ ∃ (n5 n6 : Nat) (sv5 sv6 : Value) (P5 A5 P6 A6 : Int → Int) (c5 c6 : Option Blk), n5 ≤ 40 ∧ n6 ≤ 40 ∧ SRow sv5 123 2 n5 (hpG P5 A5) c5 ∧ HP n5 P5 A5 ∧ Cont n n5 P5 A5 (fun i => max 0 (-(stP n (ps n D) m i))) ∧ SRow sv6 123 2 n6 (hpG P6 A6) c6 ∧ HP n6 P6 A6 ∧ Cont n n6 P6 A6 (fun i => max 0 (stP n (ps n D) m i)) ∧ Own w.heap.size w w23 (c5 :: some (lch b5 119 [sv5]) :: c6 :: some (lch b6 119 [sv6]) :: [co])) (fun (m : Nat) (vo : Value) (co : Option Blk) => n - m) (0) (.slice none 0 0) (none) ?_ (And.intro rfl (And.intro rfl (And.intro rfl trivial))) ?_
   ·exact ⟨by omega, ps_rng hv, fun j hj => by omega, SRow.nil _ _ _, n5, n6, sv5, sv6, P5, A5, P6, A6, c5, c6, by omega, by omega, hr5, hH5, hC5.congr (fun i i0 i1 => upK_all (by omega)), hr6, hH6, hC6.congr (fun i i0 i1 => upK_all (by omega)), hO11⟩
   intro m vo co w23 hIw23 ih24
   obtain ⟨hm, hrg, hsome, hro, n5, n6, sv5, sv6, P5, A5, P6, A6, c5, c6, h5, h6, hr5, hH5, hC5, hr6, hH6, hC6, hO⟩ := hIw23
   show Run _ _ _ _ [(9, _), (5, _), (6, _)] _ _
   obtain ⟨a5, p5, rfl⟩ := Row.val hr5
   obtain ⟨a6, p6, rfl⟩ := Row.val hr6
   refine run_seq <| run_seq <| run_region <| rl_v rfl rfl rfl (ov_move rfl rfl) <| rl_v rfl rfl rfl (ov_nil rfl rfl) <| rl_v rfl rfl rfl (ov_fieldS rfl Tryz.underlying119 rfl (fo := 0) rfl (by kernel_rfl) rfl) ?_
   refine rl_v rfl rfl rfl (ov_load rfl Tryz.underlying117 rfl rfl (by exact hO.cellL 1 rfl rfl)) ?_
   refine rl_call callable_66 rfl rfl rfl rfl rfl rfl (len_sh a5 n5 p5 _) (fun e25 w26 hp27 => ?_)
   obtain ⟨rfl, hb2⟩ := hp27
   refine ⟨_, rfl, ?_⟩
   have hO28 := hO.past hb2
   refine rl_v rfl rfl rfl (ov_gtr rfl rfl rfl) <| rl_nil ?_
   first | refine run_cond_dec rfl (fun h6' => ?_) (fun h6' => ?_) | refine run_cond rfl (fun h6' => ?_) (fun h6' => ?_)
   ·obtain ⟨hpay, eA⟩ := heap_pay hH5 hC5 (by omega)
    have hsum := stP_sum (ps_sum n D) m hsome
    obtain ⟨bg, hbg0, hbg1, hbg2⟩ := sum_pos hsum hpay.1.1 hpay.1.2 hpay.2.1
    obtain ⟨kg, kg0, kg1, _⟩ := hC6.all bg hbg0 hbg1 (show 0 < max 0 (stP n (ps n D) m bg) by omega)
    obtain ⟨hget, eB⟩ := heap_get hH6 hC6 (by omega)
    have hnz := stP_nz (ps_sum n D) m hsome
    have hn2 := nz_two hpay hget
    have hab := pg_ne hpay hget
    have hr7 := hrg (P5 0)
    have hr8 := hrg (P6 0)
    have hp1 := hpay.2.1
    have hg1 := hget.2.1
    refine run_skip <| run_block <| run_seq <| run_region <| rl_v rfl rfl rfl (ov_move rfl rfl) ?_
    refine rl_call callable_67 rfl rfl rfl rfl rfl rfl (top_any b5 n5 p5 a5 P5 A5 _ (by omega) (hO28.readsL 1 rfl) (hr5.reads hO28 0 rfl)) (fun e29 w30 hp31 => ?_)
    obtain ⟨rfl, hb3⟩ := hp31
    refine ⟨_, rfl, ?_⟩
    have hO32 := hO28.past hb3
    refine rl_v rfl rfl rfl (ov_move rfl rfl) ?_
    refine rl_call callable_67 rfl rfl rfl rfl rfl rfl (top_any b6 n6 p6 a6 P6 A6 _ (by omega) (hO32.readsL 3 rfl) (hr6.reads hO32 2 rfl)) (fun e33 w34 hp35 => ?_)
    obtain ⟨rfl, hb4⟩ := hp35
    refine ⟨_, rfl, ?_⟩
    have hO36 := hO32.past hb4
    refine rl_ow rfl (ow_alloc _ rfl rfl rfl zero_123 rfl hO36) ?_
    rintro _ w37 ⟨b10, rfl, hO38, hs39⟩
    refine rl_ow rfl (ow_alloc _ rfl rfl rfl zero_123 rfl hO38) ?_
    rintro _ w40 ⟨b11, rfl, hO41, hs42⟩
    refine rl_ow rfl (ow_storeW rfl rfl (by kernel_rfl) hO41 1 rfl rfl (by rfl) rfl (by rfl)) ?_
    rintro _ w43 ⟨rfl, hO44, hs45⟩
    refine rl_ow rfl (ow_storeW rfl rfl (by kernel_rfl) hO44 0 rfl rfl (by rfl) rfl (by rfl)) ?_
    rintro _ w46 ⟨rfl, hO47, hs48⟩
    refine rl_nil <| run_seq <| run_region <| rl_v rfl rfl rfl (ov_fieldS rfl Tryz.underlying123 rfl (fo := 1) rfl (by kernel_rfl) rfl) ?_
    refine rl_v rfl rfl rfl (ov_load rfl Tryz.underlying2 rfl rfl (by exact hO47.cellL 1 rfl rfl)) ?_
    refine rl_v rfl rfl rfl (ov_fieldS rfl Tryz.underlying123 rfl (fo := 1) rfl (by kernel_rfl) rfl) ?_
    refine rl_v rfl rfl rfl (ov_load rfl Tryz.underlying2 rfl rfl (by exact hO47.cellL 0 rfl rfl)) ?_
    refine rl_v rfl rfl rfl (ov_min rfl rfl rfl) <| rl_v rfl rfl rfl (ov_assign rfl rfl) <| rl_nil <| run_seq <| run_region <| rl_v rfl rfl rfl (ov_move rfl rfl) <| rl_v rfl rfl rfl (ov_fieldS rfl Tryz.underlying123 rfl (fo := 0) rfl (by kernel_rfl) rfl) ?_
    refine rl_v rfl rfl rfl (ov_load rfl Tryz.underlying3 rfl rfl (by exact hO47.cellL 1 rfl rfl)) ?_
    refine rl_v rfl rfl rfl (ov_fieldS rfl Tryz.underlying123 rfl (fo := 0) rfl (by kernel_rfl) rfl) ?_
    refine rl_v rfl rfl rfl (ov_load rfl Tryz.underlying3 rfl rfl (by exact hO47.cellL 0 rfl rfl)) ?_
    refine rl_v rfl rfl rfl (ov_move rfl rfl) <| rl_v rfl rfl rfl (ov_buildL rfl lay_127 rfl (us := [_, _, _]) rfl) <| rl_ow rfl (ow_build [_] rfl rfl rfl rfl rfl Tryz.underlying68 info_127 (by decide) hO47 rfl rfl) ?_
    rintro _ w49 ⟨bt, rfl, hO50, hs51⟩
    refine rl_ow rfl (ow_appR1 rfl rfl rfl Tryz.underlying68 info_127 rfl rfl hO50 6 hro rfl rfl rfl rfl rfl ⟨by omega, by omega⟩) ?_
    rintro _ w52 ⟨vo2, co2, rfl, hO53, hro2, hs54⟩
    have hO12 := hO53.sub (H' := [c5, some (lch b5 119 [.slice a5 n5 p5]), c6, some (lch b6 119 [.slice a6 n6 p6]), co2]) (.cons _ (.cons _ (.refl _)))
    have hst : stP n (ps n D) (m + 1) = tfr (stP n (ps n D) m) (P5 0) (P6 0) (min (A5 0) (A6 0)) := by rw [eA, eB]; exact nxt_eq hpay hget
    have hne' : ∀ i, stP n (ps n D) (m + 1) i = if i = P5 0 then stP n (ps n D) m (P5 0) + (min (A5 0) (A6 0)) else if i = P6 0 then stP n (ps n D) m (P6 0) - (min (A5 0) (A6 0)) else stP n (ps n D) m i := fun i => by rw [hst, tfr_at hab]
    refine rl_v rfl rfl rfl (ov_assign rfl rfl) <| rl_nil <| run_seq <| run_region <| rl_v rfl rfl rfl (ov_move rfl rfl) <| rl_v rfl rfl rfl (ov_iface rfl Tryz.underlying115 (by intro _ h; cases h) rfl) ?_
    refine rl_v rfl rfl rfl (ov_move rfl rfl) ?_
    refine rl_call callable_68 rfl rfl rfl rfl rfl rfl (pay_any b5 _ n5 n _ P5 A5 _ (min (A5 0) (A6 0)) c5 _ _ _ (by omega) (by omega) (by omega) (by omega) (by omega) hH5 hC5 hO12 hr5) (fun e55 w56 hp57 => ?_)
    obtain ⟨rfl, n7, sv7, P7, A7, c7, hn7, hO7', hr7', hH7, hC7⟩ := hp57
    refine ⟨_, rfl, ?_⟩
    refine rl_nil <| run_region <| rl_v rfl rfl rfl (ov_move rfl rfl) <| rl_v rfl rfl rfl (ov_iface rfl Tryz.underlying115 (by intro _ h; cases h) rfl) ?_
    refine rl_v rfl rfl rfl (ov_move rfl rfl) ?_
    refine rl_call callable_68 rfl rfl rfl rfl rfl rfl (pay_any b6 _ n6 n _ P6 A6 _ (min (A5 0) (A6 0)) c6 _ _ _ (by omega) (by omega) (by omega) (by omega) (by omega) hH6 hC6 hO7'.swap2 hr6) (fun e58 w59 hp60 => ?_)
    obtain ⟨rfl, n8, sv8, P8, A8, c8, hn8, hO8', hr8', hH8, hC8⟩ := hp60
    refine ⟨_, rfl, ?_⟩
    have hO9' := hO8'.swap2
    refine rl_nil <| run_inBlock ?_
    refine Run.use (ih24 (m + 1) (vo2) (co2) _ ?_ ?_) (And.intro rfl (And.intro rfl (And.intro rfl trivial)))
    ·first | omega | (dsimp only; omega)
    ·exact ⟨by omega, nxt_rng hpay hget hrg, fun j hj => (by omega : j = m ∨ j < m).elim (fun e => by rw [e]; exact ⟨P5 0, hpay.1.1, hpay.1.2, hp1⟩) (fun e => hsome j e), hro2.congr fun k k0 k1 => trG_snoc n (ps n D) m (P5 0) (P6 0) (min (A5 0) (A6 0)) (payer_eq hpay) (getter_eq hget) (by unfold moved; rw [payer_eq hpay, getter_eq hget, eA, eB]) k k0 k1, n7, n8, sv7, sv8, P7, A7, P8, A8, c7, c8, by omega, by omega, hr7', hH7, hC7.congr (fun i i0 i1 => by show _ = max 0 (-(stP n (ps n D) (m + 1) i)); rw [hne' i]; unfold upd; dsimp only; by_cases e : i = P5 0; (rw [if_pos e, if_pos e]; omega); (rw [if_neg e, if_neg e]; by_cases e2 : i = P6 0; (rw [if_pos e2, e2]; omega); (rw [if_neg e2]))), hr8', hH8, hC8.congr (fun i i0 i1 => by show _ = max 0 (stP n (ps n D) (m + 1) i); rw [hne' i]; unfold upd; dsimp only; by_cases e : i = P5 0; (rw [if_neg (by omega), if_pos e, e]; omega); (rw [if_neg e]; by_cases e2 : i = P6 0; (rw [if_pos e2, if_pos e2]; omega); (rw [if_neg e2, if_neg e2]))), hO9'⟩
   ·have hn5 : n5 = 0 := by omega
    have hnone : ∀ i : Int, 0 ≤ i → i < n → 0 ≤ stP n (ps n D) m i := fun i i0 i1 => by
     refine Classical.byContradiction fun hx => ?_
     obtain ⟨k, k0, k1, _⟩ := hC5.all i i0 i1 (show 0 < max 0 (-(stP n (ps n D) m i)) by omega)
     omega
    refine run_exit rfl <| run_seq <| run_region <| rl_v rfl rfl rfl (ov_move rfl rfl) <| rl_v rfl rfl rfl (ov_assign rfl rfl) <| rl_v rfl rfl rfl (ov_assign rfl rfl) <| rl_nil <| run_ret Tryz.func35 (res2 Tryz.results35 rfl rfl) ?_
    exact ⟨m, vo, co, rfl, ⟨hsome, hnone⟩, hm, hro, hO28.sub (.cons _ (.cons _ (.cons _ (.cons _ (.refl _)))))⟩
end Go.Proofs.YtlldeifbfpmbaaaGreat
