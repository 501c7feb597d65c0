import Derived.Test.YtbepolognfdkeaaGcJ
set_option maxRecDepth 100000
namespace Go.Proofs.Ytbepolognfdkeaa
open Go.RowKit Go.Proofs Go.MapKept
structure Pks (o : Lds) (b : Int) (q : Nat) (I : Int → Int) : Prop where
 rng : ∀ j : Int, 0 ≤ j → j < q → 0 ≤ I j ∧ I j < b
 inc : ∀ a b : Int, 0 ≤ a → a < b → b < q → I a < I b
theorem Pks.nil {o : Lds} {b : Int} {I : Int → Int} : Pks o b 0 I := ⟨fun j a b => by omega, fun a b c d e => by omega⟩
theorem Pks.up {o : Lds} {b b' : Int} {q : Nat} {I : Int → Int} (h : Pks o b q I) (hb : b ≤ b') : Pks o b' q I := ⟨fun j j0 j1 => by have := h.rng j j0 j1; omega, h.inc⟩
theorem Pks.add {o : Lds} {b i : Int} {q : Nat} {I : Int → Int} (h : Pks o b q I) (i0 : 0 ≤ i) (hb : b ≤ i) : Pks o (i + 1) (q + 1) (upd I q i) := by
 refine ⟨fun j j0 j1 => ?_, fun a c a0 ac c1 => ?_⟩
 ·by_cases e : j = q
  ·rw [e, upd_same]; omega
  ·rw [upd_ne _ _ e]; have := h.rng j j0 (by omega); omega
 ·rw [upd_ne _ _ (show a ≠ q by omega)]
  by_cases e : c = q
  ·rw [e, upd_same]; have := h.rng a a0 (by omega); omega
  ·rw [upd_ne _ _ e]; exact h.inc a c a0 ac (by omega)
theorem Pks.valid {o : Lds} {b : Int} {q : Nat} {I : Int → Int} (h : Pks o b q I) (hb : b ≤ o.n) (hV : o.Valid) : (o.pick q I).Valid := fun j j0 j1 => by
 have := h.rng j j0 j1
 exact hV _ this.1 (by omega)
theorem Pks.can {o : Lds} {b k : Int} {q : Nat} {I : Int → Int} (h : Pks o b q I) (hb : b ≤ o.n) (hV : o.Valid) (hs : o.Short) (hk : 0 ≤ k) : (o.pick q I).Can k ↔ CanM o k fun i => ∃ p : Int, (0 ≤ p ∧ p < q) ∧ I p = i := by
 have hsh : (o.pick q I).Short := fun j j0 j1 => by
  have := h.rng j j0 j1
  exact hs _ this.1 (by omega)
 rw [hsh.can (h.valid hb hV) hk]
 exact Lds.pick_can (fun p p0 p1 => by have := h.rng p p0 p1; omega) fun a c a0 ac c1 => by have := h.inc a c a0 ac c1; omega
theorem Pks.le {o : Lds} {b : Int} {q n : Nat} {I : Int → Int} (h : Pks o b q I) (hb : b ≤ n) : q ≤ n :=
 pigeonG (e := I) (fun j j0 j1 => by have := h.rng j j0 j1; omega) fun a c a0 a1 c0 c1 e => by
  rcases Int.lt_trichotomy a c with d | d | d
  ·have := h.inc a c a0 d c1; omega
  ·exact d
  ·have := h.inc c a c0 d a1; omega
set_option maxHeartbeats 8000000 in
theorem sets7_any (la : Option Addr) (lc : Nat) (l : Lds) (kilns : Int) (ca : Option Addr) (cn cc : Nat) (ch : Int → Int) (w : World) (hc : l.n ≤ lc) (hI : l.I64) (hl : SAt w.heap.size w la 4 l.n (ldF l)) (hch : IAt w.heap.size w ca cn (fun i => iv (ch i))) :
  Calls Try.prog 10 #[.slice la l.n lc, iv kilns, .slice ca cn cc] w fun e w' => e = .returned (.bool true) ∧ Below w.heap.size w w' := by
 obtain ⟨k, hk⟩ : ∃ k, k = 1 + kilns % 18446744073709551616 % 3 := ⟨_, rfl⟩
 have hm := modsD (x := kilns) (m := 3) ⟨by decide, by decide⟩
 obtain ⟨o, ho⟩ : ∃ o, o = l.own 15 true := ⟨_, rfl⟩
 have hV : o.Valid := ho ▸ l.own_valid 15 true
 have hn : o.n ≤ 15 := ho ▸ l.own_le 15 true
 have hsh : o.Short := ho ▸ l.own_short 15
 have hkk : o.chkK k = 0 := Lds.chkK_ok (by omega) hV (by omega)
 have hE1 := Lds.best_ok hkk hsh
 obtain ⟨hb, hbo, hca, hcr⟩ := hch.open
 refine calls_of_run (F := [(0, _), (1, _), (2, _)]) Try.func10 rfl Try.ntmps10 rfl rfl ?_
 have hO0 := Own.init w
 refine run_seq <| run_region <| rl_v rfl rfl rfl (ov_assign rfl rfl) <| rl_nil <| run_seq <| run_region <| rl_v rfl rfl rfl (ov_move rfl rfl) <| rl_v rfl rfl rfl (ov_conv rfl Try.underlying3 Try.underlying33 rfl) <| rl_v rfl rfl rfl (ov_rem rfl rfl rfl (u64_nnD _) (by omega)) ?_
 refine rl_v rfl rfl rfl (ov_convTo (hm.1) rfl Try.underlying33 Try.underlying3 rfl) <| rl_v rfl rfl rfl (ov_add rfl rfl rfl (by omega)) ?_
 refine rl_v rfl rfl rfl (ov_assign rfl rfl) <| rl_nil <| run_seq <| run_region <| rl_v rfl rfl rfl (ov_move rfl rfl) ?_
 refine rl_call callable_13 rfl rfl rfl rfl rfl rfl (own7_any la lc l 15 true _ hc (by decide) hI (hO0.satU hl)) (fun e1 w2 hp3 => ?_)
 obtain ⟨va, vc, c, rfl, hr, hOa⟩ := hp3
 refine ⟨_, rfl, ?_⟩
 have hO4 := hO0.join hOa
 rw [← ho] at hr ⊢
 rw [← hk]
 refine rl_v rfl rfl rfl (ov_assign rfl rfl) <| rl_nil <| run_seq <| run_region <| rl_v rfl rfl rfl (ov_move rfl rfl) ?_
 refine rl_call callable_15 rfl rfl rfl rfl rfl rfl (give7_any va vc o _ (by omega) (hr.reads hO4 0 rfl)) (fun e5 w6 hp7 => ?_)
 obtain ⟨xa, xc, cx, rfl, hx, hOb⟩ := hp7
 refine ⟨_, rfl, ?_⟩
 have hO8 := hO4.join hOb
 refine rl_v rfl rfl rfl (ov_move rfl rfl) ?_
 refine rl_call callable_30 rfl rfl rfl rfl rfl rfl (Best_any xa xc o k _ (by omega) (fun _ => (by omega : o.n ≤ 20)) hV.i64 (hx.reads hO8 0 rfl)) (fun e9 w10 hp11 => ?_)
 obtain ⟨ba, bn, bc, Y, s, cb, rfl, hrb, hy1, _, hOc⟩ := hp11
 refine ⟨_, rfl, ?_⟩
 have hO12 := hO8.join hOc
 rw [hE1]
 obtain ⟨Z, hZ, hRi, hmem, hbn, hs⟩ := hy1 hE1
 refine rl_v rfl rfl rfl (ov_move rfl rfl) <| rl_v rfl rfl rfl (ov_extract rfl rfl (by rfl)) ?_
 refine rl_v rfl rfl rfl (ov_extract rfl rfl (by rfl)) ?_
 refine rl_v rfl rfl rfl (ov_extract rfl rfl (by rfl)) ?_
 refine rl_v rfl rfl rfl (ov_assign rfl rfl) <| rl_v rfl rfl rfl (ov_assign rfl rfl) <| rl_v rfl rfl rfl (ov_assign rfl rfl) <| rl_nil <| run_seq <| run_seq <| run_region <| rl_v rfl rfl rfl (ov_move rfl rfl) <| rl_v rfl rfl rfl (ov_neq rfl rfl rfl) <| rl_nil ?_
 first | refine run_cond_dec rfl (fun c1 => ?_) (fun c1 => ?_) | refine run_cond rfl (fun c1 => ?_) (fun c1 => ?_)
 ·exfalso; exact c1 rfl
 ·have hYr : ∀ j : Int, 0 ≤ j → j < bn → 0 ≤ Y j ∧ Y j < o.n := fun j j0 j1 => grd_rng hZ ((hmem (Y j)).1 ⟨j, ⟨j0, j1⟩, rfl⟩)
  obtain ⟨vb, hvb⟩ := hr.addr
  obtain ⟨bb, hbb⟩ := hrb.addr
  have hOd := (hO12.sub (.cons_cons _ (.cons _ (List.Sublist.refl _))) : Own _ _ _ [cb, c]).nil_cons.nil_cons.nil_cons
  refine run_skip <| run_seq <| run_region <| rl_v rfl rfl rfl (ov_assign rfl rfl) <| rl_v rfl rfl rfl (ov_assign rfl rfl) <| rl_v rfl rfl rfl (ov_assign rfl rfl) <| rl_nil <| run_seq <| run_region <| rl_v rfl rfl rfl (ov_assign rfl rfl) <| rl_nil <| run_seq <| run_seq <| run_region <| rl_v rfl rfl rfl (ov_assign rfl rfl) <| rl_nil <| run_block <| Run.keep [2, 7, 8, 9, 10, 12, 13, 14, 15, 16] (F' := [(2, _), (7, _), (8, _), (9, _), (10, _), (12, _), (13, _), (14, _), (15, _), (16, _)]) rfl <| run_loop4 (fun (i : Nat) (t : Int) (v1 : Value) (v2 : Value) => [(16, .int .i64 (i : Int)), (15, .int .i64 t), (12, v1), (13, v2)]) [2, 7, 8, 9, 10, 14] (fun (i : Nat) (t : Int) (v1 : Value) (v2 : Value) (w13 : World) => i ≤ bn ∧ ∃ (q2 : Nat) (I2 : Int → Int) (c1 c2 : Option Blk), t = sm (fun j => o.wo (Y j)) i ∧ ((Pks o (if i = 0 then 0 else Y ((i : Int) - 1) + 1) q2 I2) ∧ ∀ j : Int, 0 ≤ j → j < q2 → ∃ a : Int, (0 ≤ a ∧ a < bn) ∧ Y a = I2 j) ∧ SRow v1 72 4 i (ldF (o.pick i Y)) c1 ∧ SRow v2 72 4 q2 (ldF (o.pick q2 I2)) c2 ∧ Own w.heap.size w w13 [c1, c2, none, cb, c]) (fun (i : Nat) (t : Int) (v1 : Value) (v2 : Value) => bn - i) (0) (0) (.slice none 0 0) (.slice none 0 0) ?_ (And.intro (by exact slot_int rfl (by first | omega)) (And.intro (by exact slot_int rfl (by first | omega)) (And.intro rfl (And.intro rfl (And.intro rfl (And.intro rfl (And.intro rfl (And.intro rfl (And.intro rfl (And.intro rfl trivial)))))))))) ?_
  ·exact ⟨Nat.zero_le _, 0, fun _ => 0, none, none, rfl, ⟨Pks.nil, fun j a b => by omega⟩, SRow.nil _ _ _, SRow.nil _ _ _, hOd⟩
  intro i t v1 v2 w13 hIw13 ih14
  obtain ⟨hi, q2, I2, c1, c2, ht, hp2, hr1, hr2, hOe⟩ := hIw13
  show Run _ _ _ _ [(16, _), (15, _), (12, _), (13, _), (2, _), (7, _), (8, _), (9, _), (10, _), (14, _)] _ _
  refine run_seq <| run_seq <| run_region <| rl_v rfl rfl rfl (ov_move rfl rfl) <| rl_v rfl rfl rfl (ov_move rfl rfl) <| rl_v rfl rfl rfl (ov_len rfl Try.underlying47 rfl) <| rl_v rfl rfl rfl (ov_lss rfl rfl rfl) <| rl_nil ?_
  first | refine run_cond_dec rfl (fun c3 => ?_) (fun c3 => ?_) | refine run_cond rfl (fun c3 => ?_) (fun c3 => ?_)
  ·have hyi := hYr i (by omega) c3
   obtain ⟨y, hy⟩ : ∃ y, y = Y i := ⟨_, rfl⟩
   rw [← hy] at hyi
   have hprev : 0 < (i : Int) → Y ((i : Int) - 1) < y := fun h => by rw [hy]; exact hRi.inc ((i : Int) - 1) i (by omega) (by omega) c3
   have hvy := hV y hyi.1 hyi.2
   unfold Lds.Val at hvy
   have hbnd : (if i = 0 then 0 else Y ((i : Int) - 1) + 1) ≤ y := by
    by_cases e : i = 0
    ·rw [if_pos e]; omega
    ·rw [if_neg e]; have := hprev (by omega); omega
   have hq2 := hp2.1.le (n := o.n) (by omega)
   have ht0 : 0 ≤ t := by
    rw [ht]
    exact sm_nonneg fun j j0 j1 => by have a := hYr j j0 (by omega); have := hV (Y j) a.1 a.2; unfold Lds.Val at this; omega
   have ht1 : t ≤ i * 1000000 := by
    rw [ht]
    exact sm_bound _ (by omega) fun j j0 j1 => by have a := hYr j j0 (by omega); have := hV (Y j) a.1 a.2; unfold Lds.Val at this; omega
   have hts : t + o.wo y = sm (fun j => o.wo (Y j)) ((i + 1 : Nat) : Int) := by
    rw [show ((i + 1 : Nat) : Int) = (i : Int) + 1 by omega, sm_succ _ (by omega), ← ht, hy]
   refine run_skip <| run_seq <| run_block <| run_seq <| run_seq ?_
   refine run_quiet_join mixed (by kernel_rfl) 77 (.bool (decide (False))) [2, 7, 8, 9, 10, 12, 13, 14, 15, 16] (fun hk15 => ?_) (fun n16 => ?_)
   ·refine rq_v rfl rfl rfl (fun _ => ov_move rfl rfl) ?_
    refine rq_v rfl rfl rfl (fun _ => ov_move rfl rfl) ?_
    refine rq_v rfl rfl rfl (fun _ => ov_index1 rfl Try.underlying47 (by kernel_rfl) rfl rfl ⟨by omega, by omega⟩ (by exact hbb (by omega))) ?_
    refine rq_v rfl rfl rfl (fun _ => ov_load rfl Try.underlying3 rfl rfl (by show World.cell? w13 _ = _; first | exact (hrb.cellU hOe 3 rfl (hbb (by omega)) (i := i) (by omega) (by omega)).trans (congrArg (fun z => some (iv z)) hy.symm))) ?_
    refine rq_v rfl rfl rfl (fun _ => ov_lss rfl rfl rfl) ?_
    refine rq_v rfl rfl rfl (fun _ => ov_move rfl rfl) ?_
    first | refine rq_split_dec 53 rfl (fun hg17 => ?_) (fun hg17 => ?_) | refine rq_split 53 rfl (fun hg17 => ?_) (fun hg17 => ?_)
    ·refine rq_gskip rfl rfl rfl rfl rfl rfl <| rq_gskip rfl rfl rfl rfl rfl rfl <| rq_gskip rfl rfl rfl rfl rfl rfl <| rq_gskip rfl rfl rfl rfl rfl rfl <| rq_gskip rfl rfl rfl rfl rfl rfl <| rq_gskip rfl rfl rfl rfl rfl rfl <| rq_gskip rfl rfl rfl rfl rfl rfl <| rq_v rfl rfl rfl (fun _ => ov_pick_t rfl rfl rfl) ?_
     refine rq_v rfl rfl rfl (fun _ => ov_move rfl rfl) ?_
     refine rq_gskip rfl rfl rfl rfl rfl rfl <| rq_gskip rfl rfl rfl rfl rfl rfl <| rq_gskip rfl rfl rfl rfl rfl rfl <| rq_gundef rfl rfl rfl rfl rfl <| rq_gundef rfl rfl rfl rfl rfl <| rq_gundef rfl rfl rfl rfl rfl <| rq_gundef rfl rfl rfl rfl rfl <| rq_gundef rfl rfl rfl rfl rfl <| rq_gundef rfl rfl rfl rfl rfl <| rq_gundef rfl rfl rfl rfl rfl <| rq_gundef rfl rfl rfl rfl rfl <| rq_gundef rfl rfl rfl rfl rfl <| rq_gundef rfl rfl rfl rfl rfl <| rq_gskip rfl rfl rfl rfl rfl rfl <| rq_v rfl rfl rfl (fun _ => ov_pick_t rfl rfl rfl) ?_
     refine rq_nil (fun n => hk15 n _ (jbt rfl (by omega)) (And.intro rfl (And.intro rfl (And.intro rfl (And.intro rfl (And.intro rfl (And.intro rfl (And.intro rfl (And.intro rfl (And.intro rfl (And.intro rfl trivial)))))))))))
    ·refine rq_gv rfl rfl rfl rfl rfl (fun _ => ov_move rfl rfl) ?_
     refine rq_gv rfl rfl rfl rfl rfl (fun _ => ov_move rfl rfl) ?_
     refine rq_gv rfl rfl rfl rfl rfl (fun _ => ov_index1 rfl Try.underlying47 (by kernel_rfl) rfl rfl ⟨by omega, by omega⟩ (by exact hbb (by omega))) ?_
     refine rq_gv rfl rfl rfl rfl rfl (fun _ => ov_load rfl Try.underlying3 rfl rfl (by show World.cell? w13 _ = _; first | exact (hrb.cellU hOe 3 rfl (hbb (by omega)) (i := i) (by omega) (by omega)).trans (congrArg (fun z => some (iv z)) hy.symm))) ?_
     refine rq_gv rfl rfl rfl rfl rfl (fun _ => ov_move rfl rfl) ?_
     refine rq_gv rfl rfl rfl rfl rfl (fun _ => ov_len rfl Try.underlying22 rfl) ?_
     refine rq_gv rfl rfl rfl rfl rfl (fun _ => ov_geq rfl rfl rfl) ?_
     refine rq_v rfl rfl rfl (fun _ => ov_pick_f rfl rfl rfl) ?_
     refine rq_v rfl rfl rfl (fun _ => ov_move rfl rfl) ?_
     first | refine rq_split_dec 62 rfl (fun hg18 => ?_) (fun hg18 => ?_) | refine rq_split 62 rfl (fun hg18 => ?_) (fun hg18 => ?_)
     ·refine rq_gskip rfl rfl rfl rfl rfl rfl <| rq_gskip rfl rfl rfl rfl rfl rfl <| rq_gskip rfl rfl rfl rfl rfl rfl <| rq_gundef rfl rfl rfl rfl rfl <| rq_gundef rfl rfl rfl rfl rfl <| rq_gundef rfl rfl rfl rfl rfl <| rq_gundef rfl rfl rfl rfl rfl <| rq_gundef rfl rfl rfl rfl rfl <| rq_gundef rfl rfl rfl rfl rfl <| rq_gundef rfl rfl rfl rfl rfl <| rq_gundef rfl rfl rfl rfl rfl <| rq_gundef rfl rfl rfl rfl rfl <| rq_gundef rfl rfl rfl rfl rfl <| rq_gskip rfl rfl rfl rfl rfl rfl <| rq_v rfl rfl rfl (fun _ => ov_pick_t rfl rfl rfl) ?_
      refine rq_nil (fun n => hk15 n _ (jbt rfl (by omega)) (And.intro rfl (And.intro rfl (And.intro rfl (And.intro rfl (And.intro rfl (And.intro rfl (And.intro rfl (And.intro rfl (And.intro rfl (And.intro rfl trivial)))))))))))
     ·refine rq_gv rfl rfl rfl rfl rfl (fun _ => ov_move rfl rfl) ?_
      refine rq_gv rfl rfl rfl rfl rfl (fun _ => ov_gtr rfl rfl rfl) ?_
      refine rq_gv rfl rfl rfl rfl rfl (fun _ => ov_move rfl rfl) ?_
      first | refine rq_split_dec 65 rfl (fun hg19 => ?_) (fun hg19 => ?_) | refine rq_split 65 rfl (fun hg19 => ?_) (fun hg19 => ?_)
      ·refine rq_gv rfl rfl rfl rfl rfl (fun _ => ov_move rfl rfl) ?_
       refine rq_gv rfl rfl rfl rfl rfl (fun _ => ov_move rfl rfl) ?_
       refine rq_gv rfl rfl rfl rfl rfl (fun _ => ov_sub rfl rfl rfl (by omega)) ?_
       refine rq_gv rfl rfl rfl rfl rfl (fun _ => ov_index1 rfl Try.underlying47 (by kernel_rfl) rfl rfl ⟨by omega, by omega⟩ (by exact hbb (by omega))) ?_
       refine rq_gv rfl rfl rfl rfl rfl (fun _ => ov_load rfl Try.underlying3 rfl rfl (by show World.cell? w13 _ = _; first | exact hrb.cellU hOe 3 rfl (hbb (by omega)) (i := (i : Int) - 1) (by omega) (by omega))) ?_
       refine rq_gv rfl rfl rfl rfl rfl (fun _ => ov_move rfl rfl) ?_
       refine rq_gv rfl rfl rfl rfl rfl (fun _ => ov_move rfl rfl) ?_
       refine rq_gv rfl rfl rfl rfl rfl (fun _ => ov_index1 rfl Try.underlying47 (by kernel_rfl) rfl rfl ⟨by omega, by omega⟩ (by exact hbb (by omega))) ?_
       refine rq_gv rfl rfl rfl rfl rfl (fun _ => ov_load rfl Try.underlying3 rfl rfl (by show World.cell? w13 _ = _; first | exact (hrb.cellU hOe 3 rfl (hbb (by omega)) (i := i) (by omega) (by omega)).trans (congrArg (fun z => some (iv z)) hy.symm))) ?_
       refine rq_gv rfl rfl rfl rfl rfl (fun _ => ov_geq rfl rfl rfl) ?_
       refine rq_gv rfl rfl rfl rfl rfl (fun _ => ov_pick_t rfl rfl rfl) ?_
       refine rq_v rfl rfl rfl (fun _ => ov_pick_f rfl rfl rfl) ?_
       refine rq_nil (fun n => hk15 n _ (jbd rfl (by exact ⟨fun h => absurd (hprev (by omega)) (by omega), False.elim⟩)) (And.intro rfl (And.intro rfl (And.intro rfl (And.intro rfl (And.intro rfl (And.intro rfl (And.intro rfl (And.intro rfl (And.intro rfl (And.intro rfl trivial)))))))))))
      ·refine rq_gskip rfl rfl rfl rfl rfl rfl <| rq_gskip rfl rfl rfl rfl rfl rfl <| rq_gskip rfl rfl rfl rfl rfl rfl <| rq_gskip rfl rfl rfl rfl rfl rfl <| rq_gskip rfl rfl rfl rfl rfl rfl <| rq_gskip rfl rfl rfl rfl rfl rfl <| rq_gskip rfl rfl rfl rfl rfl rfl <| rq_gskip rfl rfl rfl rfl rfl rfl <| rq_gskip rfl rfl rfl rfl rfl rfl <| rq_gskip rfl rfl rfl rfl rfl rfl <| rq_gv rfl rfl rfl rfl rfl (fun _ => ov_pick_f rfl rfl rfl) ?_
       refine rq_v rfl rfl rfl (fun _ => ov_pick_f rfl rfl rfl) ?_
       refine rq_nil (fun n => hk15 n _ (jbf rfl (by exact fun h => h)) (And.intro rfl (And.intro rfl (And.intro rfl (And.intro rfl (And.intro rfl (And.intro rfl (And.intro rfl (And.intro rfl (And.intro rfl (And.intro rfl trivial)))))))))))
   ·have hO21 := hOe.drewN n16
    generalize World.drewN w13 n16 = w20 at hO21 ⊢
    show Run _ _ _ _ [(77, _), (2, _), (7, _), (8, _), (9, _), (10, _), (12, _), (13, _), (14, _), (15, _), (16, _)] _ _
    first | refine run_cond_dec rfl (fun c4 => ?_) (fun c4 => ?_) | refine run_cond rfl (fun c4 => ?_) (fun c4 => ?_)
    ·exfalso; exact c4
    ·refine run_skip <| run_seq <| run_region <| rl_v rfl rfl rfl (ov_move rfl rfl) <| rl_v rfl rfl rfl (ov_move rfl rfl) <| rl_v rfl rfl rfl (ov_move rfl rfl) <| rl_v rfl rfl rfl (ov_move rfl rfl) <| rl_v rfl rfl rfl (ov_index1 rfl Try.underlying47 (by kernel_rfl) rfl rfl ⟨by omega, by omega⟩ (by exact hbb (by omega))) ?_
     refine rl_v rfl rfl rfl (ov_load rfl Try.underlying3 rfl rfl (by exact (hrb.cellU hO21 3 rfl (hbb (by omega)) (i := i) (by omega) (by omega)).trans (congrArg (fun z => some (iv z)) hy.symm))) ?_
     refine rl_v rfl rfl rfl (ov_index rfl Try.underlying22 (by kernel_rfl) (s := 4) rfl rfl ⟨by omega, by omega⟩ (by exact hvb (by omega))) ?_
     refine rl_v rfl rfl rfl (ov_loadE rfl Try.underlying72 rfl (by kernel_rfl) rfl ⟨by omega, by omega⟩ rfl ((hr.cellU hO21 4 rfl (hvb (by omega))))) ?_
     refine rl_ow rfl (ow_build [_] rfl rfl rfl rfl rfl Try.underlying22 info_72 (by decide) hO21 rfl rfl) ?_
     rintro _ w22 ⟨b86, rfl, hO23, hs24⟩
     refine rl_ow rfl (ow_appR1 rfl rfl rfl Try.underlying22 info_72 rfl rfl hO23 0 hr1 rfl rfl rfl rfl rfl ⟨by omega, by omega⟩) ?_
     rintro _ w25 ⟨v87, c87, rfl, hO26, hr87, hs27⟩
     have hr88 : SRow v87 72 4 (i + 1) (ldF (o.pick (i + 1) Y)) c87 := hr87.congr fun j j0 j1 => by
      by_cases e : j = (i : Int)
      ·rw [e, upd_same, hy]; rfl
      ·rw [upd_ne _ _ e]; rfl
     refine rl_v rfl rfl rfl (ov_assign rfl rfl) <| rl_nil <| run_seq <| run_region <| rl_v rfl rfl rfl (ov_move rfl rfl) <| rl_v rfl rfl rfl (ov_move rfl rfl) <| rl_v rfl rfl rfl (ov_move rfl rfl) <| rl_v rfl rfl rfl (ov_move rfl rfl) <| rl_v rfl rfl rfl (ov_index1 rfl Try.underlying47 (by kernel_rfl) rfl rfl ⟨by omega, by omega⟩ (by exact hbb (by omega))) ?_
     refine rl_v rfl rfl rfl (ov_load rfl Try.underlying3 rfl rfl (by exact (hrb.cellU hO26 3 rfl (hbb (by omega)) (i := i) (by omega) (by omega)).trans (congrArg (fun z => some (iv z)) hy.symm))) ?_
     refine rl_v rfl rfl rfl (ov_index rfl Try.underlying22 (by kernel_rfl) (s := 4) rfl rfl ⟨by omega, by omega⟩ (by exact hvb (by omega))) ?_
     refine rl_v rfl rfl rfl (ov_fieldS rfl Try.underlying72 rfl (fo := 3) rfl (by kernel_rfl) rfl) ?_
     refine rl_v rfl rfl rfl (ov_load rfl Try.underlying3 rfl rfl (by exact hr.cellU hO26 4 rfl (hvb (by omega)) y hyi.1 hyi.2 3 (by decide))) ?_
     refine rl_v rfl rfl rfl (ov_add rfl rfl rfl (by omega)) ?_
     refine rl_v rfl rfl rfl (ov_assign rfl rfl) <| rl_nil <| run_seq <| run_region_join 109 (.bool (decide ((i : Int) < cn ∧ (ch i).tmod 2 ≠ 0))) [2, 7, 8, 9, 10, 12, 13, 14, 15, 16] (fun hk28 => ?_) ?_
     ·refine rl_v rfl rfl rfl (ov_move rfl rfl) <| rl_v rfl rfl rfl (ov_move rfl rfl) <| rl_v rfl rfl rfl (ov_len rfl Try.underlying47 rfl) <| rl_v rfl rfl rfl (ov_lss rfl rfl rfl) <| rl_v rfl rfl rfl (ov_move rfl rfl) ?_
      first | refine rl_split_dec 102 rfl (fun hg29 => ?_) (fun hg29 => ?_) | refine rl_split 102 rfl (fun hg29 => ?_) (fun hg29 => ?_)
      ·refine rl_gv rfl rfl rfl rfl rfl (ov_move rfl rfl) <| rl_gv rfl rfl rfl rfl rfl (ov_move rfl rfl) <| rl_gv rfl rfl rfl rfl rfl (ov_index1 rfl Try.underlying47 (by kernel_rfl) rfl rfl ⟨by omega, by omega⟩ (by exact hca (by omega))) ?_
       refine rl_gv rfl rfl rfl rfl rfl (ov_load rfl Try.underlying3 rfl rfl (by exact hcr _ hO26.below i (by omega) (by omega))) ?_
       refine rl_gv rfl rfl rfl rfl rfl (ov_remt rfl rfl rfl (by omega)) ?_
       refine rl_gv rfl rfl rfl rfl rfl (ov_neq rfl rfl rfl) <| rl_v rfl rfl rfl (ov_pick_t rfl rfl rfl) ?_
       refine rl_nil (hk28 _ (jbd rfl (by omega)) (And.intro rfl (And.intro rfl (And.intro rfl (And.intro rfl (And.intro rfl (And.intro rfl (And.intro rfl (And.intro rfl (And.intro rfl (And.intro rfl trivial)))))))))))
      ·refine rl_gskip rfl rfl rfl rfl rfl rfl <| rl_gskip rfl rfl rfl rfl rfl rfl <| rl_gskip rfl rfl rfl rfl rfl rfl <| rl_gskip rfl rfl rfl rfl rfl rfl <| rl_gskip rfl rfl rfl rfl rfl rfl <| rl_gskip rfl rfl rfl rfl rfl rfl <| rl_v rfl rfl rfl (ov_pick_f rfl rfl rfl) ?_
       refine rl_nil (hk28 _ (jbf rfl (by omega)) (And.intro rfl (And.intro rfl (And.intro rfl (And.intro rfl (And.intro rfl (And.intro rfl (And.intro rfl (And.intro rfl (And.intro rfl (And.intro rfl trivial)))))))))))
     ·show Run _ _ _ _ [(109, _), (2, _), (7, _), (8, _), (9, _), (10, _), (12, _), (13, _), (14, _), (15, _), (16, _)] _ _
      first | refine run_cond_dec rfl (fun c5 => ?_) (fun c5 => ?_) | refine run_cond rfl (fun c5 => ?_) (fun c5 => ?_)
      ·refine run_region <| rl_v rfl rfl rfl (ov_move rfl rfl) <| rl_v rfl rfl rfl (ov_move rfl rfl) <| rl_v rfl rfl rfl (ov_move rfl rfl) <| rl_v rfl rfl rfl (ov_move rfl rfl) <| rl_v rfl rfl rfl (ov_index1 rfl Try.underlying47 (by kernel_rfl) rfl rfl ⟨by omega, by omega⟩ (by exact hbb (by omega))) ?_
       refine rl_v rfl rfl rfl (ov_load rfl Try.underlying3 rfl rfl (by exact (hrb.cellU hO26 3 rfl (hbb (by omega)) (i := i) (by omega) (by omega)).trans (congrArg (fun z => some (iv z)) hy.symm))) ?_
       refine rl_v rfl rfl rfl (ov_index rfl Try.underlying22 (by kernel_rfl) (s := 4) rfl rfl ⟨by omega, by omega⟩ (by exact hvb (by omega))) ?_
       refine rl_v rfl rfl rfl (ov_loadE rfl Try.underlying72 rfl (by kernel_rfl) rfl ⟨by omega, by omega⟩ rfl ((hr.cellU hO26 4 rfl (hvb (by omega))))) ?_
       refine rl_ow rfl (ow_build [_] rfl rfl rfl rfl rfl Try.underlying22 info_72 (by decide) hO26 rfl rfl) ?_
       rintro _ w30 ⟨b118, rfl, hO31, hs32⟩
       refine rl_ow rfl (ow_appR1 rfl rfl rfl Try.underlying22 info_72 rfl rfl hO31 1 hr2 rfl rfl rfl rfl rfl ⟨by omega, by omega⟩) ?_
       rintro _ w33 ⟨v119, c119, rfl, hO34, hr119, hs35⟩
       have hp3 : (Pks o (if i + 1 = 0 then 0 else Y (((i + 1 : Nat) : Int) - 1) + 1) (q2 + 1) (upd I2 q2 y)) ∧ ∀ j : Int, 0 ≤ j → j < ((q2 + 1 : Nat) : Int) → ∃ a : Int, (0 ≤ a ∧ a < bn) ∧ Y a = upd I2 q2 y j := by
        refine ⟨?_, fun j j0 j1 => ?_⟩
        ·rw [if_neg (by omega), show ((i + 1 : Nat) : Int) - 1 = i by omega, ← hy]
         exact hp2.1.add hyi.1 hbnd
        ·by_cases e : j = q2
         ·rw [e, upd_same]; exact ⟨i, by omega, hy.symm⟩
         ·rw [upd_ne _ _ e]; exact hp2.2 j j0 (by omega)
       refine rl_v rfl rfl rfl (ov_assign rfl rfl) <| rl_nil <| run_inBlock <| run_region <| rl_v rfl rfl rfl (ov_move rfl rfl) <| rl_v rfl rfl rfl (ov_add rfl rfl rfl (by omega)) ?_
       refine rl_v rfl rfl rfl (ov_assign rfl rfl) <| rl_nil ?_
       refine Run.use (ih14 (i + 1) (t + o.wo y) (v87) (v119) _ ?_ ?_) (And.intro (by exact slot_int rfl (by first | omega)) (And.intro (by exact slot_int rfl (by first | omega)) (And.intro rfl (And.intro rfl (And.intro rfl (And.intro rfl (And.intro rfl (And.intro rfl (And.intro rfl (And.intro rfl trivial))))))))))
       ·first | omega | (dsimp only; omega)
       ·exact ⟨by omega, q2 + 1, upd I2 q2 y, c87, c119, hts, hp3, hr88, pick_row hr119 rfl, hO34⟩
      ·have hp3 : (Pks o (if i + 1 = 0 then 0 else Y (((i + 1 : Nat) : Int) - 1) + 1) q2 I2) ∧ ∀ j : Int, 0 ≤ j → j < q2 → ∃ a : Int, (0 ≤ a ∧ a < bn) ∧ Y a = I2 j := by
        refine ⟨?_, hp2.2⟩
        rw [if_neg (by omega), show ((i + 1 : Nat) : Int) - 1 = i by omega, ← hy]
        exact hp2.1.up (by omega)
       refine run_skip <| run_inBlock <| run_region <| rl_v rfl rfl rfl (ov_move rfl rfl) <| rl_v rfl rfl rfl (ov_add rfl rfl rfl (by omega)) ?_
       refine rl_v rfl rfl rfl (ov_assign rfl rfl) <| rl_nil ?_
       refine Run.use (ih14 (i + 1) (t + o.wo y) (v87) (v2) _ ?_ ?_) (And.intro (by exact slot_int rfl (by first | omega)) (And.intro (by exact slot_int rfl (by first | omega)) (And.intro rfl (And.intro rfl (And.intro rfl (And.intro rfl (And.intro rfl (And.intro rfl (And.intro rfl (And.intro rfl trivial))))))))))
       ·first | omega | (dsimp only; omega)
       ·exact ⟨by omega, q2, I2, c87, c2, hts, hp3, hr88, hr2, hO26⟩
  ·have hib : i = bn := by omega
   rw [hib] at hr1 ht
   have hP1 : Pks o o.n bn Y := ⟨hYr, hRi.inc⟩
   have hP2 : Pks o o.n q2 I2 := hp2.1.up (by
    by_cases e : i = 0
    ·rw [if_pos e]; omega
    ·rw [if_neg e]; have := hYr ((i : Int) - 1) (by omega) (by omega); omega)
   have hst : t = s := by
    rw [ht, hs, sm_img (I := Y) (n := o.n) (fun i => o.wo i) bn hYr fun a b a0 ab b1 => by have := hRi.inc a b a0 ab b1; omega]
    exact sm_congr fun i _ _ => by rw [ind_congr (hmem i)]
   obtain ⟨p1, p1c, rfl⟩ := Row.val hr1
   obtain ⟨p2, p2c, rfl⟩ := Row.val hr2
   refine run_exit rfl <| run_seq <| run_region <| rl_v rfl rfl rfl (ov_assign rfl rfl) <| rl_nil <| run_seq <| run_seq <| run_region <| rl_v rfl rfl rfl (ov_assign rfl rfl) <| rl_nil <| run_block <| Run.keep [2, 7, 8, 10, 12, 13, 14, 15, 17, 18] (F' := [(2, _), (7, _), (8, _), (10, _), (12, _), (13, _), (14, _), (15, _), (17, _), (18, _)]) rfl <| run_loop3 (fun (j : Nat) (t2 : Int) (v3 : Value) => [(18, .int .i64 (j : Int)), (17, .int .i64 t2), (14, v3)]) [2, 7, 8, 10, 12, 13, 15] (fun (j : Nat) (t2 : Int) (v3 : Value) (w36 : World) => j ≤ o.n ∧ ∃ (q3 : Nat) (I3 : Int → Int) (c3 : Option Blk), t2 = sm (fun a => o.wo (I3 a)) q3 ∧ Pks o j q3 I3 ∧ SRow v3 72 4 q3 (ldF (o.pick q3 I3)) c3 ∧ Own w.heap.size w w36 [c1, c2, c3, cb, c]) (fun (j : Nat) (t2 : Int) (v3 : Value) => o.n - j) (0) (0) (.slice none 0 0) ?_ (And.intro (by exact slot_int rfl (by first | omega)) (And.intro (by exact slot_int rfl (by first | omega)) (And.intro rfl (And.intro rfl (And.intro rfl (And.intro rfl (And.intro rfl (And.intro rfl (And.intro rfl (And.intro rfl trivial)))))))))) ?_
   ·exact ⟨Nat.zero_le _, 0, fun _ => 0, none, rfl, Pks.nil, SRow.nil _ _ _, hOe⟩
   intro j t2 v3 w36 hIw36 ih37
   obtain ⟨hj, q3, I3, c3, ht2, hp3, hr3, hOf⟩ := hIw36
   show Run _ _ _ _ [(18, _), (17, _), (14, _), (2, _), (7, _), (8, _), (10, _), (12, _), (13, _), (15, _)] _ _
   refine run_seq <| run_seq <| run_region <| rl_v rfl rfl rfl (ov_move rfl rfl) <| rl_v rfl rfl rfl (ov_move rfl rfl) <| rl_v rfl rfl rfl (ov_len rfl Try.underlying22 rfl) <| rl_v rfl rfl rfl (ov_lss rfl rfl rfl) <| rl_nil ?_
   first | refine run_cond_dec rfl (fun c6 => ?_) (fun c6 => ?_) | refine run_cond rfl (fun c6 => ?_) (fun c6 => ?_)
   ·have hvj := hV j (by omega) c6
    unfold Lds.Val at hvj
    have hq3 := hp3.le (n := o.n) (by omega)
    have ht0 : 0 ≤ t2 := by
     rw [ht2]
     exact sm_nonneg fun a a0 a1 => by have b := hp3.rng a a0 a1; have := hV (I3 a) b.1 (by omega); unfold Lds.Val at this; omega
    have ht1 : t2 ≤ q3 * 1000000 := by
     rw [ht2]
     exact sm_bound _ (by omega) fun a a0 a1 => by have b := hp3.rng a a0 a1; have := hV (I3 a) b.1 (by omega); unfold Lds.Val at this; omega
    refine run_skip <| run_seq <| run_block <| run_seq <| run_region_join 137 (.bool (decide ((j : Int) < cn ∧ (ch j).tmod 3 = 0))) [2, 7, 8, 10, 12, 13, 14, 15, 17, 18] (fun hk38 => ?_) ?_
    ·refine rl_v rfl rfl rfl (ov_move rfl rfl) <| rl_v rfl rfl rfl (ov_move rfl rfl) <| rl_v rfl rfl rfl (ov_len rfl Try.underlying47 rfl) <| rl_v rfl rfl rfl (ov_lss rfl rfl rfl) <| rl_v rfl rfl rfl (ov_move rfl rfl) ?_
     first | refine rl_split_dec 130 rfl (fun hg39 => ?_) (fun hg39 => ?_) | refine rl_split 130 rfl (fun hg39 => ?_) (fun hg39 => ?_)
     ·refine rl_gv rfl rfl rfl rfl rfl (ov_move rfl rfl) <| rl_gv rfl rfl rfl rfl rfl (ov_move rfl rfl) <| rl_gv rfl rfl rfl rfl rfl (ov_index1 rfl Try.underlying47 (by kernel_rfl) rfl rfl ⟨by omega, by omega⟩ (by exact hca (by omega))) ?_
      refine rl_gv rfl rfl rfl rfl rfl (ov_load rfl Try.underlying3 rfl rfl (by exact hcr _ hOf.below j (by omega) (by omega))) ?_
      refine rl_gv rfl rfl rfl rfl rfl (ov_remt rfl rfl rfl (by omega)) ?_
      refine rl_gv rfl rfl rfl rfl rfl (ov_eql rfl rfl rfl) <| rl_v rfl rfl rfl (ov_pick_t rfl rfl rfl) ?_
      refine rl_nil (hk38 _ (jbd rfl (by omega)) (And.intro rfl (And.intro rfl (And.intro rfl (And.intro rfl (And.intro rfl (And.intro rfl (And.intro rfl (And.intro rfl (And.intro rfl (And.intro rfl trivial)))))))))))
     ·refine rl_gskip rfl rfl rfl rfl rfl rfl <| rl_gskip rfl rfl rfl rfl rfl rfl <| rl_gskip rfl rfl rfl rfl rfl rfl <| rl_gskip rfl rfl rfl rfl rfl rfl <| rl_gskip rfl rfl rfl rfl rfl rfl <| rl_gskip rfl rfl rfl rfl rfl rfl <| rl_v rfl rfl rfl (ov_pick_f rfl rfl rfl) ?_
      refine rl_nil (hk38 _ (jbf rfl (by omega)) (And.intro rfl (And.intro rfl (And.intro rfl (And.intro rfl (And.intro rfl (And.intro rfl (And.intro rfl (And.intro rfl (And.intro rfl (And.intro rfl trivial)))))))))))
    ·show Run _ _ _ _ [(137, _), (2, _), (7, _), (8, _), (10, _), (12, _), (13, _), (14, _), (15, _), (17, _), (18, _)] _ _
     first | refine run_cond_dec rfl (fun c7 => ?_) (fun c7 => ?_) | refine run_cond rfl (fun c7 => ?_) (fun c7 => ?_)
     ·refine run_seq <| run_region <| rl_v rfl rfl rfl (ov_move rfl rfl) <| rl_v rfl rfl rfl (ov_move rfl rfl) <| rl_v rfl rfl rfl (ov_move rfl rfl) <| rl_v rfl rfl rfl (ov_index rfl Try.underlying22 (by kernel_rfl) (s := 4) rfl rfl ⟨by omega, by omega⟩ (by exact hvb (by omega))) ?_
      refine rl_v rfl rfl rfl (ov_loadE rfl Try.underlying72 rfl (by kernel_rfl) rfl ⟨by omega, by omega⟩ rfl ((hr.cellU hOf 4 rfl (hvb (by omega))))) ?_
      refine rl_ow rfl (ow_build [_] rfl rfl rfl rfl rfl Try.underlying22 info_72 (by decide) hOf rfl rfl) ?_
      rintro _ w40 ⟨b143, rfl, hO41, hs42⟩
      refine rl_ow rfl (ow_appR1 rfl rfl rfl Try.underlying22 info_72 rfl rfl hO41 2 hr3 rfl rfl rfl rfl rfl ⟨by omega, by omega⟩) ?_
      rintro _ w43 ⟨v144, c144, rfl, hO44, hr144, hs45⟩
      have hts : t2 + o.wo j = sm (fun a => o.wo (upd I3 q3 j a)) ((q3 + 1 : Nat) : Int) := by
       rw [show ((q3 + 1 : Nat) : Int) = (q3 : Int) + 1 by omega, sm_succ _ (by omega), upd_same, sm_congr (g := fun a => o.wo (I3 a)) fun a a0 a1 => by rw [upd_ne _ _ (by omega)], ht2]
      refine rl_v rfl rfl rfl (ov_assign rfl rfl) <| rl_nil <| run_region <| rl_v rfl rfl rfl (ov_move rfl rfl) <| rl_v rfl rfl rfl (ov_move rfl rfl) <| rl_v rfl rfl rfl (ov_move rfl rfl) <| rl_v rfl rfl rfl (ov_index rfl Try.underlying22 (by kernel_rfl) (s := 4) rfl rfl ⟨by omega, by omega⟩ (by exact hvb (by omega))) ?_
      refine rl_v rfl rfl rfl (ov_fieldS rfl Try.underlying72 rfl (fo := 3) rfl (by kernel_rfl) rfl) ?_
      refine rl_v rfl rfl rfl (ov_load rfl Try.underlying3 rfl rfl (by exact hr.cellU hO44 4 rfl (hvb (by omega)) j (by omega) c6 3 (by decide))) ?_
      refine rl_v rfl rfl rfl (ov_add rfl rfl rfl (by omega)) ?_
      refine rl_v rfl rfl rfl (ov_assign rfl rfl) <| rl_nil <| run_inBlock <| run_region <| rl_v rfl rfl rfl (ov_move rfl rfl) <| rl_v rfl rfl rfl (ov_add rfl rfl rfl (by omega)) ?_
      refine rl_v rfl rfl rfl (ov_assign rfl rfl) <| rl_nil ?_
      refine Run.use (ih37 (j + 1) (t2 + o.wo j) (v144) _ ?_ ?_) (And.intro (by exact slot_int rfl (by first | omega)) (And.intro (by exact slot_int rfl (by first | omega)) (And.intro rfl (And.intro rfl (And.intro rfl (And.intro rfl (And.intro rfl (And.intro rfl (And.intro rfl (And.intro rfl trivial))))))))))
      ·first | omega | (dsimp only; omega)
      ·exact ⟨by omega, q3 + 1, upd I3 q3 j, c144, hts, hp3.add (by omega) (Int.le_refl _), pick_row hr144 rfl, hO44⟩
     ·refine run_skip <| run_inBlock <| run_region <| rl_v rfl rfl rfl (ov_move rfl rfl) <| rl_v rfl rfl rfl (ov_add rfl rfl rfl (by omega)) ?_
      refine rl_v rfl rfl rfl (ov_assign rfl rfl) <| rl_nil ?_
      refine Run.use (ih37 (j + 1) (t2) (v3) _ ?_ ?_) (And.intro (by exact slot_int rfl (by first | omega)) (And.intro (by exact slot_int rfl (by first | omega)) (And.intro rfl (And.intro rfl (And.intro rfl (And.intro rfl (And.intro rfl (And.intro rfl (And.intro rfl (And.intro rfl trivial))))))))))
      ·first | omega | (dsimp only; omega)
      ·exact ⟨by omega, q3, I3, c3, ht2, hp3.up (by omega), hr3, hOf⟩
   ·have hjn : j = o.n := by omega
    rw [hjn] at hp3
    obtain ⟨p3, p3c, rfl⟩ := Row.val hr3
    have hq2 := hP2.le (n := o.n) (Int.le_refl _)
    have hq3 := hp3.le (n := o.n) (Int.le_refl _)
    have hdec : ∀ (o : Lds) (k : Int), decide ((0 : Int) = 0 ∧ o.Can k) = decide (o.Can k) := fun o k => decide_eq_decide.2 ⟨And.right, fun h => ⟨rfl, h⟩⟩
    have hk1 : (o.pick bn Y).chkK k = 0 := Lds.chkK_ok (show bn ≤ 256 by omega) (hP1.valid (Int.le_refl _) hV) (by omega)
    have hk2 : (o.pick q2 I2).chkK k = 0 := Lds.chkK_ok (show q2 ≤ 256 by omega) (hP2.valid (Int.le_refl _) hV) (by omega)
    have hk3 : (o.pick q3 I3).chkK k = 0 := Lds.chkK_ok (show q3 ≤ 256 by omega) (hp3.valid (Int.le_refl _) hV) (by omega)
    have hcan1 : (o.pick bn Y).Can k := (hP1.can (Int.le_refl _) hV hsh (by omega)).2 ((grd_can (by omega) o.n).sub fun i _ _ h => (hmem i).1 h)
    have hcan2 : (o.pick q2 I2).Can k := (hP2.can (Int.le_refl _) hV hsh (by omega)).2 ((grd_can (by omega) o.n).sub fun i _ _ ⟨a, ha, e⟩ => by
     obtain ⟨b, hb, e2⟩ := hp2.2 a ha.1 ha.2
     exact (hmem i).1 ⟨b, hb, e2.trans e⟩)
    have hcan3 : (o.pick q3 I3).Can k → t2 ≤ s := fun h => by
     have h9 := grd_best hV (show 0 ≤ k by omega) hZ ((hp3.can (Int.le_refl _) hV hsh (by omega)).1 h)
     rw [← hs] at h9
     refine Int.le_trans (Int.le_of_eq ?_) h9
     rw [ht2, sm_img (I := I3) (n := o.n) (fun i => o.wo i) q3 hp3.rng fun a b a0 ab b1 => by have := hp3.inc a b a0 ab b1; omega]
    refine run_exit rfl <| run_seq <| run_region <| rl_v rfl rfl rfl (ov_move rfl rfl) ?_
    refine rl_call callable_15 rfl rfl rfl rfl rfl rfl (give7_any p1 p1c (o.pick bn Y) _ (show bn ≤ 100000 by omega) (hr1.reads hOf 0 rfl)) (fun e46 w47 hp48 => ?_)
    obtain ⟨xa, xc, cx, rfl, hx, hOb⟩ := hp48
    refine ⟨_, rfl, ?_⟩
    have hO49 := hOf.join hOb
    refine rl_v rfl rfl rfl (ov_move rfl rfl) ?_
    refine rl_call callable_18 rfl rfl rfl rfl rfl rfl (Fits_any xa xc (o.pick bn Y) k _ (show bn ≤ 100000 by omega) (hP1.valid (Int.le_refl _) hV).i64 (hx.reads hO49 0 rfl)) (fun e50 w51 hp52 => ?_)
    obtain ⟨rfl, hOc⟩ := hp52
    refine ⟨_, rfl, ?_⟩
    have hO53 := hO49.join hOc
    rw [hk1, hdec, decide_eq_true hcan1]
    refine rl_v rfl rfl rfl (ov_move rfl rfl) <| rl_v rfl rfl rfl (ov_extract rfl rfl (by rfl)) ?_
    refine rl_v rfl rfl rfl (ov_extract rfl rfl (by rfl)) ?_
    refine rl_v rfl rfl rfl (ov_assign rfl rfl) <| rl_v rfl rfl rfl (ov_assign rfl rfl) <| rl_nil <| run_seq <| run_region <| rl_v rfl rfl rfl (ov_move rfl rfl) ?_
    refine rl_call callable_15 rfl rfl rfl rfl rfl rfl (give7_any p2 p2c (o.pick q2 I2) _ (show q2 ≤ 100000 by omega) (hr2.reads hO53 2 rfl)) (fun e54 w55 hp56 => ?_)
    obtain ⟨xa, xc, cx, rfl, hx, hOb⟩ := hp56
    refine ⟨_, rfl, ?_⟩
    have hO57 := hO53.join hOb
    refine rl_v rfl rfl rfl (ov_move rfl rfl) ?_
    refine rl_call callable_18 rfl rfl rfl rfl rfl rfl (Fits_any xa xc (o.pick q2 I2) k _ (show q2 ≤ 100000 by omega) (hP2.valid (Int.le_refl _) hV).i64 (hx.reads hO57 0 rfl)) (fun e58 w59 hp60 => ?_)
    obtain ⟨rfl, hOc⟩ := hp60
    refine ⟨_, rfl, ?_⟩
    have hO61 := hO57.join hOc
    rw [hk2, hdec, decide_eq_true hcan2]
    refine rl_v rfl rfl rfl (ov_move rfl rfl) <| rl_v rfl rfl rfl (ov_extract rfl rfl (by rfl)) ?_
    refine rl_v rfl rfl rfl (ov_extract rfl rfl (by rfl)) ?_
    refine rl_v rfl rfl rfl (ov_assign rfl rfl) <| rl_v rfl rfl rfl (ov_assign rfl rfl) <| rl_nil <| run_seq <| run_region <| rl_v rfl rfl rfl (ov_move rfl rfl) ?_
    refine rl_call callable_15 rfl rfl rfl rfl rfl rfl (give7_any p3 p3c (o.pick q3 I3) _ (show q3 ≤ 100000 by omega) (hr3.reads hO61 4 rfl)) (fun e62 w63 hp64 => ?_)
    obtain ⟨xa, xc, cx, rfl, hx, hOb⟩ := hp64
    refine ⟨_, rfl, ?_⟩
    have hO65 := hO61.join hOb
    refine rl_v rfl rfl rfl (ov_move rfl rfl) ?_
    refine rl_call callable_18 rfl rfl rfl rfl rfl rfl (Fits_any xa xc (o.pick q3 I3) k _ (show q3 ≤ 100000 by omega) (hp3.valid (Int.le_refl _) hV).i64 (hx.reads hO65 0 rfl)) (fun e66 w67 hp68 => ?_)
    obtain ⟨rfl, hOc⟩ := hp68
    refine ⟨_, rfl, ?_⟩
    have hO69 := hO65.join hOc
    rw [hk3, hdec]
    refine rl_v rfl rfl rfl (ov_move rfl rfl) <| rl_v rfl rfl rfl (ov_extract rfl rfl (by rfl)) ?_
    refine rl_v rfl rfl rfl (ov_extract rfl rfl (by rfl)) ?_
    refine rl_v rfl rfl rfl (ov_assign rfl rfl) <| rl_v rfl rfl rfl (ov_assign rfl rfl) <| rl_nil <| run_seq <| run_region <| rl_v rfl rfl rfl (ov_move rfl rfl) <| rl_v rfl rfl rfl (ov_eql rfl rfl rfl) <| rl_v rfl rfl rfl (ov_move rfl rfl) ?_
    first | refine rl_yesD 175 rfl (rfl) ?_ | refine rl_yes 175 rfl (rfl) ?_
    refine rl_gv rfl rfl rfl rfl rfl (ov_move rfl rfl) <| rl_gv rfl rfl rfl rfl rfl (ov_eql rfl rfl rfl) <| rl_v rfl rfl rfl (ov_pick_t rfl rfl rfl) <| rl_v rfl rfl rfl (ov_move rfl rfl) ?_
    first | refine rl_yesD 179 rfl (rfl) ?_ | refine rl_yes 179 rfl (rfl) ?_
    refine rl_gv rfl rfl rfl rfl rfl (ov_move rfl rfl) <| rl_gv rfl rfl rfl rfl rfl (ov_eql rfl rfl rfl) <| rl_v rfl rfl rfl (ov_pick_t rfl rfl rfl) <| rl_v rfl rfl rfl (ov_move rfl rfl) ?_
    first | refine rl_yesD 183 rfl (rfl) ?_ | refine rl_yes 183 rfl (rfl) ?_
    refine rl_gv rfl rfl rfl rfl rfl (ov_move rfl rfl) <| rl_v rfl rfl rfl (ov_pick_t rfl rfl rfl) <| rl_v rfl rfl rfl (ov_move rfl rfl) ?_
    first | refine rl_yesD 186 rfl (rfl) ?_ | refine rl_yes 186 rfl (rfl) ?_
    refine rl_gv rfl rfl rfl rfl rfl (ov_move rfl rfl) <| rl_v rfl rfl rfl (ov_pick_t rfl rfl rfl) <| rl_v rfl rfl rfl (ov_move rfl rfl) ?_
    first | refine rl_yesD 189 rfl (rfl) ?_ | refine rl_yes 189 rfl (rfl) ?_
    refine rl_gv rfl rfl rfl rfl rfl (ov_move rfl rfl) <| rl_gv rfl rfl rfl rfl rfl (ov_move rfl rfl) <| rl_gv rfl rfl rfl rfl rfl (ov_eql rfl rfl rfl) <| rl_v rfl rfl rfl (ov_pick_t rfl rfl rfl) <| rl_v rfl rfl rfl (ov_move rfl rfl) ?_
    first | refine rl_yesD 194 rfl (hst) ?_ | refine rl_yes 194 rfl (hst) ?_
    refine rl_gv rfl rfl rfl rfl rfl (ov_move rfl rfl) <| rl_gv rfl rfl rfl rfl rfl (ov_not rfl rfl) <| rl_gv rfl rfl rfl rfl rfl (ov_move rfl rfl) ?_
    first | refine rl_split_dec 197 rfl (fun hg9 => ?_) (fun hg9 => ?_) | refine rl_split 197 rfl (fun hg9 => ?_) (fun hg9 => ?_)
    ·refine rl_gskip rfl rfl rfl rfl rfl rfl <| rl_gskip rfl rfl rfl rfl rfl rfl <| rl_gskip rfl rfl rfl rfl rfl rfl <| rl_gv rfl rfl rfl rfl rfl (ov_pick_t rfl rfl rfl) <| rl_v rfl rfl rfl (ov_pick_t rfl rfl rfl) <| rl_v rfl rfl rfl (ov_move rfl rfl) ?_
     refine rl_gcall callable_17 rfl rfl rfl rfl rfl rfl rfl rfl (awake7_any _) (fun e71 w72 hp73 => ?_)
     obtain ⟨rfl, hOg⟩ := hp73
     refine ⟨_, rfl, ?_⟩
     have hO74 := hO69.join hOg
     refine rl_v rfl rfl rfl (ov_pick_t rfl rfl rfl) <| rl_v rfl rfl rfl (ov_assign rfl rfl) <| rl_nil <| run_ret Try.func10 (res1 Try.results10 rfl) ?_
     exact ⟨rfl, hO74.below⟩
    ·refine rl_gv rfl rfl rfl rfl rfl (ov_move rfl rfl) <| rl_gv rfl rfl rfl rfl rfl (ov_move rfl rfl) <| rl_gv rfl rfl rfl rfl rfl (ov_leq rfl rfl rfl) <| rl_gv rfl rfl rfl rfl rfl (ov_pick_f rfl rfl rfl) <| rl_v rfl rfl rfl (ov_pick_t rfl rfl rfl) <| rl_v rfl rfl rfl (ov_move rfl rfl) ?_
     first | refine rl_yesD 203 rfl (hcan3 (by simpa using hg9)) ?_ | refine rl_yes 203 rfl (hcan3 (by simpa using hg9)) ?_
     refine rl_gcall callable_17 rfl rfl rfl rfl rfl rfl rfl rfl (awake7_any _) (fun e75 w76 hp77 => ?_)
     obtain ⟨rfl, hOg⟩ := hp77
     refine ⟨_, rfl, ?_⟩
     have hO78 := hO69.join hOg
     refine rl_v rfl rfl rfl (ov_pick_t rfl rfl rfl) <| rl_v rfl rfl rfl (ov_assign rfl rfl) <| rl_nil <| run_ret Try.func10 (res1 Try.results10 rfl) ?_
     exact ⟨rfl, hO78.below⟩
end Go.Proofs.Ytbepolognfdkeaa
