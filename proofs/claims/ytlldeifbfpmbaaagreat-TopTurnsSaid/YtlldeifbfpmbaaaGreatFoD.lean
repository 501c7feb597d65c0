import Derived.Test.YtlldeifbfpmbaaaGreatFoC
set_option maxRecDepth 100000
namespace Go.Proofs.YtlldeifbfpmbaaaGreat
open Go.RowKit Go.Proofs Go.MapKept
theorem p3x {α : Type} {x a b c : α} {R : List α} : (x :: a :: b :: c :: R).Perm (a :: b :: c :: x :: R) := (List.perm_middle (l₁ := [a, b, c])).symm
theorem opt_best {f : Fair} (hf : f.Ok) {l1 l2 nb : Int → Int} (hB : f.Best l1) (hA : f.AS l2 nb) {g : Int} (g0 : 0 ≤ g) (g1 : g < f.n) (h : 0 ≤ l1 g) (ha2 : l2 g < 0 ∨ l2 g ≠ -1) : Opt f l1 l2 g (l1 g) := by
 rcases hB.stab.poss.at_ g g0 g1 with e | ⟨e1, e2⟩
 ·omega
 ·refine .inr ⟨h, e1, e2, Int.le_refl _, ?_⟩
  by_cases c : l2 g < 0
  ·rw [if_pos c]
   have h1 := e2.1
   have h2 := pigeon (n := f.gl g) (m := f.m) (e := f.ge g) (fun k k0 k1 => hf.gr g k g0 g1 k0 k1) (hf.gd g g0 g1)
   omega
  ·rw [if_neg c]
   exact (hA.worst hB.stab g0 g1 (by omega)).2
set_option maxHeartbeats 4000000 in
theorem within_any (tb : Nat) (f : Fair) (w : World) (hV : Valid5 f f.m) (hm12 : f.m ≤ 12) (h : PT w.heap.size w tb f) :
  Calls Tryz.prog 73 #[ptr tb] w fun e w' => ∃ (ob : Nat) (rf : Int → Value) (N : Int → Nat) (X : Int → Int → Int) (T : List (Option Blk)) (l1 l2 nb : Int → Int), e = .returned (.slice (some ⟨ob, 0, none⟩) f.n f.n) ∧ Own w.heap.size w w' (some (vch ob 23 f.n rf) :: T) ∧ f.Best l1 ∧ f.AS l2 nb ∧ (∀ b : Int, 0 ≤ b → b < f.m → Done f l2 nb b) ∧ ∀ g : Int, 0 ≤ g → g < f.n → RdR T (rf g) (N g) (X g) ∧ OptR f l1 l2 g (N g) (X g) := by
 have hpt := h
 obtain ⟨ga, ba, qa, ma, na, gc, bc, qc, mc, nc, hL, hF, hM, hN⟩ := h
 have hl := hL.open
 obtain ⟨A, C, RB, RO, gb, go, hga, hrow, hra, hel, _⟩ := hF.g.open
 have hf := hV.ok
 have hsn := hV.sm.n
 have hgl : ∀ g : Int, 0 ≤ g → g < f.n → f.gl g ≤ f.m := fun g g0 g1 => pigeon (n := f.gl g) (m := f.m) (e := f.ge g) (fun k k0 k1 => hf.gr g k g0 g1 k0 k1) (hf.gd g g0 g1)
 refine calls_of_run (F := [(0, _)]) Tryz.func73 rfl Tryz.ntmps73 rfl rfl ?_
 have hO0 := Own.init w
 refine run_seq <| run_region <| rl_v rfl rfl rfl (ov_assign rfl rfl) <| rl_nil <| run_seq <| run_region <| rl_v rfl rfl rfl (ov_move rfl rfl) ?_
 refine rl_call callable_42 rfl rfl rfl rfl rfl rfl (offered_any tb f _ hV.ok hV.sm (hO0.pt hpt)) (fun e1 w2 hp3 => ?_)
 obtain ⟨o1, l1, nx, rfl, hO1, hD, hE⟩ := hp3
 refine ⟨_, rfl, ?_⟩
 have hO4 := hO0.join hO1
 refine rl_v rfl rfl rfl (ov_move rfl rfl) ?_
 refine rl_call callable_43 rfl rfl rfl rfl rfl rfl (asked_any tb f _ hV.ok hV.sm (hO4.pt hpt)) (fun e5 w6 hp7 => ?_)
 obtain ⟨o2, l2, nb, rfl, hO2, hA, hDn⟩ := hp7
 refine ⟨_, rfl, ?_⟩
 have hO8 := hO4.join hO2
 have hB := hD.isBest hV.ok hE
 refine rl_v rfl rfl rfl (ov_assign rfl rfl) <| rl_v rfl rfl rfl (ov_assign rfl rfl) <| rl_nil <| run_seq <| run_region <| rl_v rfl rfl rfl (ov_move rfl rfl) <| rl_v rfl rfl rfl (ov_nil rfl rfl) <| rl_v rfl rfl rfl (ov_fieldS rfl Tryz.underlying100 rfl (fo := 0) rfl (by kernel_rfl) rfl) ?_
 refine rl_v rfl rfl rfl (ov_fieldS rfl Tryz.underlying27 rfl (fo := 0) rfl (by kernel_rfl) rfl) ?_
 refine rl_v rfl rfl rfl (ov_load rfl Tryz.underlying22 rfl rfl (by exact hl _ hO8.below rfl)) ?_
 refine rl_v rfl rfl rfl (ov_len rfl Tryz.underlying22 rfl) ?_
 refine rl_make (f.n) rfl rfl rfl rfl Tryz.underlying22 info_23 rfl hO8 rfl rfl (by rfl) (by rfl) ⟨by omega, by omega⟩ (fun ob w9 hO10 hs11 => ?_)
 refine rl_v rfl rfl rfl (ov_assign rfl rfl) <| rl_nil <| run_seq <| run_seq <| run_region <| rl_v rfl rfl rfl (ov_move rfl rfl) <| rl_v rfl rfl rfl (ov_len rfl Tryz.underlying22 rfl) <| rl_v rfl rfl rfl (ov_move rfl rfl) <| rl_nil <| run_block <| Run.keep [0, 3, 4, 5, 21, 22] (F' := [(0, _), (3, _), (4, _), (5, _), (21, _), (22, _)]) rfl <| run_loop1 (fun (k : Nat) => [(22, .int .i64 (k : Int))]) [0, 3, 4, 5, 21] (fun (k : Nat) (w12 : World) => k ≤ f.n ∧ ∃ (rf : Int → Value) (N : Int → Nat) (X : Int → Int → Int) (T : List (Option Blk)), (∀ r : Int, k ≤ r → rf r = .slice none 0 0) ∧ (∀ g : Int, 0 ≤ g → g < k → RdR T (rf g) (N g) (X g) ∧ OptR f l1 l2 g (N g) (X g)) ∧ Own w.heap.size w w12 (some (vch ob 23 f.n rf) :: some (vch o2 3 f.n (fun g => iv (l2 g))) :: some (vch o1 3 f.n (fun g => iv (l1 g))) :: T)) (fun (k : Nat) => f.n - k) (0) ?_ (And.intro (by exact slot_int rfl (by first | omega)) (And.intro rfl (And.intro rfl (And.intro rfl (And.intro rfl (And.intro rfl trivial)))))) ?_
 ·exact ⟨Nat.zero_le _, _, fun _ => 0, fun _ _ => 0, [], fun r _ => rfl, fun g g0 g1 => by omega, hO10⟩
 intro k w12 hIw12 ih13
 obtain ⟨hk, rf, N, X, T, hz, hR, hO⟩ := hIw12
 show Run _ _ _ _ [(22, _), (0, _), (3, _), (4, _), (5, _), (21, _)] _ _
 refine run_seq <| run_region <| rl_v rfl rfl rfl (ov_lss rfl rfl rfl) <| rl_nil <| run_seq ?_
 first | refine run_cond_dec rfl (fun c1 => ?_) (fun c1 => ?_) | refine run_cond rfl (fun c1 => ?_) (fun c1 => ?_)
 ·have hk' : k < f.n := by omega
  have hst : ∀ {T' : List (Option Blk)} {v : Value} {m : Nat} {Y : Int → Int}, (∀ (v : Value) (n : Nat) (X : Int → Int), RdR T v n X → RdR T' v n X) → RdR T' v m Y → OptR f l1 l2 k m Y → ∀ g : Int, 0 ≤ g → g < ((k + 1 : Nat) : Int) → RdR T' (upd rf (k : Int) v g) (upd N (k : Int) m g) (upd X (k : Int) Y g) ∧ OptR f l1 l2 g (upd N (k : Int) m g) (upd X (k : Int) Y g) := fun hT h1 h2 g g0 g1 => by
   by_cases e : g = k
   ·rw [e, upd_same, upd_same, upd_same]; exact ⟨h1, h2⟩
   ·rw [upd_ne _ _ e, upd_ne _ _ e, upd_ne _ _ e]
    exact ⟨hT _ _ _ (hR g g0 (by omega)).1, (hR g g0 (by omega)).2⟩
  have hz2 : ∀ (v : Value) (r : Int), ((k + 1 : Nat) : Int) ≤ r → upd rf (k : Int) v r = .slice none 0 0 := fun v r hr => by rw [upd_ne _ _ (by omega)]; exact hz r (by omega)
  refine run_skip <| run_seq <| run_block <| run_seq <| run_region <| rl_v rfl rfl rfl (ov_move rfl rfl) <| rl_v rfl rfl rfl (ov_assign rfl rfl) <| rl_nil <| run_seq <| run_seq <| run_region <| rl_v rfl rfl rfl (ov_move rfl rfl) <| rl_v rfl rfl rfl (ov_move rfl rfl) <| rl_v rfl rfl rfl (ov_index1 rfl Tryz.underlying23 (by kernel_rfl) rfl rfl ⟨by omega, by omega⟩ (by rfl)) ?_
  refine rl_v rfl rfl rfl (ov_load rfl Tryz.underlying3 rfl rfl (by exact hO.cellI 2 rfl k (by omega) c1)) ?_
  refine rl_v rfl rfl rfl (ov_lss rfl rfl rfl) <| rl_nil ?_
  first | refine run_cond_dec rfl (fun c2 => ?_) (fun c2 => ?_) | refine run_cond rfl (fun c2 => ?_) (fun c2 => ?_)
  ·refine run_seq <| run_region <| rl_v rfl rfl rfl (ov_move rfl rfl) <| rl_v rfl rfl rfl (ov_move rfl rfl) <| rl_ow rfl (ow_one rfl rfl rfl Tryz.underlying23 info_3 rfl hO rfl rfl) ?_
   rintro _ w14 ⟨bx, rfl, hO15, hs16⟩
   refine rl_v rfl rfl rfl (ov_index1 rfl Tryz.underlying22 (by kernel_rfl) rfl rfl ⟨by omega, by omega⟩ (by rfl)) ?_
   refine rl_ow rfl (ow_store rfl rfl (by kernel_rfl) hO15 1 rfl rfl ⟨by omega, by omega⟩ rfl rfl) ?_
   rintro _ w17 ⟨rfl, hO18, hs19⟩
   have hOp := hO18.perm p3x
   have hopt : OptR f l1 l2 k 1 (fun _ => -1) := ⟨fun a b a0 ab b1 => by omega, fun v => ⟨fun ⟨j, _, e⟩ => .inl ⟨c2, e.symm⟩, fun hv => by rcases hv with ⟨_, e⟩ | ⟨e, _⟩; (exact ⟨0, by omega, e.symm⟩); omega⟩⟩
   have hrd : RdR (some (vch bx 3 1 (fun _ => iv (-1))) :: T) (.slice (some ⟨bx, 0, none⟩) 1 1) 1 (fun _ => -1) := ⟨_, _, rfl, Nat.le_refl _, fun B w0 ww hO => hO.readsI 0 rfl⟩
   refine rl_nil <| run_exit rfl <| run_region <| rl_v rfl rfl rfl (ov_add rfl rfl rfl (by omega)) ?_
   refine rl_v rfl rfl rfl (ov_move rfl rfl) <| rl_nil ?_
   refine Run.use (ih13 (k + 1) _ ?_ ?_) (And.intro (by exact slot_int rfl (by first | omega)) (And.intro rfl (And.intro rfl (And.intro rfl (And.intro rfl (And.intro rfl trivial))))))
   ·first | omega | (dsimp only; omega)
   ·exact ⟨by omega, _, _, _, _, hz2 _, hst (fun v n X h => h.cons _) hrd hopt, hOp⟩
  ·have hb0 : 0 ≤ l1 k := by omega
   have hOn := (hO.nil_cons).congrI 1 rfl (G' := upd rf (k : Int) (.slice none 0 0)) fun r r0 r1 => by
    by_cases e : r = k
    ·rw [e, upd_same]; exact hz k (Int.le_refl _)
    ·rw [upd_ne _ _ e]
   have hglk := hgl k (by omega) c1
   have hgk1 : f.rg k (l1 k) < f.gl k := by
    rcases hB.stab.poss.at_ k (by omega) c1 with e | ⟨_, e2⟩
    ·omega
    ·exact e2.1
   have hrn : 0 ≤ f.rg k (l1 k) := (rk_rng (f.ge k) (l1 k) (f.gl k)).1
   have hgp : 0 < f.gl k := by omega
   have hk2 : l2 k < 0 ∨ f.rg k (l2 k) < f.gl k := by
    by_cases e : l2 k = -1
    ·exact .inl (by omega)
    ·exact .inr (hA.at_ k (by omega) c1 e).2.1.1
   refine run_skip <| run_seq <| run_seq <| run_region <| rl_v rfl rfl rfl (ov_move rfl rfl) <| rl_v rfl rfl rfl (ov_nil rfl rfl) <| rl_v rfl rfl rfl (ov_fieldS rfl Tryz.underlying100 rfl (fo := 0) rfl (by kernel_rfl) rfl) ?_
   refine rl_v rfl rfl rfl (ov_fieldS rfl Tryz.underlying27 rfl (fo := 0) rfl (by kernel_rfl) rfl) ?_
   refine rl_v rfl rfl rfl (ov_load rfl Tryz.underlying22 rfl rfl (by exact hl _ hOn.below rfl)) ?_
   refine rl_v rfl rfl rfl (ov_move rfl rfl) <| rl_v rfl rfl rfl (ov_index1 rfl Tryz.underlying22 (by kernel_rfl) rfl rfl ⟨by omega, by omega⟩ (by exact hga (by omega))) ?_
   refine rl_v rfl rfl rfl (ov_load rfl Tryz.underlying23 rfl rfl (by exact hrow _ hOn.below _ (by omega) (by omega))) ?_
   refine rl_v rfl rfl rfl (ov_len rfl Tryz.underlying23 rfl) <| rl_v rfl rfl rfl (ov_move rfl rfl) <| rl_nil <| run_block <| Run.keep [0, 3, 4, 5, 6, 21, 22, 41, 42, 43] (F' := [(0, _), (3, _), (4, _), (5, _), (6, _), (21, _), (22, _), (41, _), (42, _), (43, _)]) rfl <| run_loop1 (fun (j : Int) => [(43, .int .i64 j)]) [0, 3, 4, 5, 6, 21, 22, 41, 42] (fun (j : Int) (w20 : World) => 0 ≤ j ∧ j ≤ f.gl k ∧ ∃ (q : Nat) (v : Value) (c : Option Blk) (Y : Int → Int), (q : Int) ≤ j ∧ IRow v 3 q (fun i => iv (Y i)) c ∧ OptJ f l1 l2 k j q Y ∧ Own w.heap.size w w20 (c :: some (vch ob 23 f.n (upd rf (k : Int) v)) :: some (vch o2 3 f.n (fun g => iv (l2 g))) :: some (vch o1 3 f.n (fun g => iv (l1 g))) :: T)) (fun (j : Int) => ((f.gl k : Int) - j).toNat) (0) ?_ (And.intro (by exact slot_int rfl (by first | omega)) (And.intro rfl (And.intro rfl (And.intro rfl (And.intro rfl (And.intro rfl (And.intro rfl (And.intro rfl (And.intro rfl (And.intro rfl trivial)))))))))) ?_
   ·exact ⟨by omega, by omega, 0, _, none, fun _ => 0, by omega, IRow.nil _ _, ⟨fun a b a0 a1 => by omega, fun v => ⟨fun ⟨i, hi, _⟩ => by omega, fun ⟨⟨i, hi, _⟩, _⟩ => by omega⟩⟩, hOn⟩
   intro j w20 hIw20 ih21
   obtain ⟨hj0, hj1, q, v, c, Y, hqj, hr, hJ, hO⟩ := hIw20
   show Run _ _ _ _ [(43, _), (0, _), (3, _), (4, _), (5, _), (6, _), (21, _), (22, _), (41, _), (42, _)] _ _
   refine run_seq <| run_region <| rl_v rfl rfl rfl (ov_lss rfl rfl rfl) <| rl_nil <| run_seq ?_
   first | refine run_cond_dec rfl (fun c3 => ?_) (fun c3 => ?_) | refine run_cond rfl (fun c3 => ?_) (fun c3 => ?_)
   ·have hbr := hf.gr k j (by omega) c1 hj0 c3
    have hrgb : f.rg k (f.ge k j) < f.gl k := by
     have := rk_of (n := f.gl k) (hf.gd k (by omega) c1) hj0 c3 (rfl : f.ge k j = f.ge k j)
     show rk (f.ge k) (f.gl k) (f.ge k j) < f.gl k
     omega
    refine run_skip <| run_seq <| run_block <| run_seq <| run_region <| rl_v rfl rfl rfl (ov_index1 rfl Tryz.underlying23 (by kernel_rfl) rfl rfl ⟨by omega, by omega⟩ (by exact (hra k (by omega) c1 hgp))) ?_
    refine rl_v rfl rfl rfl (ov_load rfl Tryz.underlying3 rfl rfl (by exact hel _ hO.below k (by omega) c1 j hj0 c3)) ?_
    refine rl_v rfl rfl rfl (ov_assign rfl rfl) <| rl_nil <| run_seq <| run_class (Cl5 w.heap.size w (c :: some (vch ob 23 f.n (upd rf (k : Int) v)) :: some (vch o2 3 f.n (fun g => iv (l2 g))) :: some (vch o1 3 f.n (fun g => iv (l1 g))) :: T)) (⟨hO.drew⟩) mixed (by kernel_rfl) ?_
    refine rk_v rfl rfl rfl (fun wq hQ => ov_move rfl rfl) ?_
    refine rk_v rfl rfl rfl (fun wq hQ => ov_move rfl rfl) ?_
    refine rk_v rfl rfl rfl (fun wq hQ => ov_move rfl rfl) ?_
    refine rk_call callable_79 rfl rfl rfl rfl rfl rfl (fun wq hQ => (knows_any tb f _ k (f.ge k j) hf ((hQ.own).pt hpt) (by omega) c1 hbr.1 hbr.2).mono fun _ _ h => ⟨h.1, ⟨(hQ.own).past h.2⟩⟩) ?_
    refine rk_v rfl rfl rfl (fun wq hQ => ov_move rfl rfl) ?_
    first | refine rk_split_dec 51 rfl (fun g1 => ?_) (fun g1 => ?_) | refine rk_split 51 rfl (fun g1 => ?_) (fun g1 => ?_)
    ·refine rk_gv rfl rfl rfl rfl rfl (fun wq hQ => ov_move rfl rfl) ?_
     refine rk_gv rfl rfl rfl rfl rfl (fun wq hQ => ov_move rfl rfl) ?_
     refine rk_gv rfl rfl rfl rfl rfl (fun wq hQ => ov_move rfl rfl) ?_
     refine rk_gcall callable_82 rfl rfl rfl rfl rfl rfl rfl rfl (fun wq hQ => (likes_any tb f _ k (f.ge k j) hf ((hQ.own).pt hpt) (by omega) c1 (.inr hrgb)).mono fun _ _ h => ⟨h.1, ⟨(hQ.own).past h.2⟩⟩) ?_
     refine rk_gv rfl rfl rfl rfl rfl (fun wq hQ => ov_move rfl rfl) ?_
     refine rk_gv rfl rfl rfl rfl rfl (fun wq hQ => ov_move rfl rfl) ?_
     refine rk_gv rfl rfl rfl rfl rfl (fun wq hQ => ov_move rfl rfl) ?_
     refine rk_gv rfl rfl rfl rfl rfl (fun wq hQ => ov_move rfl rfl) ?_
     refine rk_gv rfl rfl rfl rfl rfl (fun wq hQ => ov_index1 rfl Tryz.underlying23 (by kernel_rfl) rfl rfl ⟨by omega, by omega⟩ (by rfl)) ?_
     refine rk_gv rfl rfl rfl rfl rfl (fun wq hQ => ov_load rfl Tryz.underlying3 rfl rfl (by exact (hQ.own).cellI 3 rfl k (by omega) c1)) ?_
     refine rk_gcall callable_82 rfl rfl rfl rfl rfl rfl rfl rfl (fun wq hQ => (likes_any tb f _ k (l1 k) hf ((hQ.own).pt hpt) (by omega) c1 (.inr hgk1)).mono fun _ _ h => ⟨h.1, ⟨(hQ.own).past h.2⟩⟩) ?_
     refine rk_gv rfl rfl rfl rfl rfl (fun wq hQ => ov_geq rfl rfl rfl) ?_
     refine rk_v rfl rfl rfl (fun wq hQ => ov_pick_t rfl rfl rfl) ?_
     refine rk_v rfl rfl rfl (fun wq hQ => ov_move rfl rfl) ?_
     first | refine rk_split_dec 65 rfl (fun g2 => ?_) (fun g2 => ?_) | refine rk_split 65 rfl (fun g2 => ?_) (fun g2 => ?_)
     ·refine rk_gv rfl rfl rfl rfl rfl (fun wq hQ => ov_move rfl rfl) ?_
      refine rk_gv rfl rfl rfl rfl rfl (fun wq hQ => ov_move rfl rfl) ?_
      refine rk_gv rfl rfl rfl rfl rfl (fun wq hQ => ov_move rfl rfl) ?_
      refine rk_gcall callable_82 rfl rfl rfl rfl rfl rfl rfl rfl (fun wq hQ => (likes_any tb f _ k (f.ge k j) hf ((hQ.own).pt hpt) (by omega) c1 (.inr hrgb)).mono fun _ _ h => ⟨h.1, ⟨(hQ.own).past h.2⟩⟩) ?_
      refine rk_gv rfl rfl rfl rfl rfl (fun wq hQ => ov_move rfl rfl) ?_
      refine rk_gv rfl rfl rfl rfl rfl (fun wq hQ => ov_move rfl rfl) ?_
      refine rk_gv rfl rfl rfl rfl rfl (fun wq hQ => ov_move rfl rfl) ?_
      refine rk_gv rfl rfl rfl rfl rfl (fun wq hQ => ov_move rfl rfl) ?_
      refine rk_gv rfl rfl rfl rfl rfl (fun wq hQ => ov_index1 rfl Tryz.underlying23 (by kernel_rfl) rfl rfl ⟨by omega, by omega⟩ (by rfl)) ?_
      refine rk_gv rfl rfl rfl rfl rfl (fun wq hQ => ov_load rfl Tryz.underlying3 rfl rfl (by exact (hQ.own).cellI 2 rfl k (by omega) c1)) ?_
      refine rk_gcall callable_82 rfl rfl rfl rfl rfl rfl rfl rfl (fun wq hQ => (likes_any tb f _ k (l2 k) hf ((hQ.own).pt hpt) (by omega) c1 hk2).mono fun _ _ h => ⟨h.1, ⟨(hQ.own).past h.2⟩⟩) ?_
      refine rk_gv rfl rfl rfl rfl rfl (fun wq hQ => ov_leq rfl rfl rfl) ?_
      refine rk_v rfl rfl rfl (fun wq hQ => ov_pick_t rfl rfl rfl) ?_
      refine rk_nil (fun w39 hQ => ?_)
      first | refine run_cond_dec rfl (fun c4 => ?_) (fun c4 => ?_) | refine run_cond rfl (fun c4 => ?_) (fun c4 => ?_)
      ·rw [if_neg (show ¬ f.ge k j < 0 by omega), if_neg (show ¬ l1 k < 0 by omega)] at g2
       rw [if_neg (show ¬ f.ge k j < 0 by omega)] at c4
       have hopt : Opt f l1 l2 k (f.ge k j) := .inr ⟨hb0, hbr, g1, g2, c4⟩
       refine run_region <| rl_v rfl rfl rfl (ov_move rfl rfl) <| rl_v rfl rfl rfl (ov_move rfl rfl) <| rl_v rfl rfl rfl (ov_move rfl rfl) <| rl_v rfl rfl rfl (ov_move rfl rfl) <| rl_v rfl rfl rfl (ov_index1 rfl Tryz.underlying22 (by kernel_rfl) rfl rfl ⟨by omega, by omega⟩ (by rfl)) ?_
       refine rl_v rfl rfl rfl (ov_load rfl Tryz.underlying23 rfl rfl (by exact ((hQ.own).cellI 1 rfl k (by omega) c1).trans (congrArg some (upd_same _ _ _)))) ?_
       refine rl_v rfl rfl rfl (ov_move rfl rfl) ?_
       refine rl_appI rfl rfl rfl rfl rfl rfl rfl rfl Tryz.underlying23 info_3 rfl (hQ.own) 0 hr rfl rfl rfl ⟨by omega, by omega⟩ (fun v5 c5 w40 hO41 hr5 hs42 => ?_)
       obtain ⟨a5, cp5, rfl⟩ := Row.val hr5
       refine rl_v rfl rfl rfl (ov_index1 rfl Tryz.underlying22 (by kernel_rfl) rfl rfl ⟨by omega, by omega⟩ (by rfl)) ?_
       refine rl_ow rfl (ow_store rfl rfl (by kernel_rfl) hO41 1 rfl rfl ⟨by omega, by omega⟩ rfl rfl) ?_
       rintro _ w43 ⟨rfl, hO44, hs45⟩
       refine rl_nil <| run_inBlock <| run_region <| rl_v rfl rfl rfl (ov_add rfl rfl rfl (by omega)) ?_
       refine rl_v rfl rfl rfl (ov_move rfl rfl) <| rl_nil ?_
       refine Run.use (ih21 (j + 1) _ ?_ ?_) (And.intro (by exact slot_int rfl (by first | omega)) (And.intro rfl (And.intro rfl (And.intro rfl (And.intro rfl (And.intro rfl (And.intro rfl (And.intro rfl (And.intro rfl (And.intro rfl trivial))))))))))
       ·first | omega | (dsimp only; omega)
       ·exact ⟨by omega, by omega, q + 1, .slice a5 (q + 1) cp5, c5, upd Y q (f.ge k j), by omega, hr5.congr (fun i _ _ => by unfold upd; split <;> rfl), hJ.take hf (by omega) c1 hj0 c3 hopt, hO44.congrI 1 rfl fun r r0 r1 => by unfold upd; split <;> rfl⟩
      ·rw [if_neg (show ¬ f.ge k j < 0 by omega)] at c4
       have hopt : ¬ Opt f l1 l2 k (f.ge k j) := fun ho => by
        rcases ho with ⟨h1, _⟩ | ⟨_, _, _, _, h5⟩
        ·omega
        ·exact c4 h5
       refine run_skip <| run_inBlock <| run_region <| rl_v rfl rfl rfl (ov_add rfl rfl rfl (by omega)) ?_
       refine rl_v rfl rfl rfl (ov_move rfl rfl) <| rl_nil ?_
       refine Run.use (ih21 (j + 1) _ ?_ ?_) (And.intro (by exact slot_int rfl (by first | omega)) (And.intro rfl (And.intro rfl (And.intro rfl (And.intro rfl (And.intro rfl (And.intro rfl (And.intro rfl (And.intro rfl (And.intro rfl trivial))))))))))
       ·first | omega | (dsimp only; omega)
       ·exact ⟨by omega, by omega, q, v, c, Y, by omega, hr, hJ.skip hj0 hopt, (hQ.own)⟩
     ·rw [if_neg (show ¬ f.ge k j < 0 by omega), if_neg (show ¬ l1 k < 0 by omega)] at g2
      have hopt : ¬ Opt f l1 l2 k (f.ge k j) := fun ho => by
       rcases ho with ⟨h1, _⟩ | ⟨_, _, _, h4, _⟩
       ·omega
       ·exact g2 h4
      refine rk_gskip rfl rfl rfl rfl rfl rfl <| rk_gskip rfl rfl rfl rfl rfl rfl <| rk_gskip rfl rfl rfl rfl rfl rfl <| rk_gskip rfl rfl rfl rfl rfl rfl <| rk_gskip rfl rfl rfl rfl rfl rfl <| rk_gskip rfl rfl rfl rfl rfl rfl <| rk_gskip rfl rfl rfl rfl rfl rfl <| rk_gskip rfl rfl rfl rfl rfl rfl <| rk_gskip rfl rfl rfl rfl rfl rfl <| rk_gskip rfl rfl rfl rfl rfl rfl <| rk_gskip rfl rfl rfl rfl rfl rfl <| rk_gskip rfl rfl rfl rfl rfl rfl <| rk_v rfl rfl rfl (fun wq hQ => ov_pick_f rfl rfl rfl) ?_
      refine rk_nil (fun w46 hQ => ?_)
      refine run_cond_f rfl <| run_skip <| run_inBlock <| run_region <| rl_v rfl rfl rfl (ov_add rfl rfl rfl (by omega)) ?_
      refine rl_v rfl rfl rfl (ov_move rfl rfl) <| rl_nil ?_
      refine Run.use (ih21 (j + 1) _ ?_ ?_) (And.intro (by exact slot_int rfl (by first | omega)) (And.intro rfl (And.intro rfl (And.intro rfl (And.intro rfl (And.intro rfl (And.intro rfl (And.intro rfl (And.intro rfl (And.intro rfl trivial))))))))))
      ·first | omega | (dsimp only; omega)
      ·exact ⟨by omega, by omega, q, v, c, Y, by omega, hr, hJ.skip hj0 hopt, (hQ.own)⟩
    ·have hopt : ¬ Opt f l1 l2 k (f.ge k j) := fun ho => by
      rcases ho with ⟨h1, _⟩ | ⟨_, _, h3, _⟩
      ·omega
      ·exact g1 h3
     refine rk_gskip rfl rfl rfl rfl rfl rfl <| rk_gskip rfl rfl rfl rfl rfl rfl <| rk_gskip rfl rfl rfl rfl rfl rfl <| rk_gskip rfl rfl rfl rfl rfl rfl <| rk_gskip rfl rfl rfl rfl rfl rfl <| rk_gskip rfl rfl rfl rfl rfl rfl <| rk_gskip rfl rfl rfl rfl rfl rfl <| rk_gskip rfl rfl rfl rfl rfl rfl <| rk_gskip rfl rfl rfl rfl rfl rfl <| rk_gskip rfl rfl rfl rfl rfl rfl <| rk_gskip rfl rfl rfl rfl rfl rfl <| rk_gskip rfl rfl rfl rfl rfl rfl <| rk_v rfl rfl rfl (fun wq hQ => ov_pick_f rfl rfl rfl) ?_
     refine rk_v rfl rfl rfl (fun wq hQ => ov_move rfl rfl) ?_
     refine rk_gskip rfl rfl rfl rfl rfl rfl <| rk_gskip rfl rfl rfl rfl rfl rfl <| rk_gskip rfl rfl rfl rfl rfl rfl <| rk_gskip rfl rfl rfl rfl rfl rfl <| rk_gskip rfl rfl rfl rfl rfl rfl <| rk_gskip rfl rfl rfl rfl rfl rfl <| rk_gskip rfl rfl rfl rfl rfl rfl <| rk_gskip rfl rfl rfl rfl rfl rfl <| rk_gskip rfl rfl rfl rfl rfl rfl <| rk_gskip rfl rfl rfl rfl rfl rfl <| rk_gskip rfl rfl rfl rfl rfl rfl <| rk_gskip rfl rfl rfl rfl rfl rfl <| rk_v rfl rfl rfl (fun wq hQ => ov_pick_f rfl rfl rfl) ?_
     refine rk_nil (fun w47 hQ => ?_)
     refine run_cond_f rfl <| run_skip <| run_inBlock <| run_region <| rl_v rfl rfl rfl (ov_add rfl rfl rfl (by omega)) ?_
     refine rl_v rfl rfl rfl (ov_move rfl rfl) <| rl_nil ?_
     refine Run.use (ih21 (j + 1) _ ?_ ?_) (And.intro (by exact slot_int rfl (by first | omega)) (And.intro rfl (And.intro rfl (And.intro rfl (And.intro rfl (And.intro rfl (And.intro rfl (And.intro rfl (And.intro rfl (And.intro rfl trivial))))))))))
     ·first | omega | (dsimp only; omega)
     ·exact ⟨by omega, by omega, q, v, c, Y, by omega, hr, hJ.skip hj0 hopt, (hQ.own)⟩
   ·have hjg : j = f.gl k := by omega
    have hix : ∀ b : Int, f.rg k b < f.gl k → ∃ i : Int, (0 ≤ i ∧ i < j) ∧ f.ge k i = b := fun b hb => ⟨f.rg k b, ⟨(rk_rng (f.ge k) b (f.gl k)).1, by omega⟩, rk_at hb⟩
    have hq1 : 1 ≤ q := by
     obtain ⟨i, hi, _⟩ := (hJ.mem (l1 k)).2 ⟨hix _ hgk1, opt_best hf hB hA (by omega) c1 hb0 (by omega)⟩
     omega
    obtain ⟨a3, cp3, rfl⟩ := Row.val hr
    obtain ⟨rb, G, rfl, hnc, hmx, rfl, hG⟩ := hr.asV hq1
    refine run_exit rfl <| run_region <| rl_v rfl rfl rfl (ov_move rfl rfl) <| rl_v rfl rfl rfl (ov_move rfl rfl) <| rl_v rfl rfl rfl (ov_index1 rfl Tryz.underlying22 (by kernel_rfl) rfl rfl ⟨by omega, by omega⟩ (by rfl)) ?_
    refine rl_v rfl rfl rfl (ov_load rfl Tryz.underlying23 rfl rfl (by exact (hO.cellI 1 rfl k (by omega) c1).trans (congrArg some (upd_same _ _ _)))) ?_
    refine rl_call callable_97 rfl rfl rfl rfl rfl rfl (sort5_any rb cp3 q w.heap.size G Y w _ _ ⟨hq1, by omega⟩ hnc ⟨hG, hJ.inj, fun v => Iff.rfl⟩ hO) (fun e48 w49 hp50 => ?_)
    obtain ⟨rfl, G2, Y2, hO2, hS2, hs2⟩ := hp50
    refine ⟨_, rfl, ?_⟩
    have hOp := hO2.perm p3x
    have hrd : RdR (some (vch rb 3 cp3 G2) :: T) (.slice (some ⟨rb, 0, none⟩) q cp3) q Y2 := ⟨_, _, rfl, hnc, fun B w0 ww hO => ((hO.readsI 0 rfl).take hnc).congr fun i i0 i1 => hS2.g i i0 i1⟩
    have hopt : OptR f l1 l2 k q Y2 := ⟨hs2, fun v => (hS2.same v).trans ((hJ.mem v).trans ⟨And.right, fun ho => ⟨by rcases ho with ⟨h1, _⟩ | ⟨_, _, h3, _⟩; omega; exact hix v h3.1, ho⟩⟩)⟩
    refine rl_nil <| run_inBlock <| run_region <| rl_v rfl rfl rfl (ov_add rfl rfl rfl (by omega)) ?_
    refine rl_v rfl rfl rfl (ov_move rfl rfl) <| rl_nil ?_
    refine Run.use (ih13 (k + 1) _ ?_ ?_) (And.intro (by exact slot_int rfl (by first | omega)) (And.intro rfl (And.intro rfl (And.intro rfl (And.intro rfl (And.intro rfl trivial))))))
    ·first | omega | (dsimp only; omega)
    ·exact ⟨by omega, _, _, _, _, hz2 _, hst (fun v n X h => h.cons _) hrd hopt, hOp⟩
 ·have hkn : k = f.n := by omega
  refine run_exit rfl <| run_seq <| run_region <| rl_v rfl rfl rfl (ov_move rfl rfl) <| rl_v rfl rfl rfl (ov_assign rfl rfl) <| rl_nil <| run_ret Tryz.func73 (res1 Tryz.results73 rfl) ?_
  exact ⟨ob, rf, N, X, T, l1, l2, nb, rfl, hO.sub (.cons_cons _ (.cons _ (.cons _ (.refl _)))), hB, hA, hDn, fun g g0 g1 => hR g g0 (by omega)⟩
end Go.Proofs.YtlldeifbfpmbaaaGreat
