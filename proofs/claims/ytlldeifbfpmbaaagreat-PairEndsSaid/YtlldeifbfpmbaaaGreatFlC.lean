import Derived.Test.YtlldeifbfpmbaaaGreatTb9
import Derived.Test.YtlldeifbfpmbaaaGreatFoI
import Derived.Test.YtlldeifbfpmbaaaGreatFgB
set_option maxRecDepth 100000
namespace Go.Proofs.YtlldeifbfpmbaaaGreat
open Go.RowKit Go.Proofs Go.MapKept
set_option maxHeartbeats 4000000 in
theorem refAll_any (ga ba qa : Option Addr) (gc bc qc : Nat) (f : Fair) (w : World) (hV : Valid5 f f.m) (hn4 : f.n ≤ 4) (hm4 : f.m ≤ 4) (hF : FAg w.heap.size w ga ba qa f f.m) :
  Calls Tryz.prog 16 #[.agg #[.slice ga f.n gc, .slice ba f.m bc, .slice qa f.m qc]] w fun e w' => ∃ (va : Option Addr) (vc N : Nat) (A : Nat → Int → Int) (H : List (Option Blk)), e = .returned (.slice va N vc) ∧ N ≤ 1000 ∧ OTab (.slice va N vc) 23 3 N (fun _ => f.n) (fun r k => iv (A r.toNat k)) H ∧ Own w.heap.size w w' H ∧ f.AllS N A := by
 refine calls_of_run (F := [(0, _)]) Tryz.func16 rfl Tryz.ntmps16 rfl rfl ?_
 have hO0 := Own.init w
 refine run_seq <| run_region <| rl_ow rfl (ow_box _ rfl rfl rfl rfl rfl hO0) ?_
 rintro _ w1 ⟨b1, rfl, hO2, hs3⟩
 refine rl_v rfl rfl rfl (ov_assign rfl rfl) <| rl_nil <| run_seq <| run_quiet mixed (by kernel_rfl) ?_
 refine rq_v rfl rfl rfl (fun _ => ov_fieldS rfl Tryz.underlying25 rfl (fo := 0) rfl (by kernel_rfl) rfl) ?_
 refine rq_v rfl rfl rfl (fun _ => ov_load rfl Tryz.underlying22 rfl rfl (by show World.cell? w1 _ = _; first | exact hO2.cellL 0 rfl (off := 0) rfl)) ?_
 refine rq_v rfl rfl rfl (fun _ => ov_len rfl Tryz.underlying22 rfl) ?_
 refine rq_v rfl rfl rfl (fun _ => ov_fieldS rfl Tryz.underlying25 rfl (fo := 1) rfl (by kernel_rfl) rfl) ?_
 refine rq_v rfl rfl rfl (fun _ => ov_load rfl Tryz.underlying22 rfl rfl (by show World.cell? w1 _ = _; first | exact hO2.cellL 0 rfl (off := 1) rfl)) ?_
 refine rq_v rfl rfl rfl (fun _ => ov_len rfl Tryz.underlying22 rfl) ?_
 refine rq_v rfl rfl rfl (fun _ => ov_assign rfl rfl) ?_
 refine rq_v rfl rfl rfl (fun _ => ov_assign rfl rfl) ?_
 refine rq_nil (fun n4 => ?_)
 have hO6 := hO2.drewN n4
 generalize World.drewN w1 n4 = w5 at hO6 ⊢
 refine run_seq <| run_region <| rl_v rfl rfl rfl (ov_assign rfl rfl) <| rl_nil <| run_seq <| run_region <| rl_v rfl rfl rfl (ov_move rfl rfl) ?_
 refine rl_make (f.n) rfl rfl rfl rfl Tryz.underlying23 info_3 rfl hO6 rfl rfl (by rfl) (by rfl) ⟨by omega, by omega⟩ (fun lb w7 hO8 hs9 => ?_)
 refine rl_v rfl rfl rfl (ov_assign rfl rfl) <| rl_nil <| run_seq <| run_seq <| run_region <| rl_v rfl rfl rfl (ov_assign rfl rfl) <| rl_nil <| run_block <| Run.keep [1, 3, 4, 5, 6, 7] (F' := [(1, _), (3, _), (4, _), (5, _), (6, _), (7, _)]) rfl <| run_loop2 (fun (i : Int) (l : Int → Int) => [(7, .int .i64 i)]) [1, 3, 4, 5, 6] (fun (i : Int) (l : Int → Int) (w10 : World) => 0 ≤ i ∧ i ≤ f.n ∧ (∀ j : Int, 0 ≤ j → j < i → l j = -1) ∧ Own w.heap.size w w10 [some (vch lb 3 f.n (fun i => iv (l i))), some (lch b1 25 [.slice ga f.n gc, .slice ba f.m bc, .slice qa f.m qc])]) (fun (i : Int) (l : Int → Int) => ((f.n : Int) - i).toNat) (0) (fun _ => 0) ?_ (And.intro (by exact slot_int rfl (by first | omega)) (And.intro rfl (And.intro rfl (And.intro rfl (And.intro rfl (And.intro rfl trivial)))))) ?_
 ·exact ⟨by omega, by omega, fun j j0 j1 => by omega, hO8⟩
 intro i l w10 hIw10 ih11
 obtain ⟨hi0, hi1, hl, hO⟩ := hIw10
 show Run _ _ _ _ [(7, _), (1, _), (3, _), (4, _), (5, _), (6, _)] _ _
 refine run_seq <| run_seq <| run_region <| rl_v rfl rfl rfl (ov_move rfl rfl) <| rl_v rfl rfl rfl (ov_move rfl rfl) <| rl_v rfl rfl rfl (ov_lss rfl rfl rfl) <| rl_nil ?_
 first | refine run_cond_dec rfl (fun h1 => ?_) (fun h1 => ?_) | refine run_cond rfl (fun h1 => ?_) (fun h1 => ?_)
 ·refine run_skip <| run_seq <| run_block <| run_region <| rl_v rfl rfl rfl (ov_move rfl rfl) <| rl_v rfl rfl rfl (ov_move rfl rfl) <| rl_v rfl rfl rfl (ov_index1 rfl Tryz.underlying23 (by kernel_rfl) rfl rfl ⟨by omega, by omega⟩ rfl) ?_
  refine rl_ow rfl (ow_storeI rfl rfl (by kernel_rfl) hO 0 rfl rfl ⟨by omega, by omega⟩ rfl) ?_
  rintro _ w12 ⟨rfl, hO13, hs14⟩
  refine rl_nil <| run_inBlock <| run_region <| rl_v rfl rfl rfl (ov_move rfl rfl) <| rl_v rfl rfl rfl (ov_add rfl rfl rfl (by omega)) ?_
  refine rl_v rfl rfl rfl (ov_assign rfl rfl) <| rl_nil ?_
  refine Run.use (ih11 (i + 1) (upd l i (-1)) _ ?_ ?_) (And.intro (by exact slot_int rfl (by first | omega)) (And.intro rfl (And.intro rfl (And.intro rfl (And.intro rfl (And.intro rfl trivial))))))
  ·first | omega | (dsimp only; omega)
  ·exact ⟨by omega, by omega, fun j j0 j1 => by by_cases e : j = i; (rw [e, upd_same]); (rw [upd_ne _ _ e]; exact hl j j0 (by omega)), hO13⟩
 ·have hdig0 : Dig f.m f.n l := fun j j0 j1 => by have := hl j j0 (by omega); omega
  have hval0 : ∀ k : Nat, k ≤ f.n → val f.m l k = 0 := fun k => by
   induction k with
   | zero => intro _; rfl
   | succ k ih =>
    intro hk
    show val f.m l k * (f.m + 1) + (l k + 1).toNat = 0
    rw [ih (by omega), hl k (by omega) (by omega)]
    simp
  have hOa := hO.nil_cons.perm (List.perm_append_comm (l₁ := [none]))
  refine run_exit rfl <| run_block <| Run.keep [1, 3, 4, 5, 6] (F' := [(1, _), (3, _), (4, _), (5, _), (6, _)]) rfl <| run_loop4 (fun (N : Nat) (l : Int → Int) (va : Option Addr) (vc : Nat) => [(5, .slice va N vc)]) [1, 3, 4, 6] (fun (N : Nat) (l : Int → Int) (va : Option Addr) (vc : Nat) (w15 : World) => Dig f.m f.n l ∧ ∃ (A : Nat → Int → Int) (H : List (Option Blk)), OTab (.slice va N vc) 23 3 N (fun _ => f.n) (fun r k => iv (A r.toNat k)) H ∧ f.AllTo N A (val f.m l f.n) ∧ Own w.heap.size w w15 (some (vch lb 3 f.n (fun i => iv (l i))) :: some (lch b1 25 [.slice ga f.n gc, .slice ba f.m bc, .slice qa f.m qc]) :: H)) (fun (N : Nat) (l : Int → Int) (va : Option Addr) (vc : Nat) => 5 ^ f.n - val f.m l f.n) (0) (l) (none) (0) ?_ (And.intro rfl (And.intro rfl (And.intro rfl (And.intro rfl (And.intro rfl trivial))))) ?_
  ·exact ⟨hdig0, fun _ _ => 0, [none], OTab.nil _ _ _ _, by rw [hval0 f.n (Nat.le_refl _)]; exact Fair.AllTo.init f _, hOa⟩
  intro N l va vc w15 hIw15 ih16
  obtain ⟨hdig, A, H, hTb, hAT, hO⟩ := hIw15
  show Run _ _ _ _ [(5, _), (1, _), (3, _), (4, _), (6, _)] _ _
  have hpow := val_pow (K := 5) (by omega) hdig
  have hp4 : 5 ^ f.n ≤ 5 ^ 4 := Nat.pow_le_pow_right (by decide) hn4
  have hp625 : (5 : Nat) ^ 4 = 625 := by decide
  have hNl := hAT.len
  refine run_block <| run_seq <| run_seq <| run_region <| rl_v rfl rfl rfl (ov_loadW rfl Tryz.underlying25 rfl (by kernel_rfl) rfl hO 1 rfl) ?_
  refine rl_v rfl rfl rfl (ov_move rfl rfl) ?_
  refine rl_call callable_13 rfl rfl rfl rfl rfl rfl (refStable_any ga ba qa (some ⟨lb, 0, none⟩) gc bc qc f.n f.n f l _ hV (hO.fag hF) (by omega) (hO.readsI 0 rfl)) (fun e17 w18 hp19 => ?_)
  obtain ⟨⟨r, rfl, hr⟩, hb1⟩ := hp19
  refine ⟨_, rfl, ?_⟩
  have hO20 := hO.past hb1
  refine rl_nil <| Run.keep [1, 3, 4, 5, 6, 28] (F' := [(1, _), (3, _), (4, _), (5, _), (6, _), (28, _)]) rfl <| run_join3 (fun (N2 : Nat) (va2 : Option Addr) (vc2 : Nat) => [(5, .slice va2 N2 vc2)]) [1, 3, 4, 6] (fun (N2 : Nat) (va2 : Option Addr) (vc2 : Nat) (w21 : World) => ∃ (A2 : Nat → Int → Int) (H2 : List (Option Blk)), OTab (.slice va2 N2 vc2) 23 3 N2 (fun _ => f.n) (fun r k => iv (A2 r.toNat k)) H2 ∧ f.AllTo N2 A2 (val f.m l f.n + 1) ∧ Own w.heap.size w w21 (some (vch lb 3 f.n (fun i => iv (l i))) :: some (lch b1 25 [.slice ga f.n gc, .slice ba f.m bc, .slice qa f.m qc]) :: H2)) (fun hk22 => ?_) ?_
  ·first | refine run_cond_dec rfl (fun h2 => ?_) (fun h2 => ?_) | refine run_cond rfl (fun h2 => ?_) (fun h2 => ?_)
   ·have hst := (hr.1 h2).2
    have hOn := hO20.nil_cons
    refine run_seq <| run_region <| rl_v rfl rfl rfl (ov_assign rfl rfl) <| rl_nil <| run_seq <| run_region <| rl_v rfl rfl rfl (ov_move rfl rfl) <| rl_v rfl rfl rfl (ov_move rfl rfl) <| rl_ow rfl (ow_appS rfl rfl rfl Tryz.underlying23 info_3 rfl hOn 0 (IRow.nil 3 (fun _ => iv 0)) rfl rfl rfl ((hOn.readsI 1 rfl)) (fun _ => rfl) ⟨by omega, by omega⟩) ?_
    rintro _ w23 ⟨v31, c31, rfl, hO24, hr31, hs25⟩
    obtain ⟨a31, cp31, rfl⟩ := Row.val hr31
    obtain ⟨co, rv, ch, rfl, hv, h3t⟩ := hTb
    refine rl_v rfl rfl rfl (ov_assign rfl rfl) <| rl_nil <| run_region <| rl_v rfl rfl rfl (ov_move rfl rfl) <| rl_v rfl rfl rfl (ov_move rfl rfl) ?_
    refine rl_appV rfl rfl rfl rfl rfl rfl rfl rfl Tryz.underlying22 info_23 rfl hO24 3 hv rfl rfl rfl rfl ⟨by omega, by omega⟩ (fun v35 c35 w26 hO27 hv35 hs28 => ?_)
    obtain ⟨a35, cp35, rfl⟩ := Row.val hv35
    have hO5 : Own w.heap.size w w26 (c31 :: c35 :: ((List.range N).map ch ++ [some (vch lb 3 f.n (fun i => iv (l i))), some (lch b1 25 [.slice ga f.n gc, .slice ba f.m bc, .slice qa f.m qc])])) := hO27.perm (.cons _ (List.perm_append_comm (l₁ := [some (vch lb 3 f.n (fun i => iv (l i))), some (lch b1 25 [.slice ga f.n gc, .slice ba f.m bc, .slice qa f.m qc])]) (l₂ := c35 :: (List.range N).map ch)))
    obtain ⟨H', hT', hO8⟩ := OTab.snoc (L := fun _ => f.n) (F := fun r k => iv ((fun j => if j = N then l else A j) r.toNat k)) (rv := rv) (ch := ch) (fun r hr => by
     have e2 : (if ((r : Int).toNat) = N then l else A ((r : Int).toNat)) = A r := if_neg (by omega)
     simp only [e2]
     exact h3t r hr) hr31 hv35 hO5 (by omega) (fun j j0 j1 => by
      have e2 : (if (((N : Int)).toNat) = N then l else A (((N : Int)).toNat)) = l := if_pos (by omega)
      simp only [e2]
      unfold joinF
      rw [if_neg (by omega)]
      exact congrArg (fun k => iv (l k)) (by omega))
    refine rl_v rfl rfl rfl (ov_assign rfl rfl) <| rl_nil ?_
    refine Run.use (hk22 (N + 1) (a35) (cp35) _ ?_) (And.intro rfl (And.intro rfl (And.intro rfl (And.intro rfl (And.intro rfl trivial)))))
    exact ⟨fun j => if j = N then l else A j, H', hT', hAT.take hst (fun j hj => if_neg (by omega)) (if_pos rfl), hO8.perm List.perm_append_comm⟩
   ·have hst : ¬ f.Stab l := fun h => by rw [hr.2 ⟨rfl, h⟩] at h2; exact Bool.noConfusion h2
    refine run_skip ?_
    refine Run.use (hk22 (N) (va) (vc) _ ?_) (And.intro rfl (And.intro rfl (And.intro rfl (And.intro rfl (And.intro rfl trivial)))))
    exact ⟨A, H, hTb, hAT.skip hdig hst (fun s hs e => hs.congr fun g g0 g1 => (e g g0 g1).symm), hO20⟩
  ·intro N2 va2 vc2 w21 hJw21
   obtain ⟨A2, H2, hTb2, hAT2, hO2⟩ := hJw21
   show Run _ _ _ _ [(5, _), (1, _), (3, _), (4, _), (6, _)] _ _
   refine run_seq <| run_region <| rl_v rfl rfl rfl (ov_move rfl rfl) <| rl_v rfl rfl rfl (ov_sub rfl rfl rfl (by omega)) ?_
   refine rl_v rfl rfl rfl (ov_assign rfl rfl) <| rl_nil <| run_seq <| run_block <| Run.keep [1, 3, 4, 5, 6, 9] (F' := [(1, _), (3, _), (4, _), (5, _), (6, _), (9, _)]) rfl <| run_loop2 (fun (i : Int) (l2 : Int → Int) => [(9, .int .i64 i)]) [1, 3, 4, 5, 6] (fun (i : Int) (l2 : Int → Int) (w29 : World) => -1 ≤ i ∧ i < f.n ∧ (∀ j : Int, i < j → j < f.n → l j = f.m - 1 ∧ l2 j = -1) ∧ (∀ j : Int, 0 ≤ j → j ≤ i → l2 j = l j) ∧ Own w.heap.size w w29 (some (vch lb 3 f.n (fun i => iv (l2 i))) :: some (lch b1 25 [.slice ga f.n gc, .slice ba f.m bc, .slice qa f.m qc]) :: H2)) (fun (i : Int) (l2 : Int → Int) => (i + 1).toNat) ((f.n : Int) - 1) (l) ?_ (And.intro (by exact slot_int rfl (by first | omega)) (And.intro rfl (And.intro rfl (And.intro rfl (And.intro rfl (And.intro rfl trivial)))))) ?_
   ·exact ⟨by omega, by omega, fun j j0 j1 => by omega, fun j _ _ => rfl, hO2⟩
   intro i l2 w29 hIw29 ih30
   obtain ⟨hi0, hi1, hbe, hbl, hO3⟩ := hIw29
   show Run _ _ _ _ [(9, _), (1, _), (3, _), (4, _), (5, _), (6, _)] _ _
   refine run_seq <| run_seq <| run_region <| rl_v rfl rfl rfl (ov_move rfl rfl) <| rl_v rfl rfl rfl (ov_geq rfl rfl rfl) <| rl_v rfl rfl rfl (ov_move rfl rfl) ?_
   first | refine rl_split_dec 40 rfl (fun g1 => ?_) (fun g1 => ?_) | refine rl_split 40 rfl (fun g1 => ?_) (fun g1 => ?_)
   ·refine rl_gv rfl rfl rfl rfl rfl (ov_move rfl rfl) <| rl_gv rfl rfl rfl rfl rfl (ov_move rfl rfl) <| rl_gv rfl rfl rfl rfl rfl (ov_index1 rfl Tryz.underlying23 (by kernel_rfl) rfl rfl ⟨by omega, by omega⟩ rfl) ?_
    refine rl_gv rfl rfl rfl rfl rfl (ov_load rfl Tryz.underlying3 rfl rfl (by exact hO3.cellI 0 rfl _ (by omega) (by omega))) ?_
    refine rl_gv rfl rfl rfl rfl rfl (ov_move rfl rfl) <| rl_gv rfl rfl rfl rfl rfl (ov_sub rfl rfl rfl (by omega)) ?_
    refine rl_gv rfl rfl rfl rfl rfl (ov_eql rfl rfl rfl) <| rl_v rfl rfl rfl (ov_pick_t rfl rfl rfl) <| rl_nil ?_
    first | refine run_cond_dec rfl (fun g2 => ?_) (fun g2 => ?_) | refine run_cond rfl (fun g2 => ?_) (fun g2 => ?_)
    ·have e2 := hbl i g1 (Int.le_refl _)
     refine run_skip <| run_block <| run_seq <| run_region <| rl_v rfl rfl rfl (ov_move rfl rfl) <| rl_v rfl rfl rfl (ov_move rfl rfl) <| rl_v rfl rfl rfl (ov_index1 rfl Tryz.underlying23 (by kernel_rfl) rfl rfl ⟨by omega, by omega⟩ rfl) ?_
     refine rl_ow rfl (ow_storeI rfl rfl (by kernel_rfl) hO3 0 rfl rfl ⟨by omega, by omega⟩ rfl) ?_
     rintro _ w32 ⟨rfl, hO33, hs34⟩
     refine rl_nil <| run_region <| rl_v rfl rfl rfl (ov_move rfl rfl) <| rl_v rfl rfl rfl (ov_sub rfl rfl rfl (by omega)) ?_
     refine rl_v rfl rfl rfl (ov_assign rfl rfl) <| rl_nil <| run_inBlock ?_
     refine Run.use (ih30 (i - 1) (upd l2 i (-1)) _ ?_ ?_) (And.intro (by exact slot_int rfl (by first | omega)) (And.intro rfl (And.intro rfl (And.intro rfl (And.intro rfl (And.intro rfl trivial))))))
     ·first | omega | (dsimp only; omega)
     ·exact ⟨by omega, by omega, fun j j0 j1 => by by_cases e : j = i; (rw [e, upd_same]; exact ⟨by omega, rfl⟩); (rw [upd_ne _ _ e]; exact hbe j (by omega) j1), fun j j0 j1 => by rw [upd_ne _ _ (by omega)]; exact hbl j j0 (by omega), hO33⟩
    ·refine run_exit rfl <| run_seq <| run_seq <| run_region <| rl_v rfl rfl rfl (ov_move rfl rfl) <| rl_v rfl rfl rfl (ov_lss rfl rfl rfl) <| rl_nil ?_
     first | refine run_cond_dec rfl (fun h5 => ?_) (fun h5 => ?_) | refine run_cond rfl (fun h5 => ?_) (fun h5 => ?_)
     ·exfalso; omega
     ·have hli := hdig i (by omega) hi1
      have e2 := hbl i (by omega) (Int.le_refl _)
      have hne : l i ≠ f.m - 1 := by omega
      have hnv := val_next (M := f.m) (l := l) (i := i) (by omega) hi1 hdig fun j j0 j1 => (hbe j j0 j1).1
      have hnd := dig_next hdig (by omega) hi1 hne
      have hnp := val_pow (K := 5) (by omega) hnd
      refine run_skip <| run_region <| rl_v rfl rfl rfl (ov_move rfl rfl) <| rl_v rfl rfl rfl (ov_move rfl rfl) <| rl_v rfl rfl rfl (ov_index1 rfl Tryz.underlying23 (by kernel_rfl) rfl rfl ⟨by omega, by omega⟩ rfl) ?_
      refine rl_v rfl rfl rfl (ov_load rfl Tryz.underlying3 rfl rfl (by exact hO3.cellI 0 rfl _ (by omega) (by omega))) ?_
      refine rl_v rfl rfl rfl (ov_add rfl rfl rfl (by omega)) ?_
      refine rl_v rfl rfl rfl (ov_index1 rfl Tryz.underlying23 (by kernel_rfl) rfl rfl ⟨by omega, by omega⟩ rfl) ?_
      refine rl_ow rfl (ow_storeI rfl rfl (by kernel_rfl) hO3 0 rfl rfl ⟨by omega, by omega⟩ rfl) ?_
      rintro _ w35 ⟨rfl, hO36, hs37⟩
      have hnl : ∀ j : Int, 0 ≤ j → j < f.n → upd l2 i (l2 i + 1) j = nextL l i j := fun j j0 j1 => by
       unfold nextL
       by_cases c : j = i
       ·rw [c, upd_same, if_neg (by omega), if_pos rfl, e2]
       ·rw [upd_ne _ _ c]
        by_cases d : i < j
        ·rw [if_pos d]; exact (hbe j d j1).2
        ·rw [if_neg d, if_neg c]; exact hbl j j0 (by omega)
      have hOz : Own w.heap.size w w35 (some (vch lb 3 f.n (fun j => iv (nextL l i j))) :: some (lch b1 25 [.slice ga f.n gc, .slice ba f.m bc, .slice qa f.m qc]) :: H2) := hO36.congrI 0 rfl fun j j0 j1 => congrArg iv (hnl j j0 j1)
      refine rl_nil <| run_inBlock ?_
      refine Run.use (ih16 (N2) (nextL l i) (va2) (vc2) _ ?_ ?_) (And.intro rfl (And.intro rfl (And.intro rfl (And.intro rfl (And.intro rfl trivial)))))
      ·first | omega | (dsimp only; omega)
      ·exact ⟨hnd, A2, H2, hTb2, by rw [hnv]; exact hAT2, hOz⟩
   ·refine rl_gskip rfl rfl rfl rfl rfl rfl <| rl_gskip rfl rfl rfl rfl rfl rfl <| rl_gskip rfl rfl rfl rfl rfl rfl <| rl_gskip rfl rfl rfl rfl rfl rfl <| rl_gskip rfl rfl rfl rfl rfl rfl <| rl_gskip rfl rfl rfl rfl rfl rfl <| rl_gskip rfl rfl rfl rfl rfl rfl <| rl_v rfl rfl rfl (ov_pick_f rfl rfl rfl) <| rl_nil <| run_cond_f rfl <| run_exit rfl <| run_seq <| run_seq <| run_region <| rl_v rfl rfl rfl (ov_move rfl rfl) <| rl_v rfl rfl rfl (ov_lss rfl rfl rfl) <| rl_nil ?_
    first | refine run_cond_dec rfl (fun h5 => ?_) (fun h5 => ?_) | refine run_cond rfl (fun h5 => ?_) (fun h5 => ?_)
    ·have hNl2 := hAT2.len
     refine run_seq <| run_region <| rl_v rfl rfl rfl (ov_move rfl rfl) <| rl_v rfl rfl rfl (ov_assign rfl rfl) <| rl_nil <| run_ret Tryz.func16 (res1 Tryz.results16 rfl) ?_
     exact ⟨va2, vc2, N2, A2, H2, rfl, by omega, hTb2, hO3.tail.tail, hAT2.end fun j j0 j1 => (hbe j (by omega) j1).1⟩
    ·exfalso; omega
end Go.Proofs.YtlldeifbfpmbaaaGreat
