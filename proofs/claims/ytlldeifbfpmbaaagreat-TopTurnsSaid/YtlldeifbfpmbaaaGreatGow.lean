import Derived.Test.YtlldeifbfpmbaaaGreatFbH
import Derived.Test.YtlldeifbfpmbaaaGreatLate
import Derived.Test.YtlldeifbfpmbaaaGreatTab
set_option maxRecDepth 100000
namespace Go.Proofs.YtlldeifbfpmbaaaGreat
open Go.RowKit Go.Proofs Go.MapKept
def BadQ (x : Int) : Prop := x < 0 ∨ 64 < x
theorem badQ_any (x : Int) (w : World) : Calls Tryz.prog 50 #[iv x] w fun e w' => (∃ b, e = .returned (.bool b) ∧ (b = true ↔ BadQ x)) ∧ Below w.heap.size w w' := by
 refine calls_of_run (F := [(0, _)]) Tryz.func50 rfl Tryz.ntmps50 rfl rfl ?_
 have hO0 := Own.init w
 refine run_seq <| run_region <| rl_v rfl rfl rfl (ov_assign rfl rfl) <| rl_nil <| run_seq <| run_region <| rl_v rfl rfl rfl (ov_move rfl rfl) <| rl_v rfl rfl rfl (ov_lss rfl rfl rfl) <| rl_v rfl rfl rfl (ov_move rfl rfl) ?_
 first | refine rl_split_dec 5 rfl (fun g1 => ?_) (fun g1 => ?_) | refine rl_split 5 rfl (fun g1 => ?_) (fun g1 => ?_)
 ·refine rl_gskip rfl rfl rfl rfl rfl rfl <| rl_gskip rfl rfl rfl rfl rfl rfl <| rl_v rfl rfl rfl (ov_pick_t rfl rfl rfl) <| rl_v rfl rfl rfl (ov_assign rfl rfl) <| rl_nil <| run_ret Tryz.func50 (res1 Tryz.results50 rfl) ?_
  exact ⟨⟨true, rfl, ⟨fun _ => .inl g1, fun _ => rfl⟩⟩, hO0.below⟩
 ·refine rl_gv rfl rfl rfl rfl rfl (ov_move rfl rfl) <| rl_gv rfl rfl rfl rfl rfl (ov_gtr rfl rfl rfl) <| rl_v rfl rfl rfl (ov_pick_f rfl rfl rfl) <| rl_v rfl rfl rfl (ov_assign rfl rfl) <| rl_nil <| run_ret Tryz.func50 (res1 Tryz.results50 rfl) ?_
  exact ⟨⟨_, rfl, by rw [decide_eq_true_iff]; unfold BadQ; omega⟩, hO0.below⟩
theorem indexQ_any (ao : Option Addr) (n c : Nat) (q : Int → Int) (w : World) (hn : n ≤ 1000000) (h : IAt w.heap.size w ao n (fun i => iv (q i))) :
  Calls Tryz.prog 86 #[.slice ao n c, .func (.func 50) #[] #[]] w fun e w' => (∃ r : Int, e = .returned (iv r) ∧ ((r = -1 ∧ ∀ i : Int, 0 ≤ i → i < n → ¬ BadQ (q i)) ∨ (0 ≤ r ∧ r < n ∧ BadQ (q r)))) ∧ Below w.heap.size w w' := by
 obtain ⟨gb, go, hga, hrow⟩ := h.open
 refine calls_of_run (F := [(0, _), (1, _)]) Tryz.func86 rfl Tryz.ntmps86 rfl rfl ?_
 have hO0 := Own.init w
 refine run_seq <| run_region <| rl_v rfl rfl rfl (ov_assign rfl rfl) <| rl_nil <| run_seq <| run_seq <| run_region <| rl_v rfl rfl rfl (ov_move rfl rfl) <| rl_v rfl rfl rfl (ov_len rfl Tryz.underlying23 rfl) <| rl_v rfl rfl rfl (ov_move rfl rfl) <| rl_nil <| run_block <| Run.keep [0, 1, 7, 8] (F' := [(0, _), (1, _), (7, _), (8, _)]) rfl <| run_loop1 (fun (k : Int) => [(8, .int .i64 k)]) [0, 1, 7] (fun (k : Int) (w1 : World) => 0 ≤ k ∧ k ≤ n ∧ (∀ i : Int, 0 ≤ i → i < k → ¬ BadQ (q i)) ∧ Own w.heap.size w w1 []) (fun (k : Int) => ((n : Int) - k).toNat) (0) ?_ (And.intro (by exact slot_int rfl (by first | omega)) (And.intro rfl (And.intro rfl (And.intro rfl trivial)))) ?_
 ·exact ⟨by omega, by omega, fun i h0 h1 => by omega, hO0⟩
 intro k w1 hIw1 ih2
 obtain ⟨hk0, hk1, hall, hO⟩ := hIw1
 show Run _ _ _ _ [(8, _), (0, _), (1, _), (7, _)] _ _
 refine run_seq <| run_region <| rl_v rfl rfl rfl (ov_lss rfl rfl rfl) <| rl_nil <| run_seq ?_
 first | refine run_cond_dec rfl (fun h1 => ?_) (fun h1 => ?_) | refine run_cond rfl (fun h1 => ?_) (fun h1 => ?_)
 ·refine run_skip <| run_seq <| run_block <| run_seq <| run_region <| rl_v rfl rfl rfl (ov_move rfl rfl) <| rl_v rfl rfl rfl (ov_assign rfl rfl) <| rl_nil <| run_seq <| run_region <| rl_v rfl rfl rfl (ov_move rfl rfl) <| rl_v rfl rfl rfl (ov_move rfl rfl) <| rl_v rfl rfl rfl (ov_move rfl rfl) <| rl_v rfl rfl rfl (ov_index1 rfl Tryz.underlying23 (by kernel_rfl) rfl rfl ⟨by omega, by omega⟩ (by exact hga (by omega))) ?_
  refine rl_v rfl rfl rfl (ov_load rfl Tryz.underlying3 rfl rfl (by exact hrow _ hO.below _ (by omega) (by omega))) ?_
  refine rl_call callable_50 rfl rfl rfl rfl rfl rfl (badQ_any (q k) _) (fun e3 w4 hp5 => ?_)
  obtain ⟨⟨b, rfl, hbb⟩, hbl⟩ := hp5
  refine ⟨_, rfl, ?_⟩
  have hO6 := hO.past hbl
  refine rl_nil ?_
  first | refine run_cond_dec rfl (fun h2 => ?_) (fun h2 => ?_) | refine run_cond rfl (fun h2 => ?_) (fun h2 => ?_)
  ·refine run_seq <| run_region <| rl_v rfl rfl rfl (ov_move rfl rfl) <| rl_v rfl rfl rfl (ov_assign rfl rfl) <| rl_nil <| run_ret Tryz.func86 (res1 Tryz.results86 rfl) ?_
   exact ⟨⟨k, rfl, .inr ⟨hk0, h1, hbb.1 h2⟩⟩, hO6.below⟩
  ·have hk : ¬ BadQ (q k) := fun hn => by rw [hbb.2 hn] at h2; exact Bool.noConfusion h2
   refine run_skip <| run_inBlock <| run_region <| rl_v rfl rfl rfl (ov_add rfl rfl rfl (by omega)) ?_
   refine rl_v rfl rfl rfl (ov_move rfl rfl) <| rl_nil ?_
   refine Run.use (ih2 _ _ ?_ ?_) (And.intro (by rfl) (And.intro rfl (And.intro rfl (And.intro rfl trivial))))
   ·first | omega | (dsimp only; omega)
   ·exact ⟨by omega, by omega, fun i h0 h1' => (by omega : i = k ∨ i < k).elim (fun e => by rw [e]; exact hk) (fun e => hall i h0 e), hO6⟩
 ·refine run_exit rfl <| run_seq <| run_region <| rl_v rfl rfl rfl (ov_assign rfl rfl) <| rl_nil <| run_ret Tryz.func86 (res1 Tryz.results86 rfl) ?_
  exact ⟨⟨-1, rfl, .inl ⟨rfl, fun i h0 h1' => hall i h0 (by omega)⟩⟩, hO.below⟩
theorem containsQ_any (ao : Option Addr) (n c : Nat) (q : Int → Int) (w : World) (hn : n ≤ 1000000) (h : IAt w.heap.size w ao n (fun i => iv (q i))) :
  Calls Tryz.prog 49 #[.slice ao n c, .func (.func 50) #[] #[]] w fun e w' => (∃ b, e = .returned (.bool b) ∧ (b = true ↔ ∃ i : Int, 0 ≤ i ∧ i < n ∧ BadQ (q i))) ∧ Below w.heap.size w w' := by
 refine calls_of_run (F := [(0, _), (1, _)]) Tryz.func49 rfl Tryz.ntmps49 rfl rfl ?_
 have hO0 := Own.init w
 refine run_seq <| run_region <| rl_v rfl rfl rfl (ov_assign rfl rfl) <| rl_nil <| run_seq <| run_region <| rl_v rfl rfl rfl (ov_move rfl rfl) <| rl_v rfl rfl rfl (ov_move rfl rfl) ?_
 refine rl_call callable_86 rfl rfl rfl rfl rfl rfl (indexQ_any ao n c q _ hn h) (fun e1 w2 hp3 => ?_)
 obtain ⟨⟨r, rfl, hr⟩, hbl⟩ := hp3
 refine ⟨_, rfl, ?_⟩
 have hO4 := hO0.past hbl
 refine rl_v rfl rfl rfl (ov_geq rfl rfl rfl) <| rl_v rfl rfl rfl (ov_assign rfl rfl) <| rl_nil <| run_ret Tryz.func49 (res1 Tryz.results49 rfl) ?_
 exact ⟨⟨_, rfl, by rw [decide_eq_true_iff]; rcases hr with ⟨h1, h2⟩ | ⟨h1, h2, h3⟩; (exact ⟨fun h => by omega, fun ⟨i, i0, i1, hi⟩ => absurd hi (h2 i i0 i1)⟩); (exact ⟨fun _ => ⟨r, h1, h2, h3⟩, fun _ => h1⟩)⟩, hO4.below⟩
structure FAg (B : Nat) (w : World) (ga ba qa : Option Addr) (f : Fair) (nq : Nat) : Prop where
 g : ITab B w ga f.n f.gl (fun r c => iv (f.ge r c))
 b : ITab B w ba f.m f.bl (fun r c => iv (f.be r c))
 q : IAt B w qa nq (fun b => iv (f.q b))
theorem FAg.below {B : Nat} {w w' : World} {ga ba qa : Option Addr} {f : Fair} {nq : Nat} (h : FAg B w ga ba qa f nq) (hb : Below B w w') : FAg B w' ga ba qa f nq := ⟨h.g.below hb, h.b.below hb, h.q.below hb⟩
theorem FAg.mono {B B' : Nat} {w : World} {ga ba qa : Option Addr} {f : Fair} {nq : Nat} (h : FAg B w ga ba qa f nq) (hB : B ≤ B') : FAg B' w ga ba qa f nq := ⟨h.g.mono hB, h.b.mono hB, h.q.mono hB⟩
theorem Own.fag {B : Nat} {w0 w : World} {H : List (Option Blk)} (hO : Own B w0 w H) {ga ba qa : Option Addr} {f : Fair} {nq : Nat} (h : FAg B w0 ga ba qa f nq) : FAg w.heap.size w ga ba qa f nq := (h.below hO.below).mono hO.size
def Lists (f : Fair) : Prop := (∀ g : Int, 0 ≤ g → g < f.n → IsL (f.gl g) (f.ge g) f.m) ∧ ∀ b : Int, 0 ≤ b → b < f.m → IsL (f.bl b) (f.be b) f.n
noncomputable def chkF (f : Fair) (nq : Nat) : Int :=
 open Classical in
 if 64 < f.n ∨ 64 < f.m then 2 else if nq ≠ f.m then 7 else if ∃ i : Int, 0 ≤ i ∧ i < nq ∧ BadQ (f.q i) then 1 else if ¬ Lists f then 50 else 0
structure Valid5 (f : Fair) (nq : Nat) : Prop where
 ok : f.Ok
 sm : f.Sm
 nq : nq = f.m
theorem chkF_0 {f : Fair} {nq : Nat} : chkF f nq = 0 ↔ Valid5 f nq := by
 unfold chkF
 constructor
 ·intro h
  split at h
  ·cases h
  ·split at h
   ·cases h
   ·split at h
    ·cases h
    ·split at h
     ·cases h
     ·rename_i h1 h2 h3 h4
      have hL := Classical.not_not.1 h4
      have hnq := Classical.not_not.1 h2
      have hq : ∀ b : Int, 0 ≤ b → b < f.m → 0 ≤ f.q b ∧ f.q b ≤ 64 := fun b b0 b1 => by
       have : ¬ BadQ (f.q b) := fun hb => h3 ⟨b, b0, by omega, hb⟩
       unfold BadQ at this
       omega
      have hgd : ∀ g : Int, 0 ≤ g → g < f.n → f.gl g ≤ f.m := fun g g0 g1 => pigeon (hL.1 g g0 g1).1 (hL.1 g g0 g1).2
      have hbd : ∀ b : Int, 0 ≤ b → b < f.m → f.bl b ≤ f.n := fun b b0 b1 => pigeon (hL.2 b b0 b1).1 (hL.2 b b0 b1).2
      exact ⟨⟨fun g k g0 g1 k0 k1 => (hL.1 g g0 g1).1 k k0 k1, fun g g0 g1 => (hL.1 g g0 g1).2, fun b k b0 b1 k0 k1 => (hL.2 b b0 b1).1 k k0 k1, fun b b0 b1 => (hL.2 b b0 b1).2, fun b b0 b1 => (hq b b0 b1).1⟩,
       ⟨by omega, by omega, fun g g0 g1 => by have := hgd g g0 g1; omega, fun b b0 b1 => by have := hbd b b0 b1; omega, hq⟩, hnq⟩
 ·intro h
  have hn := h.sm.n
  have hm := h.sm.m
  rw [if_neg (by omega), if_neg (fun e => e h.nq), if_neg, if_neg]
  ·exact fun hn => hn ⟨fun g g0 g1 => ⟨fun k => h.ok.gr g k g0 g1, h.ok.gd g g0 g1⟩, fun b b0 b1 => ⟨fun k => h.ok.br b k b0 b1, h.ok.bd b b0 b1⟩⟩
  ·rintro ⟨i, i0, i1, hi⟩
   have := h.sm.q i i0 (by rw [h.nq] at i1; exact i1)
   unfold BadQ at hi
   omega
set_option maxHeartbeats 1000000 in
theorem check5_any (ga ba qa : Option Addr) (gc bc qc nq : Nat) (f : Fair) (w : World) (hn : f.n ≤ 1000000) (hm : f.m ≤ 1000000) (hq : nq ≤ 1000000) (hgl : ∀ r : Int, 0 ≤ r → r < f.n → f.gl r ≤ 1000000) (hbl : ∀ r : Int, 0 ≤ r → r < f.m → f.bl r ≤ 1000000) (hF : FAg w.heap.size w ga ba qa f nq) :
  Calls Tryz.prog 23 #[.agg #[.slice ga f.n gc, .slice ba f.m bc, .slice qa nq qc]] w fun e w' => e = .returned (iv (chkF f nq)) ∧ Below w.heap.size w w' := by
 refine calls_of_run (F := [(0, _)]) Tryz.func23 rfl Tryz.ntmps23 rfl rfl ?_
 have hO0 := Own.init w
 refine run_seq <| run_region <| rl_ow rfl (ow_box _ rfl rfl rfl rfl rfl hO0) ?_
 rintro _ w1 ⟨b1, rfl, hO2, hs3⟩
 refine rl_v rfl rfl rfl (ov_assign rfl rfl) <| rl_nil <| run_seq <| run_seq <| run_region <| rl_v rfl rfl rfl (ov_fieldS rfl Tryz.underlying27 rfl (fo := 0) rfl (by kernel_rfl) rfl) ?_
 refine rl_v rfl rfl rfl (ov_load rfl Tryz.underlying22 rfl rfl (by exact hO2.cellL 0 rfl (off := 0) rfl)) ?_
 refine rl_v rfl rfl rfl (ov_len rfl Tryz.underlying22 rfl) <| rl_v rfl rfl rfl (ov_gtr rfl rfl rfl) <| rl_v rfl rfl rfl (ov_move rfl rfl) ?_
 first | refine rl_split_dec 7 rfl (fun g1 => ?_) (fun g1 => ?_) | refine rl_split 7 rfl (fun g1 => ?_) (fun g1 => ?_)
 ·refine rl_gskip rfl rfl rfl rfl rfl rfl <| rl_gskip rfl rfl rfl rfl rfl rfl <| rl_gskip rfl rfl rfl rfl rfl rfl <| rl_gskip rfl rfl rfl rfl rfl rfl <| rl_v rfl rfl rfl (ov_pick_t rfl rfl rfl) <| rl_nil <| run_cond_t rfl <| run_seq <| run_region <| rl_v rfl rfl rfl (ov_assign rfl rfl) <| rl_nil <| run_ret Tryz.func23 (res1 Tryz.results23 rfl) ?_
  exact ⟨by unfold chkF; rw [if_pos (.inl (by omega))], hO2.tail.below⟩
 ·refine rl_gv rfl rfl rfl rfl rfl (ov_fieldS rfl Tryz.underlying27 rfl (fo := 1) rfl (by kernel_rfl) rfl) ?_
  refine rl_gv rfl rfl rfl rfl rfl (ov_load rfl Tryz.underlying22 rfl rfl (by exact hO2.cellL 0 rfl (off := 1) rfl)) ?_
  refine rl_gv rfl rfl rfl rfl rfl (ov_len rfl Tryz.underlying22 rfl) <| rl_gv rfl rfl rfl rfl rfl (ov_gtr rfl rfl rfl) <| rl_v rfl rfl rfl (ov_pick_f rfl rfl rfl) <| rl_nil ?_
  first | refine run_cond_dec rfl (fun h2 => ?_) (fun h2 => ?_) | refine run_cond rfl (fun h2 => ?_) (fun h2 => ?_)
  ·refine run_seq <| run_region <| rl_v rfl rfl rfl (ov_assign rfl rfl) <| rl_nil <| run_ret Tryz.func23 (res1 Tryz.results23 rfl) ?_
   exact ⟨by unfold chkF; rw [if_pos (.inr (by omega))], hO2.tail.below⟩
  ·refine run_skip <| run_seq <| run_seq <| run_region <| rl_v rfl rfl rfl (ov_fieldS rfl Tryz.underlying27 rfl (fo := 2) rfl (by kernel_rfl) rfl) ?_
   refine rl_v rfl rfl rfl (ov_load rfl Tryz.underlying23 rfl rfl (by exact hO2.cellL 0 rfl (off := 2) rfl)) ?_
   refine rl_v rfl rfl rfl (ov_len rfl Tryz.underlying23 rfl) <| rl_v rfl rfl rfl (ov_fieldS rfl Tryz.underlying27 rfl (fo := 1) rfl (by kernel_rfl) rfl) ?_
   refine rl_v rfl rfl rfl (ov_load rfl Tryz.underlying22 rfl rfl (by exact hO2.cellL 0 rfl (off := 1) rfl)) ?_
   refine rl_v rfl rfl rfl (ov_len rfl Tryz.underlying22 rfl) <| rl_v rfl rfl rfl (ov_neq rfl rfl rfl) <| rl_nil ?_
   first | refine run_cond_dec rfl (fun h3 => ?_) (fun h3 => ?_) | refine run_cond rfl (fun h3 => ?_) (fun h3 => ?_)
   ·refine run_seq <| run_region <| rl_v rfl rfl rfl (ov_assign rfl rfl) <| rl_nil <| run_ret Tryz.func23 (res1 Tryz.results23 rfl) ?_
    exact ⟨by unfold chkF; rw [if_neg (by omega), if_pos (by omega)], hO2.tail.below⟩
   ·refine run_skip <| run_seq <| run_seq <| run_region <| rl_v rfl rfl rfl (ov_fieldS rfl Tryz.underlying27 rfl (fo := 2) rfl (by kernel_rfl) rfl) ?_
    refine rl_v rfl rfl rfl (ov_load rfl Tryz.underlying23 rfl rfl (by exact hO2.cellL 0 rfl (off := 2) rfl)) ?_
    refine rl_call callable_49 rfl rfl rfl rfl rfl rfl (containsQ_any qa nq qc f.q _ hq (hO2.iatF hF.q)) (fun e5 w6 hp7 => ?_)
    obtain ⟨⟨bq, rfl, hbq⟩, hbl1⟩ := hp7
    refine ⟨_, rfl, ?_⟩
    have hO8 := hO2.past hbl1
    refine rl_nil ?_
    first | refine run_cond_dec rfl (fun h4 => ?_) (fun h4 => ?_) | refine run_cond rfl (fun h4 => ?_) (fun h4 => ?_)
    ·refine run_seq <| run_region <| rl_v rfl rfl rfl (ov_assign rfl rfl) <| rl_nil <| run_ret Tryz.func23 (res1 Tryz.results23 rfl) ?_
     exact ⟨by unfold chkF; rw [if_neg (by omega), if_neg (by omega), if_pos (hbq.1 h4)], hO8.tail.below⟩
    ·have hnq : ¬ ∃ i : Int, 0 ≤ i ∧ i < nq ∧ BadQ (f.q i) := fun h => by rw [hbq.2 h] at h4; exact Bool.noConfusion h4
     refine run_skip <| run_seq <| run_seq <| run_region <| rl_v rfl rfl rfl (ov_fieldS rfl Tryz.underlying27 rfl (fo := 0) rfl (by kernel_rfl) rfl) ?_
     refine rl_v rfl rfl rfl (ov_load rfl Tryz.underlying22 rfl rfl (by exact hO8.cellL 0 rfl (off := 0) rfl)) ?_
     refine rl_v rfl rfl rfl (ov_fieldS rfl Tryz.underlying27 rfl (fo := 1) rfl (by kernel_rfl) rfl) ?_
     refine rl_v rfl rfl rfl (ov_load rfl Tryz.underlying22 rfl rfl (by exact hO8.cellL 0 rfl (off := 1) rfl)) ?_
     refine rl_v rfl rfl rfl (ov_len rfl Tryz.underlying22 rfl) ?_
     refine rl_call callable_51 rfl rfl rfl rfl rfl rfl (areLists_any ga f.n gc f.m f.gl f.ge _ hn hgl (by omega) ((hF.g.below hO8.below).mono hO8.size)) (fun e9 w10 hp11 => ?_)
     obtain ⟨⟨bg, rfl, hbg⟩, hbl2⟩ := hp11
     refine ⟨_, rfl, ?_⟩
     have hO12 := hO8.past hbl2
     refine rl_v rfl rfl rfl (ov_not rfl rfl) <| rl_v rfl rfl rfl (ov_move rfl rfl) ?_
     first | refine rl_split_dec 30 rfl (fun g5 => ?_) (fun g5 => ?_) | refine rl_split 30 rfl (fun g5 => ?_) (fun g5 => ?_)
     ·refine rl_gskip rfl rfl rfl rfl rfl rfl <| rl_gskip rfl rfl rfl rfl rfl rfl <| rl_gskip rfl rfl rfl rfl rfl rfl <| rl_gskip rfl rfl rfl rfl rfl rfl <| rl_gskip rfl rfl rfl rfl rfl rfl <| rl_gskip rfl rfl rfl rfl rfl rfl <| rl_gskip rfl rfl rfl rfl rfl rfl <| rl_v rfl rfl rfl (ov_pick_t rfl rfl rfl) <| rl_nil <| run_cond_t rfl ?_
      have hng : ¬ Lists f := fun h => by rw [hbg.2 h.1] at g5; exact Bool.noConfusion g5
      refine run_seq <| run_region <| rl_v rfl rfl rfl (ov_assign rfl rfl) <| rl_nil <| run_ret Tryz.func23 (res1 Tryz.results23 rfl) ?_
      exact ⟨by unfold chkF; rw [if_neg (by omega), if_neg (by omega), if_neg hnq, if_pos hng], hO12.tail.below⟩
     ·refine rl_gv rfl rfl rfl rfl rfl (ov_fieldS rfl Tryz.underlying27 rfl (fo := 1) rfl (by kernel_rfl) rfl) ?_
      refine rl_gv rfl rfl rfl rfl rfl (ov_load rfl Tryz.underlying22 rfl rfl (by exact hO12.cellL 0 rfl (off := 1) rfl)) ?_
      refine rl_gv rfl rfl rfl rfl rfl (ov_fieldS rfl Tryz.underlying27 rfl (fo := 0) rfl (by kernel_rfl) rfl) ?_
      refine rl_gv rfl rfl rfl rfl rfl (ov_load rfl Tryz.underlying22 rfl rfl (by exact hO12.cellL 0 rfl (off := 0) rfl)) ?_
      refine rl_gv rfl rfl rfl rfl rfl (ov_len rfl Tryz.underlying22 rfl) ?_
      refine rl_gcall callable_51 rfl rfl rfl rfl rfl rfl rfl rfl (areLists_any ba f.m bc f.n f.bl f.be _ hm hbl (by omega) ((hF.b.below hO12.below).mono hO12.size)) (fun e14 w15 hp16 => ?_)
      obtain ⟨⟨bb, rfl, hbb⟩, hbl3⟩ := hp16
      refine ⟨_, rfl, ?_⟩
      have hO17 := hO12.past hbl3
      refine rl_gv rfl rfl rfl rfl rfl (ov_not rfl rfl) <| rl_v rfl rfl rfl (ov_pick_f rfl rfl rfl) <| rl_nil ?_
      first | refine run_cond_dec rfl (fun h6 => ?_) (fun h6 => ?_) | refine run_cond rfl (fun h6 => ?_) (fun h6 => ?_)
      ·have hng : ¬ Lists f := fun h => by rw [hbb.2 h.2] at h6; exact Bool.noConfusion h6
       refine run_seq <| run_region <| rl_v rfl rfl rfl (ov_assign rfl rfl) <| rl_nil <| run_ret Tryz.func23 (res1 Tryz.results23 rfl) ?_
       exact ⟨by unfold chkF; rw [if_neg (by omega), if_neg (by omega), if_neg hnq, if_pos hng], hO17.tail.below⟩
      ·have hL : Lists f := ⟨hbg.1 (by cases bg; exact Bool.noConfusion g5; rfl), hbb.1 (by cases bb; exact Bool.noConfusion h6; rfl)⟩
       refine run_skip <| run_seq <| run_region <| rl_v rfl rfl rfl (ov_assign rfl rfl) <| rl_nil <| run_ret Tryz.func23 (res1 Tryz.results23 rfl) ?_
       exact ⟨by unfold chkF; rw [if_neg (by omega), if_neg (by omega), if_neg hnq, if_neg (fun h => h hL)], hO17.tail.below⟩
end Go.Proofs.YtlldeifbfpmbaaaGreat
set_option maxRecDepth 100000
namespace Go.Proofs.YtlldeifbfpmbaaaGreat
open Go.RowKit Go.Proofs Go.MapKept
theorem FAg.fat {B : Nat} {w : World} {ga ba qa : Option Addr} {f : Fair} {nq : Nat} (h : FAg B w ga ba qa f nq) (e : nq = f.m) : FAt B w ga ba qa f := ⟨h.g, h.b, e ▸ h.q⟩
structure Lg5 (f : Fair) (nq : Nat) : Prop where
 n : f.n ≤ 1000000
 m : f.m ≤ 1000000
 q : nq ≤ 1000000
 gl : ∀ r : Int, 0 ≤ r → r < f.n → f.gl r ≤ 1000000
 bl : ∀ r : Int, 0 ≤ r → r < f.m → f.bl r ≤ 1000000
theorem Valid5.lg {f : Fair} {nq : Nat} (h : Valid5 f nq) : Lg5 f nq :=
 ⟨by have := h.sm.n; omega, by have := h.sm.m; omega, by have := h.sm.m; have := h.nq; omega, fun r r0 r1 => by have := h.sm.gl r r0 r1; omega, fun r r0 r1 => by have := h.sm.bl r r0 r1; omega⟩
section
variable (ga ba qa : Option Addr) (gc bc qc : Nat) (f : Fair) (w : World)
theorem growers_any (hV : Valid5 f f.m) (hF : FAg w.heap.size w ga ba qa f f.m) :
  Calls Tryz.prog 11 #[.agg #[.slice ga f.n gc, .slice ba f.m bc, .slice qa f.m qc]] w fun e w' => ∃ ob l, e = .returned (.tuple #[.slice (some ⟨ob, 0, none⟩) f.n f.n, iv 0]) ∧ Own w.heap.size w w' [some (vch ob 3 f.n (fun g => iv (l g)))] ∧ f.Best l := by
 have hlg := hV.lg
 refine calls_of_run (F := [(0, _)]) Tryz.func11 rfl Tryz.ntmps11 rfl rfl ?_
 have hO0 := Own.init w
 refine run_seq <| run_region <| rl_ow rfl (ow_box _ rfl rfl rfl rfl rfl hO0) ?_
 rintro _ w1 ⟨b1, rfl, hO2, hs3⟩
 refine rl_v rfl rfl rfl (ov_assign rfl rfl) <| rl_v rfl rfl rfl (ov_assign rfl rfl) <| rl_nil <| run_seq <| run_seq <| run_region <| rl_v rfl rfl rfl (ov_loadW rfl Tryz.underlying27 rfl (by kernel_rfl) rfl hO2 0 rfl) ?_
 refine rl_call callable_23 rfl rfl rfl rfl rfl rfl (check5_any ga ba qa gc bc qc f.m f _ hlg.n hlg.m hlg.q hlg.gl hlg.bl (hO2.fag hF)) (fun e4 w5 hp6 => ?_)
 obtain ⟨rfl, hbl⟩ := hp6
 refine ⟨_, rfl, ?_⟩
 have hO7 := hO2.past hbl
 have h0 := chkF_0.2 hV
 refine rl_v rfl rfl rfl (ov_assign rfl rfl) <| rl_nil <| run_seq <| run_region <| rl_v rfl rfl rfl (ov_move rfl rfl) <| rl_v rfl rfl rfl (ov_neq rfl rfl rfl) <| rl_nil ?_
 first | refine run_cond_dec rfl (fun h1 => ?_) (fun h1 => ?_) | refine run_cond rfl (fun h1 => ?_) (fun h1 => ?_)
 ·exfalso; exact h1 h0
 ·refine run_skip <| run_seq <| run_region <| rl_v rfl rfl rfl (ov_loadW rfl Tryz.underlying27 rfl (by kernel_rfl) rfl hO7 0 rfl) ?_
  refine rl_call callable_40 rfl rfl rfl rfl rfl rfl (newTables_any ga ba qa gc bc qc f _ hV.sm ((hO7.fag hF).fat rfl)) (fun e8 w9 hp10 => ?_)
  obtain ⟨tb, H1, rfl, hO1, hP⟩ := hp10
  refine ⟨_, rfl, ?_⟩
  have hO11 := hO7.join hO1
  refine rl_call callable_42 rfl rfl rfl rfl rfl rfl (offered_any tb f _ hV.ok hV.sm hP) (fun e12 w13 hp14 => ?_)
  obtain ⟨ob, l, nx, rfl, hO2, hD, hE⟩ := hp14
  refine ⟨_, rfl, ?_⟩
  have hO15 := hO11.join hO2
  refine rl_v rfl rfl rfl (ov_assign rfl rfl) <| rl_v rfl rfl rfl (ov_assign rfl rfl) <| rl_nil <| run_ret Tryz.func11 (res2 Tryz.results11 rfl rfl) ?_
  exact ⟨ob, l, rfl, hO15.sub (.cons_cons _ (List.nil_sublist _)), hD.isBest hV.ok hE⟩
theorem brewers_any (hV : Valid5 f f.m) (hF : FAg w.heap.size w ga ba qa f f.m) :
  Calls Tryz.prog 12 #[.agg #[.slice ga f.n gc, .slice ba f.m bc, .slice qa f.m qc]] w fun e w' => ∃ ob l nb, e = .returned (.tuple #[.slice (some ⟨ob, 0, none⟩) f.n f.n, iv 0]) ∧ Own w.heap.size w w' [some (vch ob 3 f.n (fun g => iv (l g)))] ∧ f.AS l nb ∧ ∀ b : Int, 0 ≤ b → b < f.m → Done f l nb b := by
 have hlg := hV.lg
 refine calls_of_run (F := [(0, _)]) Tryz.func12 rfl Tryz.ntmps12 rfl rfl ?_
 have hO0 := Own.init w
 refine run_seq <| run_region <| rl_ow rfl (ow_box _ rfl rfl rfl rfl rfl hO0) ?_
 rintro _ w1 ⟨b1, rfl, hO2, hs3⟩
 refine rl_v rfl rfl rfl (ov_assign rfl rfl) <| rl_v rfl rfl rfl (ov_assign rfl rfl) <| rl_nil <| run_seq <| run_seq <| run_region <| rl_v rfl rfl rfl (ov_loadW rfl Tryz.underlying27 rfl (by kernel_rfl) rfl hO2 0 rfl) ?_
 refine rl_call callable_23 rfl rfl rfl rfl rfl rfl (check5_any ga ba qa gc bc qc f.m f _ hlg.n hlg.m hlg.q hlg.gl hlg.bl (hO2.fag hF)) (fun e4 w5 hp6 => ?_)
 obtain ⟨rfl, hbl⟩ := hp6
 refine ⟨_, rfl, ?_⟩
 have hO7 := hO2.past hbl
 have h0 := chkF_0.2 hV
 refine rl_v rfl rfl rfl (ov_assign rfl rfl) <| rl_nil <| run_seq <| run_region <| rl_v rfl rfl rfl (ov_move rfl rfl) <| rl_v rfl rfl rfl (ov_neq rfl rfl rfl) <| rl_nil ?_
 first | refine run_cond_dec rfl (fun h1 => ?_) (fun h1 => ?_) | refine run_cond rfl (fun h1 => ?_) (fun h1 => ?_)
 ·exfalso; exact h1 h0
 ·refine run_skip <| run_seq <| run_region <| rl_v rfl rfl rfl (ov_loadW rfl Tryz.underlying27 rfl (by kernel_rfl) rfl hO7 0 rfl) ?_
  refine rl_call callable_40 rfl rfl rfl rfl rfl rfl (newTables_any ga ba qa gc bc qc f _ hV.sm ((hO7.fag hF).fat rfl)) (fun e8 w9 hp10 => ?_)
  obtain ⟨tb, H1, rfl, hO1, hP⟩ := hp10
  refine ⟨_, rfl, ?_⟩
  have hO11 := hO7.join hO1
  refine rl_call callable_43 rfl rfl rfl rfl rfl rfl (asked_any tb f _ hV.ok hV.sm hP) (fun e12 w13 hp14 => ?_)
  obtain ⟨ob, l, nb, rfl, hO2, hA, hE⟩ := hp14
  refine ⟨_, rfl, ?_⟩
  have hO15 := hO11.join hO2
  refine rl_v rfl rfl rfl (ov_assign rfl rfl) <| rl_v rfl rfl rfl (ov_assign rfl rfl) <| rl_nil <| run_ret Tryz.func12 (res2 Tryz.results12 rfl rfl) ?_
  exact ⟨ob, l, nb, rfl, hO15.sub (.cons_cons _ (List.nil_sublist _)), hA, hE⟩
end
end Go.Proofs.YtlldeifbfpmbaaaGreat
set_option maxRecDepth 100000
namespace Go.Proofs.YtlldeifbfpmbaaaGreat
open Go.RowKit Go.Proofs Go.MapKept
open Classical in
noncomputable def rowTo (f : Fair) (l : Int → Int) (g : Int) : Nat → List (Int × Int)
 | 0 => []
 | b + 1 => rowTo f l g b ++ (if f.Blk l g b then [(g, (b : Int))] else [])
noncomputable def blkTo (f : Fair) (l : Int → Int) : Nat → List (Int × Int)
 | 0 => []
 | g + 1 => blkTo f l g ++ rowTo f l g f.m
theorem rowTo_yes {f : Fair} {l : Int → Int} {g : Int} {b : Nat} (h : f.Blk l g b) : rowTo f l g (b + 1) = rowTo f l g b ++ [(g, (b : Int))] := by rw [rowTo, if_pos h]
theorem rowTo_no {f : Fair} {l : Int → Int} {g : Int} {b : Nat} (h : ¬ f.Blk l g b) : rowTo f l g (b + 1) = rowTo f l g b := by rw [rowTo, if_neg h, List.append_nil]
theorem rowTo_len (f : Fair) (l : Int → Int) (g : Int) : ∀ b : Nat, (rowTo f l g b).length ≤ b
 | 0 => Nat.le_refl _
 | b + 1 => by
  have := rowTo_len f l g b
  unfold rowTo
  rw [List.length_append]
  split <;> simp <;> omega
theorem blkTo_len (f : Fair) (l : Int → Int) : ∀ g : Nat, (blkTo f l g).length ≤ g * f.m
 | 0 => Nat.zero_le _
 | g + 1 => by
  have := blkTo_len f l g
  have := rowTo_len f l g f.m
  unfold blkTo
  rw [List.length_append, Nat.succ_mul]
  omega
def prG (L : List (Int × Int)) : Int → List Value := fun k => [iv (L.getD k.toNat (0, 0)).1, iv (L.getD k.toNat (0, 0)).2]
theorem prG_snoc (L : List (Int × Int)) (x : Int × Int) (k : Int) (k0 : 0 ≤ k) (k1 : k < ((L.length + 1 : Nat) : Int)) : upd (prG L) L.length [iv x.1, iv x.2] k = prG (L ++ [x]) k := by
 unfold upd prG
 by_cases e : k = L.length
 ·rw [if_pos e, e]; simp [List.getD]
 ·rw [if_neg e]
  have : k.toNat < L.length := by omega
  simp [List.getD, List.getElem?_append, this]
theorem rowTo_nil {f : Fair} {l : Int → Int} {g : Int} : ∀ b : Nat, rowTo f l g b = [] ↔ ∀ c : Int, 0 ≤ c → c < b → ¬ f.Blk l g c
 | 0 => ⟨fun _ c c0 c1 => by omega, fun _ => rfl⟩
 | b + 1 => by
  unfold rowTo
  rw [List.append_eq_nil_iff, rowTo_nil b]
  by_cases h : f.Blk l g b
  ·rw [if_pos h]; exact ⟨fun e => by simp at e, fun e => absurd h (e b (by omega) (by omega))⟩
  ·rw [if_neg h]; exact ⟨fun e c c0 c1 => by by_cases d : c = b; (rw [d]; exact h); (exact e.1 c c0 (by omega)), fun e => ⟨fun c c0 c1 => e c c0 (by omega), rfl⟩⟩
theorem blkTo_nil {f : Fair} {l : Int → Int} : ∀ g : Nat, blkTo f l g = [] ↔ ∀ i c : Int, 0 ≤ i → i < g → 0 ≤ c → c < f.m → ¬ f.Blk l i c
 | 0 => ⟨fun _ i c i0 i1 => by omega, fun _ => rfl⟩
 | g + 1 => by
  unfold blkTo
  rw [List.append_eq_nil_iff, blkTo_nil g, rowTo_nil]
  exact ⟨fun e i c i0 i1 c0 c1 => by by_cases d : i = g; (rw [d]; exact e.2 c c0 c1); (exact e.1 i c i0 (by omega) c0 c1), fun e => ⟨fun i c i0 i1 c0 c1 => e i c i0 (by omega) c0 c1, fun c c0 c1 => e g c (by omega) (by omega) c0 c1⟩⟩
end Go.Proofs.YtlldeifbfpmbaaaGreat
set_option maxRecDepth 100000
namespace Go.Proofs.YtlldeifbfpmbaaaGreat
open Go.RowKit Go.Proofs Go.MapKept
theorem u64_nn5 (x : Int) : 0 ≤ IntKind.u64.wrap x := by rw [IntKind.wrap_u64]; omega
end Go.Proofs.YtlldeifbfpmbaaaGreat
set_option maxRecDepth 100000
namespace Go.Proofs.YtlldeifbfpmbaaaGreat
open Go.RowKit Go.Proofs
theorem IRow.addr {ao : Option Addr} {m cap : Nat} {E : TypeId} {n : Nat} {G : Int → Value} {c : Option Blk} (h : IRow (.slice ao m cap) E n G c) : ∃ b, (0 < n → ao = some ⟨b, 0, none⟩) := by
 rcases h with ⟨_, rfl, _⟩ | ⟨b, cap', g, h1, _⟩
 ·exact ⟨0, fun h => absurd h (Nat.lt_irrefl _)⟩
 ·cases h1; exact ⟨b, fun _ => rfl⟩
theorem ow_storeI1 {N : Nat} {o : Oper} {F : Fr} {w w0 : World} {B : Nat} {H : List (Option Blk)} {T E : TypeId} {p x : Operand} {b n cap : Nat} {G : Int → Value} {c : Option Blk} {ao : Option Addr} {i : Int} {v : Value} (hd : o.dst = none) (ho : o.op = .store T p x) (hi : (Tryz.prog.info? T).map (·.size) = some 1)
  (hO : Own B w0 w H) (kk : Nat) (hr : IRow (.slice ao n cap) E n G c) (hk : H[kk]? = some c) (hao : 0 < n → ao = some ⟨b, 0, none⟩) (hp : Fr.ev F p = some (.pointer (some ⟨b, 0 + i.toNat, none⟩))) (hb : 0 ≤ i ∧ i < n)
  (hx : Fr.ev F x = some v) (h1 : v.oneCell' = true) :
  OpW Tryz.prog N o F w (fun F' w' => ∃ c', F' = F ∧ Own B w0 w' (H.set kk c') ∧ IRow (.slice ao n cap) E n (upd G i v) c' ∧ w'.heap.size = w.heap.size) := by
 obtain ⟨b', G', e1, e2, e3, rfl, e5⟩ := hr.asV (by omega)
 have := (hao (by omega)).symm.trans e1
 simp only [Option.some.injEq, Addr.mk.injEq] at this
 obtain rfl := this.1
 refine (ow_store hd ho hi hO kk hk hp ⟨hb.1, by omega⟩ hx h1).mono fun F' w' ⟨q1, q2, q3⟩ => ⟨_, q1, q2, ?_, q3⟩
 rw [e1]
 refine IRow.ofV e2 e3 fun j j0 j1 => ?_
 by_cases e : j = i
 ·subst e; simp
 ·rw [upd_ne _ _ e, upd_ne _ _ e]; exact e5 j j0 j1
end Go.Proofs.YtlldeifbfpmbaaaGreat
