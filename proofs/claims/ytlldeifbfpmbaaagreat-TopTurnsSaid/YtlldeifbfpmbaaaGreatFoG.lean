import Derived.Test.YtlldeifbfpmbaaaGreatBitA
import Derived.Test.YtlldeifbfpmbaaaGreatFoD
import Derived.Test.YtlldeifbfpmbaaaGreatFjA
set_option maxRecDepth 100000
namespace Go.Proofs.YtlldeifbfpmbaaaGreat
open Go.RowKit Go.Proofs Go.MapKept
theorem p312x {α : Type} {a b c : α} {R : List α} : (a :: b :: c :: R).Perm (c :: a :: b :: R) := ((List.Perm.swap _ _ _).cons a).trans (List.Perm.swap _ _ _)
def PTX (B : Nat) (w : World) (tb : Nat) (f : Fair) (ga ba qa : Option Addr) (gc bc qc : Nat) : Prop :=
 ∃ (ma na : Option Addr) (mc nc : Nat), LAt B w tb [.slice ga f.n gc, .slice ba f.m bc, .slice qa f.m qc, .slice ma f.n mc, .slice na f.m nc] ∧ FAt B w ga ba qa f ∧ MAt B w ma f.n (fun g => rkL (f.ge g) (f.gl g)) ∧ MAt B w na f.m (fun b => rkL (f.be b) (f.bl b))
theorem PTX.pt {B : Nat} {w : World} {tb : Nat} {f : Fair} {ga ba qa : Option Addr} {gc bc qc : Nat} (h : PTX B w tb f ga ba qa gc bc qc) : PT B w tb f := by
 obtain ⟨ma, na, mc, nc, h1, h2, h3, h4⟩ := h
 exact ⟨ga, ba, qa, ma, na, gc, bc, qc, mc, nc, h1, h2, h3, h4⟩
set_option maxHeartbeats 4000000 in
theorem can_any (ga ba qa : Option Addr) (gc bc qc : Nat) (tb : Nat) (f : Fair) (la : Option Addr) (q lc : Nat) (l : Int → Int) (w : World) (hV : Valid5 f f.m) (h : PTX w.heap.size w tb f ga ba qa gc bc qc) (hbR : RTab w.heap.size w ba f.m f.bl f.be) (hq : q ≤ f.n) (hl : IAt w.heap.size w la q (fun i => iv (l i))) (hlr : ∀ i : Int, 0 ≤ i → i < q → -1 ≤ l i ∧ l i < f.m) :
  Calls Tryz.prog 77 #[ptr tb, .slice la q lc] w fun e w' => e = .returned (.bool (dB (∃ s, f.Stab s ∧ ∀ i : Int, 0 ≤ i → i < q → s i = l i))) ∧ Below w.heap.size w w' := by
 have hpt := h.pt
 obtain ⟨ma, na, mc, nc, hL, hF, hM, hN⟩ := h
 have hld := hL.open
 obtain ⟨gA, gC, RB, RO, gb, go, hga, hrow, hra, hel, hgi⟩ := hF.g.open
 obtain ⟨gA1, gC1, hg1, hg2⟩ := id hF.g
 obtain ⟨bA, bC, hb1, hroom, hb2⟩ := hbR
 obtain ⟨nb, qb, qo, hqa, hqrow, hnap⟩ := hN.open
 obtain ⟨lb, lo, hla, hlrow⟩ := hl.open
 have hf := hV.ok
 have hsn := hV.sm.n
 have hsm := hV.sm.m
 refine calls_of_run (F := [(0, _), (1, _)]) Tryz.func77 rfl Tryz.ntmps77 rfl rfl ?_
 have hO0 := Own.init w
 refine run_seq <| run_region <| rl_v rfl rfl rfl (ov_assign rfl rfl) <| rl_nil <| run_seq <| Run.keep [0, 1] (F' := [(0, _), (1, _)]) rfl <| run_join1 (fun (fb : Nat) => [(5, ptr fb)]) [0, 1] (fun (fb : Nat) (w1 : World) => ∃ (ga1 : Option Addr) (gc1 : Nat) (ba1 : Option Addr) (bc1 : Nat) (cg cb : Option Blk), IRow (.slice ga1 f.n gc1) 23 f.n (fun r => .slice (gA1 r) (f.gl r) (gC1 r)) cg ∧ IRow (.slice ba1 f.m bc1) 23 f.m (fun r => .slice (bA r) (f.bl r) (bC r)) cb ∧ Own w.heap.size w w1 [some (lch fb 27 [.slice ga1 f.n gc1, .slice ba1 f.m bc1, .slice qa f.m qc]), cb, cg]) (fun hk2 => ?_) ?_
 ·refine run_late (fun w' => Own w.heap.size w w' ([])) 19 mixed ?_
  have hO4 := hO0.drew
  generalize World.drew w = w3 at hO4 ⊢
  have hS5 : Own w.heap.size w w3 ([]) := by exact hO4.sub (List.nil_sublist _)
  refine rhl_v 0 rfl (by kernel_rfl) rfl rfl rfl hS5 (fun _ hS => ov_move rfl rfl) ?_
  refine rhl_v 1 rfl (by kernel_rfl) rfl rfl rfl hS5 (fun _ hS => ov_nil rfl rfl) ?_
  refine rhl_v 2 rfl (by kernel_rfl) rfl rfl rfl hS5 (fun _ hS => ov_fieldS rfl Tryz.underlying100 rfl (fo := 0) rfl (by kernel_rfl) rfl) ?_
  refine rhl_v 3 rfl (by kernel_rfl) rfl rfl rfl hS5 (fun _ hS => ov_fieldS rfl Tryz.underlying27 rfl (fo := 0) rfl (by kernel_rfl) rfl) ?_
  refine rhl_v 4 rfl (by kernel_rfl) rfl rfl rfl hS5 (fun _ hS => ov_load rfl Tryz.underlying22 rfl rfl (by exact hld _ hS.below rfl)) ?_
  refine rhl_v 6 rfl (by kernel_rfl) rfl rfl rfl hS5 (fun _ hS => ov_move rfl rfl) ?_
  refine rhl_v 7 rfl (by kernel_rfl) rfl rfl rfl hS5 (fun _ hS => ov_nil rfl rfl) ?_
  refine rhl_v 8 rfl (by kernel_rfl) rfl rfl rfl hS5 (fun _ hS => ov_fieldS rfl Tryz.underlying100 rfl (fo := 0) rfl (by kernel_rfl) rfl) ?_
  refine rhl_v 9 rfl (by kernel_rfl) rfl rfl rfl hS5 (fun _ hS => ov_fieldS rfl Tryz.underlying27 rfl (fo := 1) rfl (by kernel_rfl) rfl) ?_
  refine rhl_v 10 rfl (by kernel_rfl) rfl rfl rfl hS5 (fun _ hS => ov_load rfl Tryz.underlying22 rfl rfl (by exact hld _ hS.below rfl)) ?_
  refine rhl_v 12 rfl (by kernel_rfl) rfl rfl rfl hS5 (fun _ hS => ov_move rfl rfl) ?_
  refine rhl_v 13 rfl (by kernel_rfl) rfl rfl rfl hS5 (fun _ hS => ov_nil rfl rfl) ?_
  refine rhl_v 14 rfl (by kernel_rfl) rfl rfl rfl hS5 (fun _ hS => ov_fieldS rfl Tryz.underlying100 rfl (fo := 0) rfl (by kernel_rfl) rfl) ?_
  refine rhl_v 15 rfl (by kernel_rfl) rfl rfl rfl hS5 (fun _ hS => ov_fieldS rfl Tryz.underlying27 rfl (fo := 2) rfl (by kernel_rfl) rfl) ?_
  refine rhl_v 16 rfl (by kernel_rfl) rfl rfl rfl hS5 (fun _ hS => ov_load rfl Tryz.underlying23 rfl rfl (by exact hld _ hS.below rfl)) ?_
  refine rhl_any2 5 18 (by kernel_rfl) ?_ ?_
  ·refine rcl_op rfl rfl (ow_call2 callable_112 rfl rfl rfl rfl rfl (cloneR_any ga f.n gc gA1 f.gl gC1 _ (by omega) (hO4.iatF hg1)) (by intro e w' hp; obtain ⟨v1, cg, rfl, hrg, hOg⟩ := hp; exact ⟨_, rfl⟩)) ?_
   rintro _ w8 ⟨_, v6, he9, rfl, hp7⟩
   obtain ⟨v1, cg, rfl, hrg, hOg⟩ := hp7
   injection he9 with he9; subst he9
   have hO10 := hO4.join hOg
   have hS11 : Own w.heap.size w w8 ([]) := by exact hO10.sub (List.nil_sublist _)
   refine ⟨hS11, ?_⟩
   obtain ⟨ga1, gc1, rfl⟩ := Row.val hrg
   refine rhl_any2 11 18 (by kernel_rfl) ?_ ?_
   ·refine rcl_op rfl rfl (ow_call2 callable_112 rfl rfl rfl rfl rfl (cloneR_any ba f.m bc bA f.bl bC _ (by omega) (hO10.iatF hb1)) (by intro e w' hp; obtain ⟨v2, cb, rfl, hrb, hOb⟩ := hp; exact ⟨_, rfl⟩)) ?_
    rintro _ w14 ⟨_, v12, he15, rfl, hp13⟩
    obtain ⟨v2, cb, rfl, hrb, hOb⟩ := hp13
    injection he15 with he15; subst he15
    have hO16 := hO10.join hOb
    have hS17 : Own w.heap.size w w14 ([]) := by exact hO16.sub (List.nil_sublist _)
    refine ⟨hS17, ?_⟩
    obtain ⟨ba1, bc1, rfl⟩ := Row.val hrb
    refine rhl_v 17 rfl (by kernel_rfl) rfl rfl rfl hS17 (fun _ hS => ov_buildL rfl lay_27 rfl (us := [_, _, _]) rfl) ?_
    refine rhl_any1 18 (by kernel_rfl) ?_
    refine rcl_op rfl rfl (ow_alloc _ rfl rfl rfl zero_27 rfl hO16) ?_
    rintro _ w18 ⟨fb, rfl, hO19, hs20⟩
    have hS21 : Own w.heap.size w w18 ([]) := by exact hO19.sub (List.nil_sublist _)
    refine ⟨hS21, ?_⟩
    refine rhl_any1 19 (by kernel_rfl) ?_
    refine rcl_last rfl rfl (ow_storeW rfl rfl (by kernel_rfl) hO19 0 rfl rfl (by rfl) rfl (by rfl)) ?_
    rintro _ w22 ⟨rfl, hO23, hs24⟩
    refine rhl_done (by kernel_rfl) ?_
    refine Run.use (hk2 (fb) _ ?_) (And.intro rfl (And.intro rfl (And.intro rfl trivial)))
    exact ⟨ga1, gc1, ba1, bc1, cg, cb, hrg, hrb, hO23⟩
   ·refine rcl_op rfl rfl (ow_alloc _ rfl rfl rfl zero_27 rfl hO10) ?_
    rintro _ w25 ⟨fb, rfl, hO26, hs27⟩
    have hS28 : Own w.heap.size w w25 ([]) := by exact hO26.sub (List.nil_sublist _)
    refine ⟨hS28, ?_⟩
    refine rhl_any1 11 (by kernel_rfl) ?_
    refine rcl_op rfl rfl (ow_call2 callable_112 rfl rfl rfl rfl rfl (cloneR_any ba f.m bc bA f.bl bC _ (by omega) (hO26.iatF hb1)) (by intro e w' hp; obtain ⟨v2, cb, rfl, hrb, hOb⟩ := hp; exact ⟨_, rfl⟩)) ?_
    rintro _ w31 ⟨_, v29, he32, rfl, hp30⟩
    obtain ⟨v2, cb, rfl, hrb, hOb⟩ := hp30
    injection he32 with he32; subst he32
    have hO33 := hO26.join hOb
    have hS34 : Own w.heap.size w w31 ([]) := by exact hO33.sub (List.nil_sublist _)
    refine ⟨hS34, ?_⟩
    obtain ⟨ba1, bc1, rfl⟩ := Row.val hrb
    refine rhl_v 17 rfl (by kernel_rfl) rfl rfl rfl hS34 (fun _ hS => ov_buildL rfl lay_27 rfl (us := [_, _, _]) rfl) ?_
    refine rhl_any1 19 (by kernel_rfl) ?_
    refine rcl_last rfl rfl (ow_storeW rfl rfl (by kernel_rfl) hO33 1 rfl rfl (by rfl) rfl (by rfl)) ?_
    rintro _ w35 ⟨rfl, hO36, hs37⟩
    refine rhl_done (by kernel_rfl) ?_
    refine Run.use (hk2 (fb) _ ?_) (And.intro rfl (And.intro rfl (And.intro rfl trivial)))
    exact ⟨ga1, gc1, ba1, bc1, cg, cb, hrg, hrb, hO36.swap⟩
  ·refine rcl_op rfl rfl (ow_alloc _ rfl rfl rfl zero_27 rfl hO4) ?_
   rintro _ w38 ⟨fb, rfl, hO39, hs40⟩
   have hS41 : Own w.heap.size w w38 ([]) := by exact hO39.sub (List.nil_sublist _)
   refine ⟨hS41, ?_⟩
   refine rhl_any1 5 (by kernel_rfl) ?_
   refine rcl_op rfl rfl (ow_call2 callable_112 rfl rfl rfl rfl rfl (cloneR_any ga f.n gc gA1 f.gl gC1 _ (by omega) (hO39.iatF hg1)) (by intro e w' hp; obtain ⟨v1, cg, rfl, hrg, hOg⟩ := hp; exact ⟨_, rfl⟩)) ?_
   rintro _ w44 ⟨_, v42, he45, rfl, hp43⟩
   obtain ⟨v1, cg, rfl, hrg, hOg⟩ := hp43
   injection he45 with he45; subst he45
   have hO46 := hO39.join hOg
   have hS47 : Own w.heap.size w w44 ([]) := by exact hO46.sub (List.nil_sublist _)
   refine ⟨hS47, ?_⟩
   obtain ⟨ga1, gc1, rfl⟩ := Row.val hrg
   refine rhl_any1 11 (by kernel_rfl) ?_
   refine rcl_op rfl rfl (ow_call2 callable_112 rfl rfl rfl rfl rfl (cloneR_any ba f.m bc bA f.bl bC _ (by omega) (hO46.iatF hb1)) (by intro e w' hp; obtain ⟨v2, cb, rfl, hrb, hOb⟩ := hp; exact ⟨_, rfl⟩)) ?_
   rintro _ w50 ⟨_, v48, he51, rfl, hp49⟩
   obtain ⟨v2, cb, rfl, hrb, hOb⟩ := hp49
   injection he51 with he51; subst he51
   have hO52 := hO46.join hOb
   have hS53 : Own w.heap.size w w50 ([]) := by exact hO52.sub (List.nil_sublist _)
   refine ⟨hS53, ?_⟩
   obtain ⟨ba1, bc1, rfl⟩ := Row.val hrb
   refine rhl_v 17 rfl (by kernel_rfl) rfl rfl rfl hS53 (fun _ hS => ov_buildL rfl lay_27 rfl (us := [_, _, _]) rfl) ?_
   refine rhl_any1 19 (by kernel_rfl) ?_
   refine rcl_last rfl rfl (ow_storeW rfl rfl (by kernel_rfl) hO52 2 rfl rfl (by rfl) rfl (by rfl)) ?_
   rintro _ w54 ⟨rfl, hO55, hs56⟩
   refine rhl_done (by kernel_rfl) ?_
   refine Run.use (hk2 (fb) _ ?_) (And.intro rfl (And.intro rfl (And.intro rfl trivial)))
   exact ⟨ga1, gc1, ba1, bc1, cg, cb, hrg, hrb, hO55.perm p312x⟩
 ·intro fb w1 hJw1
  obtain ⟨ga1, gc1, ba1, bc1, cg, cb, hrg, hrb, hOj⟩ := hJw1
  show Run _ _ _ _ [(5, _), (0, _), (1, _)] _ _
  have hI0 : ∀ r : Int, 0 ≤ r → r < f.n → RdQ w.heap.size w [] (.slice (gA1 r) (f.gl r) (gC1 r)) ((f.cut l ((0 : Nat) : Int) f.bl).gl r) ((f.cut l ((0 : Nat) : Int) f.bl).ge r) := fun r r0 r1 => by
   rw [Fair.cut_gl_hi (show ¬ r < ((0 : Nat) : Int) by omega), Fair.cut_ge_hi (show ¬ r < ((0 : Nat) : Int) by omega)]
   exact RdQ.old (hg2 r r0 r1) (Nat.le_refl _)
  have hC0 : f.CutS (f.pre l ((0 : Nat) : Int)) f.bl := Fair.CutS.init fun i b _ _ hS => by have := hS.1; omega
  refine run_seq <| run_seq <| run_region <| rl_v rfl rfl rfl (ov_move rfl rfl) <| rl_v rfl rfl rfl (ov_len rfl Tryz.underlying23 rfl) <| rl_v rfl rfl rfl (ov_move rfl rfl) <| rl_nil <| run_block <| Run.keep [0, 1, 5, 31, 32, 33] (F' := [(0, _), (1, _), (5, _), (31, _), (32, _), (33, _)]) rfl <| run_loop1 (fun (k : Nat) => [(33, .int .i64 (k : Int))]) [0, 1, 5, 31, 32] (fun (k : Nat) (w57 : World) => k ≤ q ∧ ∃ (gv : Int → Value) (cg : Option Blk) (bl : Int → Nat) (cb : Option Blk) (T : List (Option Blk)), IRow (.slice ga1 f.n gc1) 23 f.n gv cg ∧ (∀ r : Int, 0 ≤ r → r < f.n → RdQ w.heap.size w T (gv r) ((f.cut l (k : Int) f.bl).gl r) ((f.cut l (k : Int) f.bl).ge r)) ∧ IRow (.slice ba1 f.m bc1) 23 f.m (fun r => .slice (bA r) (bl r) (bC r)) cb ∧ f.CutS (f.pre l (k : Int)) bl ∧ Own w.heap.size w w57 (some (lch fb 27 [.slice ga1 f.n gc1, .slice ba1 f.m bc1, .slice qa f.m qc]) :: cb :: cg :: T)) (fun (k : Nat) => q - k) (0) ?_ (And.intro (by exact slot_int rfl (by first | omega)) (And.intro rfl (And.intro rfl (And.intro rfl (And.intro rfl (And.intro rfl trivial)))))) ?_
  ·exact ⟨Nat.zero_le _, _, cg, f.bl, cb, [], hrg, hI0, hrb, hC0, hOj⟩
  intro k w57 hIw57 ih58
  obtain ⟨hk, gv, cg, bl, cb, T, hrg, hG, hrb, hC, hO⟩ := hIw57
  show Run _ _ _ _ [(33, _), (0, _), (1, _), (5, _), (31, _), (32, _)] _ _
  refine run_seq <| run_region <| rl_v rfl rfl rfl (ov_lss rfl rfl rfl) <| rl_nil <| run_seq ?_
  first | refine run_cond_dec rfl (fun c1 => ?_) (fun c1 => ?_) | refine run_cond rfl (fun c1 => ?_) (fun c1 => ?_)
  ·have hkq : k < q := by omega
   have hkn : k < f.n := by omega
   obtain ⟨gbk, hgb⟩ := hrg.addr
   have hgb' := hgb (by omega)
   refine run_skip <| run_seq <| run_block <| run_seq <| run_region <| rl_v rfl rfl rfl (ov_move rfl rfl) <| rl_v rfl rfl rfl (ov_index1 rfl Tryz.underlying23 (by kernel_rfl) rfl rfl ⟨by omega, by omega⟩ (by exact hla (by omega))) ?_
   refine rl_v rfl rfl rfl (ov_load rfl Tryz.underlying3 rfl rfl (by exact hlrow _ hO.below _ (by omega) (by omega))) ?_
   refine rl_v rfl rfl rfl (ov_assign rfl rfl) <| rl_v rfl rfl rfl (ov_assign rfl rfl) <| rl_nil <| run_seq <| run_region <| rl_v rfl rfl rfl (ov_fieldS rfl Tryz.underlying27 rfl (fo := 0) rfl (by kernel_rfl) rfl) ?_
   refine rl_v rfl rfl rfl (ov_load rfl Tryz.underlying22 rfl rfl (by exact hO.cellL 0 rfl (off := 0) rfl)) ?_
   refine rl_v rfl rfl rfl (ov_move rfl rfl) <| rl_v rfl rfl rfl (ov_index1 rfl Tryz.underlying22 (by kernel_rfl) rfl rfl ⟨by omega, by omega⟩ (by exact (id hgb'))) ?_
   refine rl_ow rfl (ow_storeI1 rfl rfl (by kernel_rfl) hO 2 hrg rfl hgb rfl ⟨by omega, by omega⟩ rfl rfl) ?_
   rintro _ w59 ⟨c9, rfl, hO60, hrg1, hs61⟩
   have hne : ∀ r : Int, r ≠ k → (f.cut l ((k + 1 : Nat) : Int) f.bl).gl r = (f.cut l (k : Int) f.bl).gl r ∧ (f.cut l ((k + 1 : Nat) : Int) f.bl).ge r = (f.cut l (k : Int) f.bl).ge r := fun r e => by
    unfold Fair.cut
    dsimp only
    by_cases c : r < k
    ·rw [if_pos c, if_pos (show r < ((k + 1 : Nat) : Int) by omega)]; exact ⟨rfl, funext fun j => by rw [if_pos c, if_pos (show r < ((k + 1 : Nat) : Int) by omega)]⟩
    ·rw [if_neg c, if_neg (show ¬ r < ((k + 1 : Nat) : Int) by omega)]; exact ⟨rfl, funext fun j => by rw [if_neg c, if_neg (show ¬ r < ((k + 1 : Nat) : Int) by omega)]⟩
   refine rl_nil <| run_seq <| run_seq <| run_region <| rl_v rfl rfl rfl (ov_move rfl rfl) <| rl_v rfl rfl rfl (ov_geq rfl rfl rfl) <| rl_nil <| Run.keep [0, 1, 5, 6, 7, 31, 32, 33, 43] (F' := [(0, _), (1, _), (5, _), (6, _), (7, _), (31, _), (32, _), (33, _), (43, _)]) rfl <| run_join1 (fun (z : Nat) => []) [0, 1, 5, 6, 7, 31, 32, 33] (fun (z : Nat) (w62 : World) => ∃ (gv : Int → Value) (cg : Option Blk) (T : List (Option Blk)), IRow (.slice ga1 f.n gc1) 23 f.n gv cg ∧ (∀ r : Int, 0 ≤ r → r < f.n → RdQ w.heap.size w T (gv r) ((f.cut l ((k + 1 : Nat) : Int) f.bl).gl r) ((f.cut l ((k + 1 : Nat) : Int) f.bl).ge r)) ∧ Own w.heap.size w w62 (some (lch fb 27 [.slice ga1 f.n gc1, .slice ba1 f.m bc1, .slice qa f.m qc]) :: cb :: cg :: T)) (fun hk63 => ?_) ?_
   ·first | refine run_cond_dec rfl (fun c2 => ?_) (fun c2 => ?_) | refine run_cond rfl (fun c2 => ?_) (fun c2 => ?_)
    ·refine run_region <| rl_v rfl rfl rfl (ov_fieldS rfl Tryz.underlying27 rfl (fo := 0) rfl (by kernel_rfl) rfl) ?_
     refine rl_v rfl rfl rfl (ov_load rfl Tryz.underlying22 rfl rfl (by exact hO60.cellL 0 rfl (off := 0) rfl)) ?_
     refine rl_v rfl rfl rfl (ov_move rfl rfl) <| rl_v rfl rfl rfl (ov_move rfl rfl) <| rl_ow rfl (ow_one rfl rfl rfl Tryz.underlying23 info_3 rfl hO60 rfl rfl) ?_
     rintro _ w64 ⟨bx, rfl, hO65, hs66⟩
     refine rl_v rfl rfl rfl (ov_index1 rfl Tryz.underlying22 (by kernel_rfl) rfl rfl ⟨by omega, by omega⟩ (by exact (id hgb'))) ?_
     refine rl_ow rfl (ow_storeI1 rfl rfl (by kernel_rfl) hO65 3 hrg1 rfl hgb rfl ⟨by omega, by omega⟩ rfl rfl) ?_
     rintro _ w67 ⟨c8, rfl, hO68, hrg2, hs69⟩
     have hlk : (f.cut l ((k + 1 : Nat) : Int) f.bl).gl k = 1 := by rw [Fair.cut_gl_lo (by omega), if_neg (by omega)]
     have hG2 : ∀ r : Int, 0 ≤ r → r < f.n → RdQ w.heap.size w (some (vch bx 3 1 (fun _ => iv (l k))) :: T) (upd (upd gv (k : Int) (.slice none 0 0)) (k : Int) (.slice (some ⟨bx, 0, none⟩) 1 1) r) ((f.cut l ((k + 1 : Nat) : Int) f.bl).gl r) ((f.cut l ((k + 1 : Nat) : Int) f.bl).ge r) := fun r r0 r1 => by
      by_cases e : r = k
      ·rw [e, upd_same, hlk]
       exact ⟨_, _, rfl, fun w' hO => (hO.readsI 0 rfl).congr fun j _ _ => congrArg iv (if_pos (show (k : Int) < ((k + 1 : Nat) : Int) by omega)).symm⟩
      ·rw [upd_ne _ _ e, upd_ne _ _ e, (hne r e).1, (hne r e).2]
       exact (hG r r0 r1).cons _
     refine rl_nil ?_
     refine Run.use (hk63 (0) _ ?_) (And.intro rfl (And.intro rfl (And.intro rfl (And.intro rfl (And.intro rfl (And.intro rfl (And.intro rfl (And.intro rfl trivial))))))))
     exact ⟨_, _, _, hrg2, hG2, hO68.perm p3x⟩
    ·have hlk : (f.cut l ((k + 1 : Nat) : Int) f.bl).gl k = 0 := by rw [Fair.cut_gl_lo (by omega), if_pos (by omega)]
     have hG2 : ∀ r : Int, 0 ≤ r → r < f.n → RdQ w.heap.size w T (upd gv (k : Int) (.slice none 0 0) r) ((f.cut l ((k + 1 : Nat) : Int) f.bl).gl r) ((f.cut l ((k + 1 : Nat) : Int) f.bl).ge r) := fun r r0 r1 => by
      by_cases e : r = k
      ·rw [e, upd_same, hlk]
       exact ⟨_, _, rfl, fun w' hO => IAt.nil _ _ _ _⟩
      ·rw [upd_ne _ _ e, (hne r e).1, (hne r e).2]
       exact hG r r0 r1
     refine run_skip ?_
     refine Run.use (hk63 (0) _ ?_) (And.intro rfl (And.intro rfl (And.intro rfl (And.intro rfl (And.intro rfl (And.intro rfl (And.intro rfl (And.intro rfl trivial))))))))
     exact ⟨_, _, _, hrg1, hG2, hO60⟩
   ·intro z w62 hJw62
    obtain ⟨gv, cg, T, hrg, hG, hOk⟩ := hJw62
    show Run _ _ _ _ [(0, _), (1, _), (5, _), (6, _), (7, _), (31, _), (32, _), (33, _)] _ _
    have hrl := rk_rng (f.ge k) (l k) (f.gl k)
    change 0 ≤ f.rg k (l k) ∧ f.rg k (l k) ≤ f.gl k at hrl
    have hCJ : f.CutS (f.preJ l (k : Int) 0) bl := hC.congr fun i b b0 b1 => ⟨fun h => h.elim id fun ⟨_, h⟩ => by have := rk_rng (f.ge k) b (f.gl k); change 0 ≤ f.rg k b ∧ f.rg k b ≤ f.gl k at this; omega, fun h => .inl h⟩
    have hfin : ∀ {j : Int} {bl : Int → Nat}, f.CutS (f.preJ l (k : Int) j) bl → j = f.rg k (l k) → f.CutS (f.pre l ((k + 1 : Nat) : Int)) bl := fun hc hj => hc.congr fun i b b0 b1 => Fair.pre_next (by omega) hj i b b0 b1
    have hra0 : 0 < f.gl k → gA k = some ⟨RB k, RO k, none⟩ := hra k (by omega) (by omega)
    have hglk := hV.sm.gl k (by omega) (by omega)
    refine run_seq <| run_region <| rl_v rfl rfl rfl (ov_move rfl rfl) <| rl_v rfl rfl rfl (ov_nil rfl rfl) <| rl_v rfl rfl rfl (ov_fieldS rfl Tryz.underlying100 rfl (fo := 0) rfl (by kernel_rfl) rfl) ?_
    refine rl_v rfl rfl rfl (ov_fieldS rfl Tryz.underlying27 rfl (fo := 0) rfl (by kernel_rfl) rfl) ?_
    refine rl_v rfl rfl rfl (ov_load rfl Tryz.underlying22 rfl rfl (by exact hld _ hOk.below rfl)) ?_
    refine rl_v rfl rfl rfl (ov_move rfl rfl) <| rl_v rfl rfl rfl (ov_index1 rfl Tryz.underlying22 (by kernel_rfl) rfl rfl ⟨by omega, by omega⟩ (by exact hga (by omega))) ?_
    refine rl_v rfl rfl rfl (ov_load rfl Tryz.underlying23 rfl rfl (by exact hrow _ hOk.below _ (by omega) (by omega))) ?_
    refine rl_v rfl rfl rfl (ov_len rfl Tryz.underlying23 rfl) <| rl_v rfl rfl rfl (ov_move rfl rfl) <| rl_nil <| run_block <| Run.keep [0, 1, 5, 6, 7, 31, 32, 33, 57, 58, 59] (F' := [(0, _), (1, _), (5, _), (6, _), (7, _), (31, _), (32, _), (33, _), (57, _), (58, _), (59, _)]) rfl <| run_loop1 (fun (j : Int) => [(59, .int .i64 j)]) [0, 1, 5, 6, 7, 31, 32, 33, 57, 58] (fun (j : Int) (w70 : World) => 0 ≤ j ∧ j ≤ f.gl k ∧ j ≤ f.rg k (l k) ∧ ∃ (bl : Int → Nat) (cb : Option Blk), IRow (.slice ba1 f.m bc1) 23 f.m (fun r => .slice (bA r) (bl r) (bC r)) cb ∧ f.CutS (f.preJ l (k : Int) j) bl ∧ Own w.heap.size w w70 (some (lch fb 27 [.slice ga1 f.n gc1, .slice ba1 f.m bc1, .slice qa f.m qc]) :: cb :: cg :: T)) (fun (j : Int) => ((f.gl k : Int) - j).toNat) (0) ?_ (And.intro (by exact slot_int rfl (by first | omega)) (And.intro rfl (And.intro rfl (And.intro rfl (And.intro rfl (And.intro rfl (And.intro rfl (And.intro rfl (And.intro rfl (And.intro rfl (And.intro rfl trivial))))))))))) ?_
    ·exact ⟨Int.le_refl _, by omega, hrl.1, bl, cb, hrb, hCJ, hOk⟩
    intro j w70 hIw70 ih71
    obtain ⟨hj0, hj1, hj2, bl, cb, hrb, hCJ, hO⟩ := hIw70
    show Run _ _ _ _ [(59, _), (0, _), (1, _), (5, _), (6, _), (7, _), (31, _), (32, _), (33, _), (57, _), (58, _)] _ _
    refine run_seq <| run_region <| rl_v rfl rfl rfl (ov_lss rfl rfl rfl) <| rl_nil <| run_seq ?_
    first | refine run_cond_dec rfl (fun c3 => ?_) (fun c3 => ?_) | refine run_cond rfl (fun c3 => ?_) (fun c3 => ?_)
    ·refine run_skip <| run_seq <| run_block <| run_seq <| run_region <| rl_v rfl rfl rfl (ov_index1 rfl Tryz.underlying23 (by kernel_rfl) rfl rfl ⟨by omega, by omega⟩ (by exact hra0 (by omega))) ?_
     refine rl_v rfl rfl rfl (ov_load rfl Tryz.underlying3 rfl rfl (by exact hel _ hO.below k (by omega) (by omega) j hj0 c3)) ?_
     refine rl_v rfl rfl rfl (ov_assign rfl rfl) <| rl_nil <| run_seq <| run_seq <| run_region <| rl_v rfl rfl rfl (ov_move rfl rfl) <| rl_v rfl rfl rfl (ov_move rfl rfl) <| rl_v rfl rfl rfl (ov_eql rfl rfl rfl) <| rl_nil ?_
     first | refine run_cond_dec rfl (fun c4 => ?_) (fun c4 => ?_) | refine run_cond rfl (fun c4 => ?_) (fun c4 => ?_)
     ·have hjr : f.rg k (l k) = j := rk_of (n := f.gl k) (hf.gd k (by omega) (by omega)) hj0 c3 c4
      refine run_exit rfl <| run_inBlock <| run_region <| rl_v rfl rfl rfl (ov_add rfl rfl rfl (by omega)) ?_
      refine rl_v rfl rfl rfl (ov_move rfl rfl) <| rl_nil ?_
      refine Run.use (ih58 (k + 1) _ ?_ ?_) (And.intro (by exact slot_int rfl (by first | omega)) (And.intro rfl (And.intro rfl (And.intro rfl (And.intro rfl (And.intro rfl trivial))))))
      ·first | omega | (dsimp only; omega)
      ·exact ⟨by omega, gv, cg, bl, cb, T, hrg, hG, hrb, hfin hCJ hjr.symm, hO⟩
     ·have hbr := hf.gr k j (by omega) (by omega) hj0 c3
      have hlt : j < f.rg k (l k) := by
       rcases Int.lt_or_eq_of_le hj2 with h | h
       ·exact h
       ·have h2 := rk_at (f := f.ge k) (n := f.gl k) (x := l k) (show f.rg k (l k) < f.gl k by omega)
        change f.ge k (f.rg k (l k)) = l k at h2
        rw [← h] at h2
        exact absurd h2 c4
      have hlb := rkL_lkp (E := f.be (f.ge k j)) (x := (k : Int)) (hf.bd (f.ge k j) hbr.1 hbr.2)
      refine run_skip <| run_seq <| run_region <| rl_v rfl rfl rfl (ov_move rfl rfl) <| rl_v rfl rfl rfl (ov_nil rfl rfl) <| rl_v rfl rfl rfl (ov_fieldS rfl Tryz.underlying100 rfl (fo := 4) rfl (by kernel_rfl) rfl) ?_
      refine rl_v rfl rfl rfl (ov_load rfl Tryz.underlying98 rfl rfl (by exact hld _ hO.below rfl)) ?_
      refine rl_v rfl rfl rfl (ov_move rfl rfl) <| rl_v rfl rfl rfl (ov_index1 rfl Tryz.underlying98 (by kernel_rfl) rfl rfl ⟨by omega, by omega⟩ (by exact hqa (by omega))) ?_
      refine rl_v rfl rfl rfl (ov_load rfl Tryz.underlying97 rfl rfl (by exact hqrow _ hO.below _ hbr.1 hbr.2)) ?_
      refine rl_v rfl rfl rfl (ov_move rfl rfl) <| rl_v rfl rfl rfl (ov_lookR2 rfl Tryz.underlying97 Tryz.underlying3 rfl rfl rfl (hnap _ hO.below _ hbr.1 hbr.2) hlb) <| rl_v rfl rfl rfl (ov_move rfl rfl) <| rl_v rfl rfl rfl (ov_extract rfl rfl (by rfl)) ?_
      refine rl_v rfl rfl rfl (ov_extract rfl rfl (by rfl)) ?_
      refine rl_v rfl rfl rfl (ov_assign rfl rfl) <| rl_v rfl rfl rfl (ov_assign rfl rfl) <| rl_nil <| run_seq <| run_region <| rl_v rfl rfl rfl (ov_move rfl rfl) <| rl_nil ?_
      first | refine run_cond_dec rfl (fun c5 => ?_) (fun c5 => ?_) | refine run_cond rfl (fun c5 => ?_) (fun c5 => ?_)
      ·obtain ⟨r, hr⟩ : ∃ r : Nat, (r : Int) = f.rb (f.ge k j) k := ⟨_, Int.toNat_of_nonneg (rk_rng _ _ _).1⟩
       have hre : (if rk (f.be (f.ge k j)) (f.bl (f.ge k j)) k < (f.bl (f.ge k j) : Int) then rk (f.be (f.ge k j)) (f.bl (f.ge k j)) k else 0) = (r : Int) := (if_pos c5).trans hr.symm
       have hcp := hroom (f.ge k j) hbr.1 hbr.2
       have hble := hCJ.le (f.ge k j) hbr.1 hbr.2
       have hm2 : ((min r (bl (f.ge k j)) : Nat) : Int) = min (r : Int) (bl (f.ge k j) : Int) := by omega
       obtain ⟨bbk, hbb⟩ := hrb.addr
       have hbb' := hbb (by omega)
       refine run_tail 18 mixed (by kernel_rfl) ?_
       have hO73 := hO.drew
       generalize World.drew w70 = w72 at hO73 ⊢
       refine rt_v rfl rfl rfl (ov_fieldS rfl Tryz.underlying27 rfl (fo := 1) rfl (by kernel_rfl) rfl) ?_
       refine rt_v rfl rfl rfl (ov_load rfl Tryz.underlying22 rfl rfl (by exact hO73.cellL 0 rfl (off := 1) rfl)) ?_
       refine rt_v rfl rfl rfl (ov_move rfl rfl) <| rt_v rfl rfl rfl (ov_fieldS rfl Tryz.underlying27 rfl (fo := 1) rfl (by kernel_rfl) rfl) ?_
       refine rt_v rfl rfl rfl (ov_load rfl Tryz.underlying22 rfl rfl (by exact hO73.cellL 0 rfl (off := 1) rfl)) ?_
       refine rt_v rfl rfl rfl (ov_move rfl rfl) <| rt_v rfl rfl rfl (ov_index1 rfl Tryz.underlying22 (by kernel_rfl) rfl rfl ⟨by omega, by omega⟩ (by exact (id hbb'))) ?_
       refine rt_v rfl rfl rfl (ov_load rfl Tryz.underlying23 rfl rfl (by exact IRow.cellA hrb hO73 1 rfl hbb' (i := f.ge k j) hbr.1 hbr.2)) ?_
       refine rt_v rfl rfl rfl (ov_move rfl rfl) <| rt_v rfl rfl rfl (ov_fieldS rfl Tryz.underlying27 rfl (fo := 1) rfl (by kernel_rfl) rfl) ?_
       refine rt_v rfl rfl rfl (ov_load rfl Tryz.underlying22 rfl rfl (by exact hO73.cellL 0 rfl (off := 1) rfl)) ?_
       refine rt_v rfl rfl rfl (ov_move rfl rfl) <| rt_v rfl rfl rfl (ov_index1 rfl Tryz.underlying22 (by kernel_rfl) rfl rfl ⟨by omega, by omega⟩ (by exact (id hbb'))) ?_
       refine rt_v rfl rfl rfl (ov_load rfl Tryz.underlying23 rfl rfl (by exact IRow.cellA hrb hO73 1 rfl hbb' (i := f.ge k j) hbr.1 hbr.2)) ?_
       refine rt_v rfl rfl rfl (ov_len rfl Tryz.underlying23 rfl) <| rt_v rfl rfl rfl (ov_min rfl rfl rfl) <| rt_v rfl rfl rfl (ov_sliceH (min r (bl (f.ge k j))) (s := 1) rfl Tryz.underlying23 (by kernel_rfl) rfl rfl (by omega) (by omega)) ?_
       refine rt_v rfl rfl rfl (ov_index1 rfl Tryz.underlying22 (by kernel_rfl) rfl rfl ⟨by omega, by omega⟩ (by exact (id hbb'))) ?_
       refine rt_nil <| rl_ow rfl (ow_storeI1 rfl rfl (by kernel_rfl) hO73 1 hrb rfl hbb rfl ⟨by omega, by omega⟩ rfl rfl) ?_
       rintro _ w74 ⟨c7, rfl, hO75, hrb7, hs76⟩
       have hC7 := hCJ.take (S' := f.preJ l (k : Int) (j + 1)) hbr.1 hbr.2 hr c5 (Fair.preJ_step hf (by omega) (by omega) hj0 c3)
       refine rl_nil <| run_inBlock <| run_region <| rl_v rfl rfl rfl (ov_add rfl rfl rfl (by omega)) ?_
       refine rl_v rfl rfl rfl (ov_move rfl rfl) <| rl_nil ?_
       refine Run.use (ih71 (j + 1) _ ?_ ?_) (And.intro (by exact slot_int rfl (by first | omega)) (And.intro rfl (And.intro rfl (And.intro rfl (And.intro rfl (And.intro rfl (And.intro rfl (And.intro rfl (And.intro rfl (And.intro rfl (And.intro rfl trivial)))))))))))
       ·first | omega | (dsimp only; omega)
       ·exact ⟨by omega, by omega, by omega, _, c7, hrb7.congr (fun x _ _ => by unfold upd; split; (rename_i e; rw [e]); rfl), hC7, hO75⟩
      ·have hC7 := hCJ.skip (S' := f.preJ l (k : Int) (j + 1)) c5 (Fair.preJ_step hf (by omega) (by omega) hj0 c3)
       refine run_skip <| run_inBlock <| run_region <| rl_v rfl rfl rfl (ov_add rfl rfl rfl (by omega)) ?_
       refine rl_v rfl rfl rfl (ov_move rfl rfl) <| rl_nil ?_
       refine Run.use (ih71 (j + 1) _ ?_ ?_) (And.intro (by exact slot_int rfl (by first | omega)) (And.intro rfl (And.intro rfl (And.intro rfl (And.intro rfl (And.intro rfl (And.intro rfl (And.intro rfl (And.intro rfl (And.intro rfl (And.intro rfl trivial)))))))))))
       ·first | omega | (dsimp only; omega)
       ·exact ⟨by omega, by omega, by omega, bl, cb, hrb, hC7, hO⟩
    ·refine run_exit rfl <| run_inBlock <| run_region <| rl_v rfl rfl rfl (ov_add rfl rfl rfl (by omega)) ?_
     refine rl_v rfl rfl rfl (ov_move rfl rfl) <| rl_nil ?_
     refine Run.use (ih58 (k + 1) _ ?_ ?_) (And.intro (by exact slot_int rfl (by first | omega)) (And.intro rfl (And.intro rfl (And.intro rfl (And.intro rfl (And.intro rfl trivial))))))
     ·first | omega | (dsimp only; omega)
     ·exact ⟨by omega, gv, cg, bl, cb, T, hrg, hG, hrb, hfin hCJ (by omega), hO⟩
  ·obtain rfl : k = q := by omega
   have hcut := hC.cut
   have hok := Fair.cut_ok hf hcut fun i i0 i1 => (hlr i i0 i1).2
   have hsm2 : (f.cut l (k : Int) bl).Sm := ⟨hV.sm.n, hV.sm.m, fun g g0 g1 => by
    by_cases c : g < k
    ·rw [Fair.cut_gl_lo c]; split <;> omega
    ·rw [Fair.cut_gl_hi c]; exact hV.sm.gl g g0 g1, fun b b0 b1 => Nat.le_trans (hC.le b b0 b1) (hV.sm.bl b b0 b1), hV.sm.q⟩
   refine run_exit rfl <| run_seq <| run_region <| rl_v rfl rfl rfl (ov_loadW rfl Tryz.underlying27 rfl (by kernel_rfl) rfl hO 0 rfl) ?_
   refine rl_call callable_40 rfl rfl rfl rfl rfl rfl (newTables_any ga1 ba1 qa gc1 bc1 qc (f.cut l (k : Int) bl) _ hsm2 ⟨RdQ.tab hG (hrg.reads hO 2 rfl) hO.tail.tail.tail, RdQ.tab (T := T) (fun b b0 b1 => RdQ.old (hb2 b b0 b1) (hC.le b b0 b1)) (hrb.reads hO 1 rfl) hO.tail.tail.tail, hO.iatF hF.q⟩) (fun e77 w78 hp79 => ?_)
   obtain ⟨tb2, H2, rfl, hO2, hP2⟩ := hp79
   refine ⟨_, rfl, ?_⟩
   have hO80 := hO.join hO2
   refine rl_call callable_42 rfl rfl rfl rfl rfl rfl (offered_any tb2 (f.cut l (k : Int) bl) _ hok hsm2 hP2) (fun e81 w82 hp83 => ?_)
   obtain ⟨o1, o, nx, rfl, hO3, hD, hE⟩ := hp83
   refine ⟨_, rfl, ?_⟩
   have hO84 := hO80.join hO3
   have hB := hD.isBest hok hE
   have hcn : (f.cut l (k : Int) bl).n = f.n := rfl
   refine rl_v rfl rfl rfl (ov_assign rfl rfl) <| rl_nil <| run_seq <| run_region <| rl_v rfl rfl rfl (ov_move rfl rfl) <| rl_v rfl rfl rfl (ov_move rfl rfl) <| rl_v rfl rfl rfl (ov_len rfl Tryz.underlying23 rfl) <| rl_v rfl rfl rfl (ov_sliceH (k) (s := 1) rfl Tryz.underlying23 (by kernel_rfl) rfl rfl (by rfl) (by omega)) ?_
   refine rl_v rfl rfl rfl (ov_move rfl rfl) ?_
   refine rl_call callable_113 rfl rfl rfl rfl rfl rfl (equal5_any (some ⟨o1, 0, none⟩) la k f.n k lc o l _ (by omega) ((hO84.readsI 0 rfl).take hq) (hO84.iatF hl)) (fun e85 w86 hp87 => ?_)
   obtain ⟨⟨b1, rfl, hb1⟩, hbl1⟩ := hp87
   refine ⟨_, rfl, ?_⟩
   have hO88 := hO84.past hbl1
   refine rl_v rfl rfl rfl (ov_move rfl rfl) ?_
   first | refine rl_split_dec 108 rfl (fun g1 => ?_) (fun g1 => ?_) | refine rl_split 108 rfl (fun g1 => ?_) (fun g1 => ?_)
   ·refine rl_gv rfl rfl rfl rfl rfl (ov_move rfl rfl) <| rl_gv rfl rfl rfl rfl rfl (ov_move rfl rfl) ?_
    refine rl_gcall callable_56 rfl rfl rfl rfl rfl rfl rfl rfl (stable5_any tb (some ⟨o1, 0, none⟩) f.n f.n f o _ hV (hO88.pt hpt) (by omega) (hO88.readsI 0 rfl)) (fun e90 w91 hp92 => ?_)
    obtain ⟨⟨b2, rfl, hb2⟩, hbl2⟩ := hp92
    refine ⟨_, rfl, ?_⟩
    have hO93 := hO88.past hbl2
    have hres : b2 = dB (∃ s, f.Stab s ∧ ∀ i : Int, 0 ≤ i → i < k → s i = l i) := by
     cases e : b2
     ·cases e2 : dB (∃ s, f.Stab s ∧ ∀ i : Int, 0 ≤ i → i < k → s i = l i)
      ·rfl
      ·obtain ⟨s, hs, hsl⟩ := dB_iff.1 e2
       have := hb2.2 ⟨rfl, (Fair.cut_best hf hcut hs hsl (by omega) hB).2⟩
       rw [e] at this
       exact Bool.noConfusion this
     ·exact (dB_iff.2 ⟨o, (hb2.1 e).2, (hb1.1 g1).2⟩).symm
    refine rl_v rfl rfl rfl (ov_pick_t rfl rfl rfl) <| rl_v rfl rfl rfl (ov_assign rfl rfl) <| rl_nil <| run_ret Tryz.func77 (res1 Tryz.results77 rfl) ?_
    exact ⟨congrArg (fun x => Ending.returned (.bool x)) hres, hO93.below⟩
   ·have hres : dB (∃ s, f.Stab s ∧ ∀ i : Int, 0 ≤ i → i < k → s i = l i) = false := by
     cases e2 : dB (∃ s, f.Stab s ∧ ∀ i : Int, 0 ≤ i → i < k → s i = l i)
     ·rfl
     ·obtain ⟨s, hs, hsl⟩ := dB_iff.1 e2
      have := hb1.2 ⟨rfl, (Fair.cut_best hf hcut hs hsl (by omega) hB).1⟩
      rw [this] at g1
      exact Bool.noConfusion g1
    refine rl_gskip rfl rfl rfl rfl rfl rfl <| rl_gskip rfl rfl rfl rfl rfl rfl <| rl_gskip rfl rfl rfl rfl rfl rfl <| rl_v rfl rfl rfl (ov_pick_f rfl rfl rfl) <| rl_v rfl rfl rfl (ov_assign rfl rfl) <| rl_nil <| run_ret Tryz.func77 (res1 Tryz.results77 rfl) ?_
    exact ⟨congrArg (fun x => Ending.returned (.bool x)) hres.symm, hO88.below⟩
end Go.Proofs.YtlldeifbfpmbaaaGreat
