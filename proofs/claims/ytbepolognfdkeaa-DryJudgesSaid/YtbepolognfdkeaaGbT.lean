import Derived.Test.YtbepolognfdkeaaGbS
set_option maxRecDepth 100000
namespace Go.Proofs.Ytbepolognfdkeaa
open Go.RowKit Go.Proofs Go.MapKept
def hrF (A B : Int → Int) : Int → List Value := fun k => [iv (A k), iv (B k)]
theorem within7_any (l : Lds) (i : Int) (ha : Option Addr) (hn hc : Nat) (A B : Int → Int) (w : World) (hi : 0 ≤ l.r i ∧ l.r i ≤ 1000000000 ∧ 0 ≤ l.d i ∧ l.d i ≤ 1000000000) (hN : hn ≤ 1000000) (hA : ∀ k : Int, 0 ≤ k → k < hn → 0 ≤ A k ∧ A k < B k ∧ B k ≤ 1000000) (hh : SAt w.heap.size w ha 2 hn (hrF A B)) :
  Calls Try.prog 54 #[.agg (ldF l i).toArray, .slice ha hn hc] w fun e w' => e = .returned (iv (wthn l hn A B i)) ∧ Own w.heap.size w w' [] := by
 obtain ⟨hb, ho, hha, hhr⟩ := hh.open (by decide)
 refine calls_of_run (F := [(0, _), (1, _)]) Try.func54 rfl Try.ntmps54 rfl rfl ?_
 have hO0 := Own.init w
 refine run_seq <| run_region <| rl_ow rfl (ow_box _ rfl rfl rfl rfl rfl hO0) ?_
 rintro _ w1 ⟨b2, rfl, hO2, hs3⟩
 have hOb : Own w.heap.size w w1 [some (lch b2 72 (ldF l i))] := hO2
 refine rl_v rfl rfl rfl (ov_assign rfl rfl) <| rl_nil <| run_seq <| run_region <| rl_v rfl rfl rfl (ov_assign rfl rfl) <| rl_nil <| run_seq <| run_seq <| run_region <| rl_v rfl rfl rfl (ov_assign rfl rfl) <| rl_nil <| run_block <| Run.keep [1, 2, 5, 6] (F' := [(1, _), (2, _), (5, _), (6, _)]) rfl <| run_loop2 (fun (k : Nat) (m : Int) => [(6, .int .i64 (k : Int)), (5, .int .i64 m)]) [1, 2] (fun (k : Nat) (m : Int) (w4 : World) => k ≤ hn ∧ m = sm (fun k => ovl (A k) (B k) (l.r i) (l.d i)) k ∧ Own w.heap.size w w4 [some (lch b2 72 (ldF l i))]) (fun (k : Nat) (m : Int) => hn - k) (0) (0) ?_ (And.intro (by exact slot_int rfl (by first | omega)) (And.intro (by exact slot_int rfl (by first | omega)) (And.intro rfl (And.intro rfl trivial)))) ?_
 ·exact ⟨Nat.zero_le _, rfl, hOb⟩
 intro k m w4 hIw4 ih5
 obtain ⟨hk, hm, hO1⟩ := hIw4
 show Run _ _ _ _ [(6, _), (5, _), (1, _), (2, _)] _ _
 refine run_seq <| run_seq <| run_region <| rl_v rfl rfl rfl (ov_move rfl rfl) <| rl_v rfl rfl rfl (ov_move rfl rfl) <| rl_v rfl rfl rfl (ov_len rfl Try.underlying48 rfl) <| rl_v rfl rfl rfl (ov_lss rfl rfl rfl) <| rl_nil ?_
 first | refine run_cond_dec rfl (fun c1 => ?_) (fun c1 => ?_) | refine run_cond rfl (fun c1 => ?_) (fun c1 => ?_)
 ·have hab := hA k (by omega) c1
  have hm0 : 0 ≤ m := by rw [hm]; exact sm_nonneg fun a _ _ => by unfold ovl; omega
  have hm1 : m ≤ k * 1000000000 := by rw [hm]; exact sm_bound _ (by omega) fun a a0 a1 => by have := hA a a0 (by omega); unfold ovl; omega
  have hms : m + max 0 (min (l.d i) (B k) - max (l.r i) (A k)) = sm (fun k => ovl (A k) (B k) (l.r i) (l.d i)) ((k + 1 : Nat) : Int) := by
   rw [show ((k + 1 : Nat) : Int) = (k : Int) + 1 by omega, sm_succ _ (by omega), ← hm]; unfold ovl; omega
  refine run_skip <| run_seq <| run_block <| run_quiet mixed (by kernel_rfl) ?_
  refine rq_v rfl rfl rfl (fun _ => ov_move rfl rfl) ?_
  refine rq_v rfl rfl rfl (fun _ => ov_fieldS rfl Try.underlying72 rfl (fo := 1) rfl (by kernel_rfl) rfl) ?_
  refine rq_v rfl rfl rfl (fun _ => ov_load rfl Try.underlying3 rfl rfl (by show World.cell? w4 _ = _; first | exact hO1.cellL 0 rfl (off := 1) rfl)) ?_
  refine rq_v rfl rfl rfl (fun _ => ov_move rfl rfl) ?_
  refine rq_v rfl rfl rfl (fun _ => ov_move rfl rfl) ?_
  refine rq_v rfl rfl rfl (fun _ => ov_index rfl Try.underlying48 (by kernel_rfl) (s := 2) rfl rfl ⟨by omega, by omega⟩ (by exact hha (by omega))) ?_
  refine rq_v rfl rfl rfl (fun _ => ov_indexA1 rfl Try.underlying89 (by kernel_rfl) rfl rfl ⟨by omega, by omega⟩) ?_
  refine rq_v rfl rfl rfl (fun _ => ov_load rfl Try.underlying3 rfl rfl (by show World.cell? w4 _ = _; first | exact hhr _ hO1.below k (by omega) c1 1 (by decide))) ?_
  refine rq_v rfl rfl rfl (fun _ => ov_min rfl rfl rfl) ?_
  refine rq_v rfl rfl rfl (fun _ => ov_fieldS rfl Try.underlying72 rfl (fo := 0) rfl (by kernel_rfl) rfl) ?_
  refine rq_v rfl rfl rfl (fun _ => ov_load rfl Try.underlying3 rfl rfl (by show World.cell? w4 _ = _; first | exact hO1.cellL 0 rfl (off := 0) rfl)) ?_
  refine rq_v rfl rfl rfl (fun _ => ov_move rfl rfl) ?_
  refine rq_v rfl rfl rfl (fun _ => ov_move rfl rfl) ?_
  refine rq_v rfl rfl rfl (fun _ => ov_index rfl Try.underlying48 (by kernel_rfl) (s := 2) rfl rfl ⟨by omega, by omega⟩ (by exact hha (by omega))) ?_
  refine rq_v rfl rfl rfl (fun _ => ov_indexA1 rfl Try.underlying89 (by kernel_rfl) rfl rfl ⟨by omega, by omega⟩) ?_
  refine rq_v rfl rfl rfl (fun _ => ov_load rfl Try.underlying3 rfl rfl (by show World.cell? w4 _ = _; first | exact hhr _ hO1.below k (by omega) c1 0 (by decide))) ?_
  refine rq_v rfl rfl rfl (fun _ => ov_max rfl rfl rfl) ?_
  refine rq_v rfl rfl rfl (fun _ => ov_sub rfl rfl rfl (by omega)) ?_
  refine rq_v rfl rfl rfl (fun _ => ov_max rfl rfl rfl) ?_
  refine rq_v rfl rfl rfl (fun _ => ov_add rfl rfl rfl (by omega)) ?_
  refine rq_v rfl rfl rfl (fun _ => ov_assign rfl rfl) ?_
  refine rq_nil (fun n6 => ?_)
  have hO8 := hO1.drewN n6
  generalize World.drewN w4 n6 = w7 at hO8 ⊢
  refine run_inBlock <| run_region <| rl_v rfl rfl rfl (ov_move rfl rfl) <| rl_v rfl rfl rfl (ov_add rfl rfl rfl (by omega)) ?_
  refine rl_v rfl rfl rfl (ov_assign rfl rfl) <| rl_nil ?_
  refine Run.use (ih5 (k + 1) (m + max 0 (min (l.d i) (B k) - max (l.r i) (A k))) _ ?_ ?_) (And.intro (by exact slot_int rfl (by first | omega)) (And.intro (by exact slot_int rfl (by first | omega)) (And.intro rfl (And.intro rfl trivial))))
  ·first | omega | (dsimp only; omega)
  ·exact ⟨by omega, hms, hO8⟩
 ·have hkn : k = hn := by omega
  rw [hkn] at hm
  refine run_exit rfl <| run_seq <| run_region <| rl_v rfl rfl rfl (ov_move rfl rfl) <| rl_v rfl rfl rfl (ov_assign rfl rfl) <| rl_nil <| run_ret Try.func54 (res1 Try.results54 rfl) ?_
  exact ⟨by rw [hm]; rfl, hO1.tail⟩
noncomputable def sn7 (Y : Int → Int) (c j : Int) : Bool := @decide (∃ a : Int, (0 ≤ a ∧ a < c) ∧ Y a = j) (Classical.propDecidable _)
theorem sn7_iff {Y : Int → Int} {c j : Int} : sn7 Y c j = true ↔ ∃ a : Int, (0 ≤ a ∧ a < c) ∧ Y a = j := by unfold sn7; exact @decide_eq_true_iff _ (Classical.propDecidable _)
theorem sn7_zero (Y : Int → Int) (j : Int) : sn7 Y 0 j = false := by
 rw [← Bool.not_eq_true, sn7_iff]
 rintro ⟨a, ha, _⟩; omega
theorem sn7_step (Y : Int → Int) (c : Nat) (j : Int) : Value.bool (sn7 Y ((c + 1 : Nat) : Int) j) = upd (fun j => Value.bool (sn7 Y c j)) (Y c) (.bool true) j := by
 by_cases e : j = Y c
 ·rw [e, upd_same]
  exact congrArg Value.bool (sn7_iff.2 ⟨c, by omega, rfl⟩)
 ·rw [upd_ne _ _ e]
  refine congrArg Value.bool ?_
  rw [Bool.eq_iff_iff, sn7_iff, sn7_iff]
  constructor
  ·rintro ⟨a, ha, h⟩
   refine ⟨a, ⟨ha.1, ?_⟩, h⟩
   by_cases d : a = c
   ·rw [d] at h; exact absurd h.symm e
   ·omega
  ·rintro ⟨a, ha, h⟩; exact ⟨a, by omega, h⟩
noncomputable instance (l : Lds) (k : Int) (xn : Nat) (Y : Int → Int) (hn : Nat) (A B : Int → Int) : Decidable (Prv l k xn Y hn A B) := Classical.propDecidable _
set_option maxHeartbeats 4000000 in
theorem refProves7_any (la : Option Addr) (lc : Nat) (l : Lds) (kilns : Int) (xa : Option Addr) (xn xc : Nat) (ha : Option Addr) (hn hc : Nat) (Y A B : Int → Int) (w : World) (hnn : l.n ≤ 256) (hV : l.Fit 1000000000) (hk : 0 ≤ kilns ∧ kilns ≤ 1000) (hN : hn ≤ 1000000) (hX : xn ≤ 1000000)
  (hl : SAt w.heap.size w la 4 l.n (ldF l)) (hx : IAt w.heap.size w xa xn (fun j => iv (Y j))) (hh : SAt w.heap.size w ha 2 hn (hrF A B)) :
  Calls Try.prog 27 #[.slice la l.n lc, iv kilns, .agg (crL xa xn xc ha hn hc).toArray] w fun e w' => e = .returned (.bool (decide (Prv l kilns xn Y hn A B))) ∧ Own w.heap.size w w' [] := by
 obtain ⟨lb, lo, hla, hlr⟩ := hl.open (by decide)
 obtain ⟨hb, ho, hha, hhr⟩ := hh.open (by decide)
 obtain ⟨xb, xo, hxa, hxr⟩ := hx.open
 refine calls_of_run (F := [(0, _), (1, _), (2, _)]) Try.func27 rfl Try.ntmps27 rfl rfl ?_
 have hO0 := Own.init w
 refine run_seq <| run_region <| rl_ow rfl (ow_box _ rfl rfl rfl rfl rfl hO0) ?_
 rintro _ w1 ⟨b5, rfl, hO2, hs3⟩
 have hOb : Own w.heap.size w w1 [some (lch b5 50 (crL xa xn xc ha hn hc))] := hO2
 refine rl_v rfl rfl rfl (ov_assign rfl rfl) <| rl_nil <| run_seq <| run_region <| rl_v rfl rfl rfl (ov_move rfl rfl) <| rl_v rfl rfl rfl (ov_len rfl Try.underlying22 rfl) ?_
 refine rl_make (l.n) rfl rfl rfl rfl Try.underlying78 info_4 rfl hOb rfl rfl (by rfl) (by rfl) ⟨by omega, by omega⟩ (fun sb w4 hO5 hs6 => ?_)
 refine rl_v rfl rfl rfl (ov_assign rfl rfl) <| rl_nil <| run_seq <| run_region <| rl_v rfl rfl rfl (ov_assign rfl rfl) <| rl_nil <| run_seq <| run_seq <| run_region <| rl_v rfl rfl rfl (ov_assign rfl rfl) <| rl_nil <| run_block <| Run.keep [0, 1, 5, 7, 8, 9] (F' := [(0, _), (1, _), (5, _), (7, _), (8, _), (9, _)]) rfl <| run_loop2 (fun (i : Nat) (m : Int) => [(9, .int .i64 (i : Int)), (8, .int .i64 m)]) [0, 1, 5, 7] (fun (i : Nat) (m : Int) (w7 : World) => i ≤ hn ∧ m = sm (fun k => B k - A k) i ∧ (∀ k : Int, 0 ≤ k → k < i → (0 ≤ A k ∧ A k < B k ∧ B k ≤ 1000000) ∧ (0 < k → B (k - 1) ≤ A k)) ∧ Own w.heap.size w w7 [some (vch sb 4 l.n (fun _ => .bool false)), some (lch b5 50 (crL xa xn xc ha hn hc))]) (fun (i : Nat) (m : Int) => hn - i) (0) (0) ?_ (And.intro (by exact slot_int rfl (by first | omega)) (And.intro (by exact slot_int rfl (by first | omega)) (And.intro rfl (And.intro rfl (And.intro rfl (And.intro rfl trivial)))))) ?_
 ·exact ⟨Nat.zero_le _, rfl, fun j a b => by omega, hO5⟩
 intro i m w7 hIw7 ih8
 obtain ⟨hi, hm, hA, hO1⟩ := hIw7
 show Run _ _ _ _ [(9, _), (8, _), (0, _), (1, _), (5, _), (7, _)] _ _
 refine run_seq <| run_seq <| run_region <| rl_v rfl rfl rfl (ov_move rfl rfl) <| rl_v rfl rfl rfl (ov_fieldS rfl Try.underlying50 rfl (fo := 1) rfl (by kernel_rfl) rfl) ?_
 refine rl_v rfl rfl rfl (ov_load rfl Try.underlying48 rfl rfl (by exact hO1.cellL 1 rfl (off := 1) rfl)) ?_
 refine rl_v rfl rfl rfl (ov_len rfl Try.underlying48 rfl) <| rl_v rfl rfl rfl (ov_lss rfl rfl rfl) <| rl_nil ?_
 first | refine run_cond_dec rfl (fun c1 => ?_) (fun c1 => ?_) | refine run_cond rfl (fun c1 => ?_) (fun c1 => ?_)
 ·refine run_skip <| run_seq <| run_block <| run_seq <| run_region <| rl_v rfl rfl rfl (ov_fieldS rfl Try.underlying50 rfl (fo := 1) rfl (by kernel_rfl) rfl) ?_
  refine rl_v rfl rfl rfl (ov_load rfl Try.underlying48 rfl rfl (by exact hO1.cellL 1 rfl (off := 1) rfl)) ?_
  refine rl_v rfl rfl rfl (ov_move rfl rfl) <| rl_v rfl rfl rfl (ov_index rfl Try.underlying48 (by kernel_rfl) (s := 2) rfl rfl ⟨by omega, by omega⟩ (by exact hha (by omega))) ?_
  refine rl_v rfl rfl rfl (ov_loadE rfl Try.underlying89 rfl (by kernel_rfl) rfl ⟨by omega, by omega⟩ rfl (hhr _ hO1.below)) ?_
  refine rl_ow rfl (ow_alloc [iv 0, iv 0] rfl rfl rfl zero_89 rfl hO1) ?_
  rintro _ w9 ⟨t10, rfl, hO10, hs11⟩
  refine rl_ow rfl (ow_storeW rfl rfl (by kernel_rfl) hO10 0 rfl rfl (by rfl) rfl (by rfl)) ?_
  rintro _ w12 ⟨rfl, hO13, hs14⟩
  refine rl_nil <| run_seq <| run_seq ?_
  refine run_quiet_join mixed (by kernel_rfl) 60 (.bool (decide (¬ ((0 ≤ A i ∧ A i < B i ∧ B i ≤ 1000000) ∧ (0 < (i : Int) → B ((i : Int) - 1) ≤ A i))))) [0, 1, 5, 7, 8, 9, 10] (fun hk15 => ?_) (fun n16 => ?_)
  ·refine rq_v rfl rfl rfl (fun _ => ov_indexA1 rfl Try.underlying89 (by kernel_rfl) rfl rfl ⟨by omega, by omega⟩) ?_
   refine rq_v rfl rfl rfl (fun _ => ov_load rfl Try.underlying3 rfl rfl (by show World.cell? w12 _ = _; first | exact hO13.cellL 0 rfl (off := 0) rfl)) ?_
   refine rq_v rfl rfl rfl (fun _ => ov_lss rfl rfl rfl) ?_
   refine rq_v rfl rfl rfl (fun _ => ov_move rfl rfl) ?_
   first | refine rq_split_dec 33 rfl (fun hg17 => ?_) (fun hg17 => ?_) | refine rq_split 33 rfl (fun hg17 => ?_) (fun hg17 => ?_)
   ·refine rq_gskip rfl rfl rfl rfl rfl rfl <| rq_gskip rfl rfl rfl rfl rfl rfl <| rq_gskip rfl rfl rfl rfl rfl rfl <| rq_gskip rfl rfl rfl rfl rfl rfl <| rq_gskip rfl rfl rfl rfl rfl rfl <| rq_v rfl rfl rfl (fun _ => ov_pick_t rfl rfl rfl) ?_
    refine rq_v rfl rfl rfl (fun _ => ov_move rfl rfl) ?_
    refine rq_gskip rfl rfl rfl rfl rfl rfl <| rq_gskip rfl rfl rfl rfl rfl rfl <| rq_gskip rfl rfl rfl rfl rfl rfl <| rq_v rfl rfl rfl (fun _ => ov_pick_t rfl rfl rfl) ?_
    refine rq_v rfl rfl rfl (fun _ => ov_move rfl rfl) ?_
    refine rq_gskip rfl rfl rfl rfl rfl rfl <| rq_gskip rfl rfl rfl rfl rfl rfl <| rq_gskip rfl rfl rfl rfl rfl rfl <| rq_gundef rfl rfl rfl rfl rfl <| rq_gundef rfl rfl rfl rfl rfl <| rq_gundef rfl rfl rfl rfl rfl <| rq_gundef rfl rfl rfl rfl rfl <| rq_gundef rfl rfl rfl rfl rfl <| rq_gundef rfl rfl rfl rfl rfl <| rq_gundef rfl rfl rfl rfl rfl <| rq_gundef rfl rfl rfl rfl rfl <| rq_gundef rfl rfl rfl rfl rfl <| rq_gundef rfl rfl rfl rfl rfl <| rq_gskip rfl rfl rfl rfl rfl rfl <| rq_v rfl rfl rfl (fun _ => ov_pick_t rfl rfl rfl) ?_
    refine rq_nil (fun n => hk15 n _ (jbt rfl (by omega)) (And.intro rfl (And.intro rfl (And.intro rfl (And.intro rfl (And.intro rfl (And.intro rfl (And.intro rfl trivial))))))))
   ·refine rq_gv rfl rfl rfl rfl rfl (fun _ => ov_indexA1 rfl Try.underlying89 (by kernel_rfl) rfl rfl ⟨by omega, by omega⟩) ?_
    refine rq_gv rfl rfl rfl rfl rfl (fun _ => ov_load rfl Try.underlying3 rfl rfl (by show World.cell? w12 _ = _; first | exact hO13.cellL 0 rfl (off := 0) rfl)) ?_
    refine rq_gv rfl rfl rfl rfl rfl (fun _ => ov_indexA1 rfl Try.underlying89 (by kernel_rfl) rfl rfl ⟨by omega, by omega⟩) ?_
    refine rq_gv rfl rfl rfl rfl rfl (fun _ => ov_load rfl Try.underlying3 rfl rfl (by show World.cell? w12 _ = _; first | exact hO13.cellL 0 rfl (off := 1) rfl)) ?_
    refine rq_gv rfl rfl rfl rfl rfl (fun _ => ov_geq rfl rfl rfl) ?_
    refine rq_v rfl rfl rfl (fun _ => ov_pick_f rfl rfl rfl) ?_
    refine rq_v rfl rfl rfl (fun _ => ov_move rfl rfl) ?_
    first | refine rq_split_dec 40 rfl (fun hg18 => ?_) (fun hg18 => ?_) | refine rq_split 40 rfl (fun hg18 => ?_) (fun hg18 => ?_)
    ·refine rq_gskip rfl rfl rfl rfl rfl rfl <| rq_gskip rfl rfl rfl rfl rfl rfl <| rq_gskip rfl rfl rfl rfl rfl rfl <| rq_v rfl rfl rfl (fun _ => ov_pick_t rfl rfl rfl) ?_
     refine rq_v rfl rfl rfl (fun _ => ov_move rfl rfl) ?_
     refine rq_gskip rfl rfl rfl rfl rfl rfl <| rq_gskip rfl rfl rfl rfl rfl rfl <| rq_gskip rfl rfl rfl rfl rfl rfl <| rq_gundef rfl rfl rfl rfl rfl <| rq_gundef rfl rfl rfl rfl rfl <| rq_gundef rfl rfl rfl rfl rfl <| rq_gundef rfl rfl rfl rfl rfl <| rq_gundef rfl rfl rfl rfl rfl <| rq_gundef rfl rfl rfl rfl rfl <| rq_gundef rfl rfl rfl rfl rfl <| rq_gundef rfl rfl rfl rfl rfl <| rq_gundef rfl rfl rfl rfl rfl <| rq_gundef rfl rfl rfl rfl rfl <| rq_gskip rfl rfl rfl rfl rfl rfl <| rq_v rfl rfl rfl (fun _ => ov_pick_t rfl rfl rfl) ?_
     refine rq_nil (fun n => hk15 n _ (jbt rfl (by omega)) (And.intro rfl (And.intro rfl (And.intro rfl (And.intro rfl (And.intro rfl (And.intro rfl (And.intro rfl trivial))))))))
    ·refine rq_gv rfl rfl rfl rfl rfl (fun _ => ov_indexA1 rfl Try.underlying89 (by kernel_rfl) rfl rfl ⟨by omega, by omega⟩) ?_
     refine rq_gv rfl rfl rfl rfl rfl (fun _ => ov_load rfl Try.underlying3 rfl rfl (by show World.cell? w12 _ = _; first | exact hO13.cellL 0 rfl (off := 1) rfl)) ?_
     refine rq_gv rfl rfl rfl rfl rfl (fun _ => ov_gtr rfl rfl rfl) ?_
     refine rq_v rfl rfl rfl (fun _ => ov_pick_f rfl rfl rfl) ?_
     refine rq_v rfl rfl rfl (fun _ => ov_move rfl rfl) ?_
     first | refine rq_split_dec 45 rfl (fun hg19 => ?_) (fun hg19 => ?_) | refine rq_split 45 rfl (fun hg19 => ?_) (fun hg19 => ?_)
     ·refine rq_gskip rfl rfl rfl rfl rfl rfl <| rq_gskip rfl rfl rfl rfl rfl rfl <| rq_gskip rfl rfl rfl rfl rfl rfl <| rq_gundef rfl rfl rfl rfl rfl <| rq_gundef rfl rfl rfl rfl rfl <| rq_gundef rfl rfl rfl rfl rfl <| rq_gundef rfl rfl rfl rfl rfl <| rq_gundef rfl rfl rfl rfl rfl <| rq_gundef rfl rfl rfl rfl rfl <| rq_gundef rfl rfl rfl rfl rfl <| rq_gundef rfl rfl rfl rfl rfl <| rq_gundef rfl rfl rfl rfl rfl <| rq_gundef rfl rfl rfl rfl rfl <| rq_gskip rfl rfl rfl rfl rfl rfl <| rq_v rfl rfl rfl (fun _ => ov_pick_t rfl rfl rfl) ?_
      refine rq_nil (fun n => hk15 n _ (jbt rfl (by omega)) (And.intro rfl (And.intro rfl (And.intro rfl (And.intro rfl (And.intro rfl (And.intro rfl (And.intro rfl trivial))))))))
     ·refine rq_gv rfl rfl rfl rfl rfl (fun _ => ov_move rfl rfl) ?_
      refine rq_gv rfl rfl rfl rfl rfl (fun _ => ov_gtr rfl rfl rfl) ?_
      refine rq_gv rfl rfl rfl rfl rfl (fun _ => ov_move rfl rfl) ?_
      first | refine rq_split_dec 48 rfl (fun hg20 => ?_) (fun hg20 => ?_) | refine rq_split 48 rfl (fun hg20 => ?_) (fun hg20 => ?_)
      ·refine rq_gv rfl rfl rfl rfl rfl (fun _ => ov_fieldS rfl Try.underlying50 rfl (fo := 1) rfl (by kernel_rfl) rfl) ?_
       refine rq_gv rfl rfl rfl rfl rfl (fun _ => ov_load rfl Try.underlying48 rfl rfl (by show World.cell? w12 _ = _; first | exact hO13.cellL 2 rfl (off := 1) rfl)) ?_
       refine rq_gv rfl rfl rfl rfl rfl (fun _ => ov_move rfl rfl) ?_
       refine rq_gv rfl rfl rfl rfl rfl (fun _ => ov_sub rfl rfl rfl (by omega)) ?_
       refine rq_gv rfl rfl rfl rfl rfl (fun _ => ov_index rfl Try.underlying48 (by kernel_rfl) (s := 2) rfl rfl ⟨by omega, by omega⟩ (by exact hha (by omega))) ?_
       refine rq_gv rfl rfl rfl rfl rfl (fun _ => ov_indexA1 rfl Try.underlying89 (by kernel_rfl) rfl rfl ⟨by omega, by omega⟩) ?_
       refine rq_gv rfl rfl rfl rfl rfl (fun _ => ov_load rfl Try.underlying3 rfl rfl (by show World.cell? w12 _ = _; first | exact hhr _ hO13.below ((i : Int) - 1) (by omega) (by omega) 1 (by decide))) ?_
       refine rq_gv rfl rfl rfl rfl rfl (fun _ => ov_indexA1 rfl Try.underlying89 (by kernel_rfl) rfl rfl ⟨by omega, by omega⟩) ?_
       refine rq_gv rfl rfl rfl rfl rfl (fun _ => ov_load rfl Try.underlying3 rfl rfl (by show World.cell? w12 _ = _; first | exact hO13.cellL 0 rfl (off := 0) rfl)) ?_
       refine rq_gv rfl rfl rfl rfl rfl (fun _ => ov_gtr rfl rfl rfl) ?_
       refine rq_gv rfl rfl rfl rfl rfl (fun _ => ov_pick_t rfl rfl rfl) ?_
       refine rq_v rfl rfl rfl (fun _ => ov_pick_f rfl rfl rfl) ?_
       refine rq_nil (fun n => hk15 n _ (jbd rfl (by omega)) (And.intro rfl (And.intro rfl (And.intro rfl (And.intro rfl (And.intro rfl (And.intro rfl (And.intro rfl trivial))))))))
      ·refine rq_gskip rfl rfl rfl rfl rfl rfl <| rq_gskip rfl rfl rfl rfl rfl rfl <| rq_gskip rfl rfl rfl rfl rfl rfl <| rq_gskip rfl rfl rfl rfl rfl rfl <| rq_gskip rfl rfl rfl rfl rfl rfl <| rq_gskip rfl rfl rfl rfl rfl rfl <| rq_gskip rfl rfl rfl rfl rfl rfl <| rq_gskip rfl rfl rfl rfl rfl rfl <| rq_gskip rfl rfl rfl rfl rfl rfl <| rq_gskip rfl rfl rfl rfl rfl rfl <| rq_gv rfl rfl rfl rfl rfl (fun _ => ov_pick_f rfl rfl rfl) ?_
       refine rq_v rfl rfl rfl (fun _ => ov_pick_f rfl rfl rfl) ?_
       refine rq_nil (fun n => hk15 n _ (jbf rfl (by omega)) (And.intro rfl (And.intro rfl (And.intro rfl (And.intro rfl (And.intro rfl (And.intro rfl (And.intro rfl trivial))))))))
  ·have hO22 := hO13.drewN n16
   generalize World.drewN w12 n16 = w21 at hO22 ⊢
   show Run _ _ _ _ [(60, _), (0, _), (1, _), (5, _), (7, _), (8, _), (9, _), (10, _)] _ _
   first | refine run_cond_dec rfl (fun c2 => ?_) (fun c2 => ?_) | refine run_cond rfl (fun c2 => ?_) (fun c2 => ?_)
   ·refine run_seq <| run_region <| rl_v rfl rfl rfl (ov_assign rfl rfl) <| rl_nil <| run_ret Try.func27 (res1 Try.results27 rfl) ?_
    exact ⟨by rw [decide_eq_false fun h => c2 (h.hrs i (by omega) c1)], hO22.sub (List.nil_sublist _)⟩
   ·have c2' : (0 ≤ A i ∧ A i < B i ∧ B i ≤ 1000000) ∧ (0 < (i : Int) → B ((i : Int) - 1) ≤ A i) := Classical.not_not.1 c2
    have hA2 : ∀ k : Int, 0 ≤ k → k < ((i + 1 : Nat) : Int) → (0 ≤ A k ∧ A k < B k ∧ B k ≤ 1000000) ∧ (0 < k → B (k - 1) ≤ A k) := fun k k0 k1 => by
     by_cases e : k = (i : Int)
     ·rw [e]; exact c2'
     ·exact hA k k0 (by omega)
    have hm0 : 0 ≤ m := by rw [hm]; exact sm_nonneg fun a a0 a1 => by have := (hA a a0 a1).1; omega
    have hm1 : m ≤ i * 1000000 := by rw [hm]; exact sm_bound _ (by omega) fun a a0 a1 => by have := (hA a a0 a1).1; omega
    have hms : m + B i - A i = sm (fun k => B k - A k) ((i + 1 : Nat) : Int) := by
     rw [show ((i + 1 : Nat) : Int) = (i : Int) + 1 by omega, sm_succ _ (by omega), ← hm]; omega
    refine run_skip <| run_region <| rl_v rfl rfl rfl (ov_move rfl rfl) <| rl_v rfl rfl rfl (ov_indexA1 rfl Try.underlying89 (by kernel_rfl) rfl rfl ⟨by omega, by omega⟩) ?_
    refine rl_v rfl rfl rfl (ov_load rfl Try.underlying3 rfl rfl (by exact hO22.cellL 0 rfl (off := 1) rfl)) ?_
    refine rl_v rfl rfl rfl (ov_add rfl rfl rfl (by omega)) ?_
    refine rl_v rfl rfl rfl (ov_indexA1 rfl Try.underlying89 (by kernel_rfl) rfl rfl ⟨by omega, by omega⟩) ?_
    refine rl_v rfl rfl rfl (ov_load rfl Try.underlying3 rfl rfl (by exact hO22.cellL 0 rfl (off := 0) rfl)) ?_
    refine rl_v rfl rfl rfl (ov_sub rfl rfl rfl (by omega)) ?_
    refine rl_v rfl rfl rfl (ov_assign rfl rfl) <| rl_nil <| run_inBlock <| run_region <| rl_v rfl rfl rfl (ov_move rfl rfl) <| rl_v rfl rfl rfl (ov_add rfl rfl rfl (by omega)) ?_
    refine rl_v rfl rfl rfl (ov_assign rfl rfl) <| rl_nil ?_
    refine Run.use (ih8 (i + 1) (m + B i - A i) _ ?_ ?_) (And.intro (by exact slot_int rfl (by first | omega)) (And.intro (by exact slot_int rfl (by first | omega)) (And.intro rfl (And.intro rfl (And.intro rfl (And.intro rfl trivial))))))
    ·first | omega | (dsimp only; omega)
    ·exact ⟨by omega, hms, hA2, hO22.tail⟩
 ·have hin : i = hn := by omega
  rw [hin] at hm hA
  have hm0 : 0 ≤ m := by rw [hm]; exact sm_nonneg fun a a0 a1 => by have := (hA a a0 a1).1; omega
  have hm1 : m ≤ hn * 1000000 := by rw [hm]; exact sm_bound _ (by omega) fun a a0 a1 => by have := (hA a a0 a1).1; omega
  have hOs := hO1.congrI 0 rfl (G' := fun j => .bool (sn7 Y ((0 : Nat) : Int) j)) (fun v _ _ => congrArg Value.bool (sn7_zero Y v).symm)
  refine run_exit rfl <| run_seq <| run_region <| rl_v rfl rfl rfl (ov_assign rfl rfl) <| rl_nil <| run_seq <| run_seq <| run_region <| rl_v rfl rfl rfl (ov_assign rfl rfl) <| rl_nil <| run_block <| Run.keep [0, 1, 5, 7, 8, 11, 12] (F' := [(0, _), (1, _), (5, _), (7, _), (8, _), (11, _), (12, _)]) rfl <| run_loop2 (fun (c : Nat) (s : Int) => [(12, .int .i64 (c : Int)), (11, .int .i64 s)]) [0, 1, 5, 7, 8] (fun (c : Nat) (s : Int) (w23 : World) => c ≤ xn ∧ s = sm (fun j => max 0 (l.len (Y j) - (l.d (Y j) - l.r (Y j) - wthn l hn A B (Y j)))) c ∧ (0 ≤ s ∧ s ≤ c * 2000000000000000) ∧ (∀ j : Int, 0 ≤ j → j < c → 0 ≤ Y j ∧ Y j < l.n) ∧ (∀ a b : Int, 0 ≤ a → a < b → b < c → Y a ≠ Y b) ∧ Own w.heap.size w w23 [some (vch sb 4 l.n (fun j => .bool (sn7 Y c j))), some (lch b5 50 (crL xa xn xc ha hn hc))]) (fun (c : Nat) (s : Int) => xn - c) (0) (0) ?_ (And.intro (by exact slot_int rfl (by first | omega)) (And.intro (by exact slot_int rfl (by first | omega)) (And.intro rfl (And.intro rfl (And.intro rfl (And.intro rfl (And.intro rfl trivial))))))) ?_
  ·exact ⟨Nat.zero_le _, rfl, by omega, fun j a b => by omega, fun a b c d e => by omega, hOs⟩
  intro c s w23 hIw23 ih24
  obtain ⟨hc0, hs, hs1, hL, hU, hO2⟩ := hIw23
  show Run _ _ _ _ [(12, _), (11, _), (0, _), (1, _), (5, _), (7, _), (8, _)] _ _
  refine run_seq <| run_seq <| run_region <| rl_v rfl rfl rfl (ov_move rfl rfl) <| rl_v rfl rfl rfl (ov_fieldS rfl Try.underlying50 rfl (fo := 0) rfl (by kernel_rfl) rfl) ?_
  refine rl_v rfl rfl rfl (ov_load rfl Try.underlying47 rfl rfl (by exact hO2.cellL 1 rfl (off := 0) rfl)) ?_
  refine rl_v rfl rfl rfl (ov_len rfl Try.underlying47 rfl) <| rl_v rfl rfl rfl (ov_lss rfl rfl rfl) <| rl_nil ?_
  first | refine run_cond_dec rfl (fun c3 => ?_) (fun c3 => ?_) | refine run_cond rfl (fun c3 => ?_) (fun c3 => ?_)
  ·have hdec : Decidable (Y c < 0 ∨ (l.n : Int) ≤ Y c ∨ (∃ a : Int, (0 ≤ a ∧ a < c) ∧ Y a = Y c)) := Classical.propDecidable _
   refine run_skip <| run_seq <| run_block <| run_seq <| run_region <| rl_v rfl rfl rfl (ov_fieldS rfl Try.underlying50 rfl (fo := 0) rfl (by kernel_rfl) rfl) ?_
   refine rl_v rfl rfl rfl (ov_load rfl Try.underlying47 rfl rfl (by exact hO2.cellL 1 rfl (off := 0) rfl)) ?_
   refine rl_v rfl rfl rfl (ov_move rfl rfl) <| rl_v rfl rfl rfl (ov_index1 rfl Try.underlying47 (by kernel_rfl) rfl rfl ⟨by omega, by omega⟩ (by exact hxa (by omega))) ?_
   refine rl_v rfl rfl rfl (ov_load rfl Try.underlying3 rfl rfl (by exact hxr _ hO2.below c (by omega) c3)) ?_
   refine rl_v rfl rfl rfl (ov_assign rfl rfl) <| rl_nil <| run_seq <| run_seq <| run_region_join 93 (.bool (decide (Y c < 0 ∨ (l.n : Int) ≤ Y c ∨ (∃ a : Int, (0 ≤ a ∧ a < c) ∧ Y a = Y c)))) [0, 1, 5, 7, 8, 11, 12, 13] (fun hk25 => ?_) ?_
   ·refine rl_v rfl rfl rfl (ov_move rfl rfl) <| rl_v rfl rfl rfl (ov_lss rfl rfl rfl) <| rl_v rfl rfl rfl (ov_move rfl rfl) ?_
    first | refine rl_split_dec 82 rfl (fun hg26 => ?_) (fun hg26 => ?_) | refine rl_split 82 rfl (fun hg26 => ?_) (fun hg26 => ?_)
    ·refine rl_gskip rfl rfl rfl rfl rfl rfl <| rl_gskip rfl rfl rfl rfl rfl rfl <| rl_gskip rfl rfl rfl rfl rfl rfl <| rl_gskip rfl rfl rfl rfl rfl rfl <| rl_v rfl rfl rfl (ov_pick_t rfl rfl rfl) <| rl_v rfl rfl rfl (ov_move rfl rfl) <| rl_gskip rfl rfl rfl rfl rfl rfl <| rl_gskip rfl rfl rfl rfl rfl rfl <| rl_gskip rfl rfl rfl rfl rfl rfl <| rl_gskip rfl rfl rfl rfl rfl rfl <| rl_v rfl rfl rfl (ov_pick_t rfl rfl rfl) ?_
     refine rl_nil (hk25 _ (jbt rfl (by exact .inl (by omega))) (And.intro rfl (And.intro rfl (And.intro rfl (And.intro rfl (And.intro rfl (And.intro rfl (And.intro rfl (And.intro rfl trivial)))))))))
    ·refine rl_gv rfl rfl rfl rfl rfl (ov_move rfl rfl) <| rl_gv rfl rfl rfl rfl rfl (ov_move rfl rfl) <| rl_gv rfl rfl rfl rfl rfl (ov_len rfl Try.underlying22 rfl) <| rl_gv rfl rfl rfl rfl rfl (ov_geq rfl rfl rfl) <| rl_v rfl rfl rfl (ov_pick_f rfl rfl rfl) <| rl_v rfl rfl rfl (ov_move rfl rfl) ?_
     first | refine rl_split_dec 88 rfl (fun hg27 => ?_) (fun hg27 => ?_) | refine rl_split 88 rfl (fun hg27 => ?_) (fun hg27 => ?_)
     ·refine rl_gskip rfl rfl rfl rfl rfl rfl <| rl_gskip rfl rfl rfl rfl rfl rfl <| rl_gskip rfl rfl rfl rfl rfl rfl <| rl_gskip rfl rfl rfl rfl rfl rfl <| rl_v rfl rfl rfl (ov_pick_t rfl rfl rfl) ?_
      refine rl_nil (hk25 _ (jbt rfl (by exact .inr (.inl (by omega)))) (And.intro rfl (And.intro rfl (And.intro rfl (And.intro rfl (And.intro rfl (And.intro rfl (And.intro rfl (And.intro rfl trivial)))))))))
     ·refine rl_gv rfl rfl rfl rfl rfl (ov_move rfl rfl) <| rl_gv rfl rfl rfl rfl rfl (ov_move rfl rfl) <| rl_gv rfl rfl rfl rfl rfl (ov_index1 rfl Try.underlying78 (by kernel_rfl) rfl rfl ⟨by omega, by omega⟩ (by rfl)) ?_
      refine rl_gv rfl rfl rfl rfl rfl (ov_load rfl Try.underlying4 rfl rfl (by exact hO2.cellI 0 rfl (Y c) (by omega) (by omega))) ?_
      refine rl_v rfl rfl rfl (ov_pick_f rfl rfl rfl) ?_
      refine rl_nil (hk25 _ (jbd rfl (by exact ⟨fun h => .inr (.inr h), fun h => (h.resolve_left (by omega)).resolve_left (by omega)⟩)) (And.intro rfl (And.intro rfl (And.intro rfl (And.intro rfl (And.intro rfl (And.intro rfl (And.intro rfl (And.intro rfl trivial)))))))))
   ·show Run _ _ _ _ [(93, _), (0, _), (1, _), (5, _), (7, _), (8, _), (11, _), (12, _), (13, _)] _ _
    first | refine run_cond_dec rfl (fun c4 => ?_) (fun c4 => ?_) | refine run_cond rfl (fun c4 => ?_) (fun c4 => ?_)
    ·refine run_seq <| run_region <| rl_v rfl rfl rfl (ov_assign rfl rfl) <| rl_nil <| run_ret Try.func27 (res1 Try.results27 rfl) ?_
     exact ⟨by rw [decide_eq_false fun h => by have h1 := h.lds c (by omega) c3; rcases c4 with e | e | ⟨a, ha, e⟩; exact absurd h1.1 (by omega); exact absurd h1.2 (by omega); exact h.uni a c ha.1 ha.2 c3 e], hO2.sub (List.nil_sublist _)⟩
    ·have hv : 0 ≤ Y c ∧ Y c < l.n := ⟨Classical.byContradiction fun h => c4 (.inl (by omega)), Classical.byContradiction fun h => c4 (.inr (.inl (by omega)))⟩
     have hL2 : ∀ j : Int, 0 ≤ j → j < ((c + 1 : Nat) : Int) → 0 ≤ Y j ∧ Y j < l.n := fun j j0 j1 => by
      by_cases e : j = (c : Int)
      ·rw [e]; exact hv
      ·exact hL j j0 (by omega)
     have hU2 : ∀ a b : Int, 0 ≤ a → a < b → b < ((c + 1 : Nat) : Int) → Y a ≠ Y b := fun a b a0 ab b1 => by
      by_cases e : b = (c : Int)
      ·rw [e]; exact fun h => c4 (.inr (.inr ⟨a, ⟨a0, by omega⟩, h⟩))
      ·exact hU a b a0 ab (by omega)
     have hcn : c ≤ l.n := pigeonG (fun k k0 k1 => hL k k0 k1) (fun a b a0 a1 b0 b1 e => by
      rcases Int.lt_trichotomy a b with d | d | d
      ·exact absurd e (hU a b a0 d b1)
      ·exact d
      ·exact absurd e.symm (hU b a b0 d a1))
     obtain ⟨v, hv0⟩ : ∃ v, v = Y c := ⟨_, rfl⟩
     have hv' := hv
     rw [← hv0] at hv'
     have hd1 := hV.r0 v hv'.1 hv'.2
     have hd2 := hV.rd v hv'.1 hv'.2
     have hd3 := hV.dM v hv'.1 hv'.2
     have hd4 := hV.len1 v hv'.1 hv'.2
     have hd5 := hV.len2 v hv'.1 hv'.2
     have hw0 : 0 ≤ wthn l hn A B v := sm_nonneg fun a _ _ => by unfold ovl; omega
     have hw1 : wthn l hn A B v ≤ hn * 1000000000 := sm_bound _ (by omega) fun a a0 a1 => by have := (hA a a0 a1).1; unfold ovl; omega
     refine run_skip <| run_seq <| run_region <| rl_v rfl rfl rfl (ov_move rfl rfl) <| rl_v rfl rfl rfl (ov_move rfl rfl) <| rl_v rfl rfl rfl (ov_index1 rfl Try.underlying78 (by kernel_rfl) rfl rfl ⟨by omega, by omega⟩ (by rfl)) ?_
     refine rl_ow rfl (ow_store rfl rfl (by kernel_rfl) hO2 0 rfl rfl ⟨by omega, by omega⟩ rfl rfl) ?_
     rintro _ w28 ⟨rfl, hO29, hs30⟩
     have hOt := hO29.congrI 0 rfl (G' := fun j => .bool (sn7 Y ((c + 1 : Nat) : Int) j)) (fun v _ _ => (sn7_step Y c v).symm)
     refine rl_nil <| run_seq <| run_region <| rl_v rfl rfl rfl (ov_move rfl rfl) <| rl_v rfl rfl rfl (ov_move rfl rfl) <| rl_v rfl rfl rfl (ov_index rfl Try.underlying22 (by kernel_rfl) (s := 4) rfl rfl ⟨by omega, by omega⟩ (by exact hla (by omega))) ?_
     refine rl_v rfl rfl rfl (ov_loadE rfl Try.underlying72 rfl (by kernel_rfl) rfl ⟨by omega, by omega⟩ rfl (hlr _ hOt.below)) ?_
     refine rl_ow rfl (ow_alloc _ rfl rfl rfl zero_72 rfl hOt) ?_
     rintro _ w31 ⟨t14, rfl, hO32, hs33⟩
     refine rl_ow rfl (ow_storeW rfl rfl (by kernel_rfl) hO32 0 rfl rfl (by rfl) rfl (by rfl)) ?_
     rintro _ w34 ⟨rfl, hO35, hs36⟩
     have hOv : Own w.heap.size w w34 [some (lch t14 72 (ldF l v)), some (vch sb 4 l.n (fun j => .bool (sn7 Y ((c + 1 : Nat) : Int) j))), some (lch b5 50 (crL xa xn xc ha hn hc))] := by rw [hv0]; exact hO35
     refine rl_nil <| run_held (fun w' => Own w.heap.size w w' ([some (lch t14 72 (ldF l v)), some (vch sb 4 l.n (fun j => .bool (sn7 Y ((c + 1 : Nat) : Int) j))), some (lch b5 50 (crL xa xn xc ha hn hc))])) mixed ?_
     have hO38 := hOv.drew
     generalize World.drew w34 = w37 at hO38 ⊢
     have hS39 : Own w.heap.size w w37 ([some (lch t14 72 (ldF l v)), some (vch sb 4 l.n (fun j => .bool (sn7 Y ((c + 1 : Nat) : Int) j))), some (lch b5 50 (crL xa xn xc ha hn hc))]) := by exact hO38
     refine rh_v 0 rfl (by kernel_rfl) rfl rfl rfl hS39 (fun _ hS => ov_move rfl rfl) ?_
     refine rh_v 1 rfl (by kernel_rfl) rfl rfl rfl hS39 (fun _ hS => ov_fieldS rfl Try.underlying72 rfl (fo := 2) rfl (by kernel_rfl) rfl) ?_
     refine rh_v 2 rfl (by kernel_rfl) rfl rfl rfl hS39 (fun _ hS => ov_load rfl Try.underlying3 rfl rfl (by exact hS.cellL 0 rfl (off := 2) rfl)) ?_
     refine rh_v 3 rfl (by kernel_rfl) rfl rfl rfl hS39 (fun _ hS => ov_fieldS rfl Try.underlying72 rfl (fo := 1) rfl (by kernel_rfl) rfl) ?_
     refine rh_v 4 rfl (by kernel_rfl) rfl rfl rfl hS39 (fun _ hS => ov_load rfl Try.underlying3 rfl rfl (by exact hS.cellL 0 rfl (off := 1) rfl)) ?_
     refine rh_v 5 rfl (by kernel_rfl) rfl rfl rfl hS39 (fun _ hS => ov_fieldS rfl Try.underlying72 rfl (fo := 0) rfl (by kernel_rfl) rfl) ?_
     refine rh_v 6 rfl (by kernel_rfl) rfl rfl rfl hS39 (fun _ hS => ov_load rfl Try.underlying3 rfl rfl (by exact hS.cellL 0 rfl (off := 0) rfl)) ?_
     refine rh_v 7 rfl (by kernel_rfl) rfl rfl rfl hS39 (fun _ hS => ov_sub rfl rfl rfl (by omega)) ?_
     refine rh_v 8 rfl (by kernel_rfl) rfl rfl rfl hS39 (fun _ hS => ov_loadW rfl Try.underlying72 rfl (by kernel_rfl) rfl hS 0 rfl) ?_
     refine rh_v 9 rfl (by kernel_rfl) rfl rfl rfl hS39 (fun _ hS => ov_fieldS rfl Try.underlying50 rfl (fo := 1) rfl (by kernel_rfl) rfl) ?_
     refine rh_v 10 rfl (by kernel_rfl) rfl rfl rfl hS39 (fun _ hS => ov_load rfl Try.underlying48 rfl rfl (by exact hS.cellL 2 rfl (off := 1) rfl)) ?_
     refine rh_any1 11 (by kernel_rfl) ?_
     refine rc_op rfl rfl (ow_call2 callable_54 rfl rfl rfl rfl rfl (within7_any l v ha hn hc A B _ (by omega) hN (fun k k0 k1 => (hA k k0 k1).1) (hO38.satU hh)) (by intro e w' hp; obtain ⟨rfl, hO9⟩ := hp; exact ⟨_, rfl⟩)) ?_
     rintro _ w42 ⟨_, v40, he43, rfl, hp41⟩
     obtain ⟨rfl, hO9⟩ := hp41
     injection he43 with he43; subst he43
     have hO44 := hO38.join hO9
     have hS45 : Own w.heap.size w w42 ([some (lch t14 72 (ldF l v)), some (vch sb 4 l.n (fun j => .bool (sn7 Y ((c + 1 : Nat) : Int) j))), some (lch b5 50 (crL xa xn xc ha hn hc))]) := by exact hO44
     refine ⟨hS45, ?_⟩
     have hss : s + max 0 (l.len v - (l.d v - l.r v - wthn l hn A B v)) = sm (fun j => max 0 (l.len (Y j) - (l.d (Y j) - l.r (Y j) - wthn l hn A B (Y j)))) ((c + 1 : Nat) : Int) := by
      rw [show ((c + 1 : Nat) : Int) = (c : Int) + 1 by omega, sm_succ _ (by omega), ← hs, ← hv0]
     refine rh_v 12 rfl (by kernel_rfl) rfl rfl rfl hS45 (fun _ hS => ov_sub rfl rfl rfl (by omega)) ?_
     refine rh_v 13 rfl (by kernel_rfl) rfl rfl rfl hS45 (fun _ hS => ov_sub rfl rfl rfl (by omega)) ?_
     refine rh_v 14 rfl (by kernel_rfl) rfl rfl rfl hS45 (fun _ hS => ov_max rfl rfl rfl) ?_
     refine rh_v 15 rfl (by kernel_rfl) rfl rfl rfl hS45 (fun _ hS => ov_add rfl rfl rfl (by omega)) ?_
     refine rh_v 16 rfl (by kernel_rfl) rfl rfl rfl hS45 (fun _ hS => ov_assign rfl rfl) ?_
     refine rh_done (by kernel_rfl) ?_
     refine run_inBlock <| run_region <| rl_v rfl rfl rfl (ov_move rfl rfl) <| rl_v rfl rfl rfl (ov_add rfl rfl rfl (by omega)) ?_
     refine rl_v rfl rfl rfl (ov_assign rfl rfl) <| rl_nil ?_
     refine Run.use (ih24 (c + 1) (s + max 0 (l.len v - (l.d v - l.r v - wthn l hn A B v))) _ ?_ ?_) (And.intro (by exact slot_int rfl (by first | omega)) (And.intro (by exact slot_int rfl (by first | omega)) (And.intro rfl (And.intro rfl (And.intro rfl (And.intro rfl (And.intro rfl trivial)))))))
     ·first | omega | (dsimp only; omega)
     ·exact ⟨by omega, hss, by omega, hL2, hU2, hO44.tail⟩
  ·have hcx : c = xn := by omega
   rw [hcx] at hs hL hU
   have hmk := mulb hk.1 hk.2 hm0 (show m ≤ 1000000000000 by omega)
   refine run_exit rfl <| run_seq <| run_region <| rl_v rfl rfl rfl (ov_move rfl rfl) <| rl_v rfl rfl rfl (ov_move rfl rfl) <| rl_v rfl rfl rfl (ov_move rfl rfl) <| rl_v rfl rfl rfl (ov_mul rfl rfl rfl (by rw [Int.mul_comm]; show -9223372036854775808 ≤ kilns * m ∧ kilns * m ≤ 9223372036854775807; omega)) ?_
   refine rl_v rfl rfl rfl (ov_gtr rfl rfl rfl) <| rl_v rfl rfl rfl (ov_assign rfl rfl) <| rl_nil <| run_ret Try.func27 (res1 Try.results27 rfl) ?_
   exact ⟨by rw [decide_eq_decide.2 (show Prv l kilns xn Y hn A B ↔ m * kilns < s from ⟨fun h => by have := h.big; rw [← hm, ← hs] at this; exact this, fun h => ⟨hA, hL, hU, by rw [← hm, ← hs]; exact h⟩⟩)], hO2.sub (List.nil_sublist _)⟩
end Go.Proofs.Ytbepolognfdkeaa
