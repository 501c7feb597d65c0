import Derived.Test.YtlldeifbfpmbaaaGreatFbC
import Derived.Test.YtlldeifbfpmbaaaGreatLaw0
set_option maxRecDepth 100000
namespace Go.Proofs.YtlldeifbfpmbaaaGreat
open Go.RowKit Go.Proofs
def hpG (P A : Int → Int) : Int → List Value := fun k => [.int .i64 (P k), .int .i64 (A k)]
theorem less_sh (ao : Option Addr) (n cap : Nat) (P A : Int → Int) (i j : Int) (w : World) (i0 : 0 ≤ i) (i1 : i < n) (j0 : 0 ≤ j) (j1 : j < n) (h : SAt w.heap.size w ao 2 n (hpG P A)) :
  Calls Tryz.prog 186 #[.slice ao n cap, .int .i64 i, .int .i64 j] w fun e w' => (∃ b, e = .returned (.bool b) ∧ (b = true ↔ bf P A i j)) ∧ Below w.heap.size w w' := by
 obtain ⟨gb, go, hga, hrow⟩ := h.open (by omega)
 refine calls_of_run (F := [(0, _), (1, _), (2, _)]) Tryz.func186 rfl Tryz.ntmps186 rfl rfl ?_
 have hO0 := Own.init w
 refine run_seq <| run_region <| rl_v rfl rfl rfl (ov_assign rfl rfl) <| rl_nil <| run_seq <| run_quiet mixed (by kernel_rfl) ?_
 refine rq_v rfl rfl rfl (fun _ => ov_move rfl rfl) ?_
 refine rq_v rfl rfl rfl (fun _ => ov_move rfl rfl) ?_
 refine rq_v rfl rfl rfl (fun _ => ov_index rfl Tryz.underlying117 (by kernel_rfl) (s := 2) rfl rfl ⟨by omega, by omega⟩ (by exact hga (by omega))) ?_
 refine rq_v rfl rfl rfl (fun _ => ov_fieldS rfl Tryz.underlying123 rfl (fo := 1) rfl (by kernel_rfl) rfl) ?_
 refine rq_v rfl rfl rfl (fun _ => ov_load rfl Tryz.underlying2 rfl rfl (by show World.cell? w _ = _; first | exact hrow _ hO0.below _ (by omega) (by omega) _ (by omega) | exact hO0.cellI 0 rfl _ (by omega) (by omega) | exact hO0.cellL 0 rfl rfl | exact hO0.cellI 1 rfl _ (by omega) (by omega) | exact hO0.cellL 1 rfl rfl | exact hO0.cellI 2 rfl _ (by omega) (by omega) | exact hO0.cellL 2 rfl rfl | exact hO0.cellI 3 rfl _ (by omega) (by omega) | exact hO0.cellL 3 rfl rfl | exact hO0.cellI 4 rfl _ (by omega) (by omega) | exact hO0.cellL 4 rfl rfl | exact hO0.cellI 5 rfl _ (by omega) (by omega) | exact hO0.cellL 5 rfl rfl)) ?_
 refine rq_v rfl rfl rfl (fun _ => ov_move rfl rfl) ?_
 refine rq_v rfl rfl rfl (fun _ => ov_move rfl rfl) ?_
 refine rq_v rfl rfl rfl (fun _ => ov_index rfl Tryz.underlying117 (by kernel_rfl) (s := 2) rfl rfl ⟨by omega, by omega⟩ (by exact hga (by omega))) ?_
 refine rq_v rfl rfl rfl (fun _ => ov_fieldS rfl Tryz.underlying123 rfl (fo := 1) rfl (by kernel_rfl) rfl) ?_
 refine rq_v rfl rfl rfl (fun _ => ov_load rfl Tryz.underlying2 rfl rfl (by show World.cell? w _ = _; first | exact hrow _ hO0.below _ (by omega) (by omega) _ (by omega) | exact hO0.cellI 0 rfl _ (by omega) (by omega) | exact hO0.cellL 0 rfl rfl | exact hO0.cellI 1 rfl _ (by omega) (by omega) | exact hO0.cellL 1 rfl rfl | exact hO0.cellI 2 rfl _ (by omega) (by omega) | exact hO0.cellL 2 rfl rfl | exact hO0.cellI 3 rfl _ (by omega) (by omega) | exact hO0.cellL 3 rfl rfl | exact hO0.cellI 4 rfl _ (by omega) (by omega) | exact hO0.cellL 4 rfl rfl | exact hO0.cellI 5 rfl _ (by omega) (by omega) | exact hO0.cellL 5 rfl rfl)) ?_
 refine rq_v rfl rfl rfl (fun _ => ov_gtr rfl rfl rfl) ?_
 refine rq_v rfl rfl rfl (fun _ => ov_move rfl rfl) ?_
 first | refine rq_split_dec 18 rfl (fun g1 => ?_) (fun g1 => ?_) | refine rq_split 18 rfl (fun g1 => ?_) (fun g1 => ?_)
 ·refine rq_gskip rfl rfl rfl rfl rfl rfl <| rq_gskip rfl rfl rfl rfl rfl rfl <| rq_gskip rfl rfl rfl rfl rfl rfl <| rq_gskip rfl rfl rfl rfl rfl rfl <| rq_gskip rfl rfl rfl rfl rfl rfl <| rq_gskip rfl rfl rfl rfl rfl rfl <| rq_gskip rfl rfl rfl rfl rfl rfl <| rq_gskip rfl rfl rfl rfl rfl rfl <| rq_gskip rfl rfl rfl rfl rfl rfl <| rq_gskip rfl rfl rfl rfl rfl rfl <| rq_gskip rfl rfl rfl rfl rfl rfl <| rq_gskip rfl rfl rfl rfl rfl rfl <| rq_gundef rfl rfl rfl rfl rfl <| rq_gundef rfl rfl rfl rfl rfl <| rq_gundef rfl rfl rfl rfl rfl <| rq_gundef rfl rfl rfl rfl rfl <| rq_gundef rfl rfl rfl rfl rfl <| rq_gundef rfl rfl rfl rfl rfl <| rq_gundef rfl rfl rfl rfl rfl <| rq_gundef rfl rfl rfl rfl rfl <| rq_gundef rfl rfl rfl rfl rfl <| rq_gundef rfl rfl rfl rfl rfl <| rq_gundef rfl rfl rfl rfl rfl <| rq_gskip rfl rfl rfl rfl rfl rfl <| rq_v rfl rfl rfl (fun _ => ov_pick_t rfl rfl rfl) ?_
  refine rq_v rfl rfl rfl (fun _ => ov_assign rfl rfl) ?_
  refine rq_nil (fun n2 => ?_)
  have hO4 := hO0.drewN n2
  generalize World.drewN w n2 = w3 at hO4 ⊢
  refine run_ret Tryz.func186 (res1 Tryz.results186 rfl) ?_
  exact ⟨⟨true, rfl, ⟨fun _ => .inl g1, fun _ => rfl⟩⟩, hO4.below⟩
 ·refine rq_gv rfl rfl rfl rfl rfl (fun _ => ov_move rfl rfl) ?_
  refine rq_gv rfl rfl rfl rfl rfl (fun _ => ov_move rfl rfl) ?_
  refine rq_gv rfl rfl rfl rfl rfl (fun _ => ov_index rfl Tryz.underlying117 (by kernel_rfl) (s := 2) rfl rfl ⟨by omega, by omega⟩ (by exact hga (by omega))) ?_
  refine rq_gv rfl rfl rfl rfl rfl (fun _ => ov_fieldS rfl Tryz.underlying123 rfl (fo := 1) rfl (by kernel_rfl) rfl) ?_
  refine rq_gv rfl rfl rfl rfl rfl (fun _ => ov_load rfl Tryz.underlying2 rfl rfl (by show World.cell? w _ = _; first | exact hrow _ hO0.below _ (by omega) (by omega) _ (by omega) | exact hO0.cellI 0 rfl _ (by omega) (by omega) | exact hO0.cellL 0 rfl rfl | exact hO0.cellI 1 rfl _ (by omega) (by omega) | exact hO0.cellL 1 rfl rfl | exact hO0.cellI 2 rfl _ (by omega) (by omega) | exact hO0.cellL 2 rfl rfl | exact hO0.cellI 3 rfl _ (by omega) (by omega) | exact hO0.cellL 3 rfl rfl | exact hO0.cellI 4 rfl _ (by omega) (by omega) | exact hO0.cellL 4 rfl rfl | exact hO0.cellI 5 rfl _ (by omega) (by omega) | exact hO0.cellL 5 rfl rfl)) ?_
  refine rq_gv rfl rfl rfl rfl rfl (fun _ => ov_move rfl rfl) ?_
  refine rq_gv rfl rfl rfl rfl rfl (fun _ => ov_move rfl rfl) ?_
  refine rq_gv rfl rfl rfl rfl rfl (fun _ => ov_index rfl Tryz.underlying117 (by kernel_rfl) (s := 2) rfl rfl ⟨by omega, by omega⟩ (by exact hga (by omega))) ?_
  refine rq_gv rfl rfl rfl rfl rfl (fun _ => ov_fieldS rfl Tryz.underlying123 rfl (fo := 1) rfl (by kernel_rfl) rfl) ?_
  refine rq_gv rfl rfl rfl rfl rfl (fun _ => ov_load rfl Tryz.underlying2 rfl rfl (by show World.cell? w _ = _; first | exact hrow _ hO0.below _ (by omega) (by omega) _ (by omega) | exact hO0.cellI 0 rfl _ (by omega) (by omega) | exact hO0.cellL 0 rfl rfl | exact hO0.cellI 1 rfl _ (by omega) (by omega) | exact hO0.cellL 1 rfl rfl | exact hO0.cellI 2 rfl _ (by omega) (by omega) | exact hO0.cellL 2 rfl rfl | exact hO0.cellI 3 rfl _ (by omega) (by omega) | exact hO0.cellL 3 rfl rfl | exact hO0.cellI 4 rfl _ (by omega) (by omega) | exact hO0.cellL 4 rfl rfl | exact hO0.cellI 5 rfl _ (by omega) (by omega) | exact hO0.cellL 5 rfl rfl)) ?_
  refine rq_gv rfl rfl rfl rfl rfl (fun _ => ov_eql rfl rfl rfl) ?_
  refine rq_gv rfl rfl rfl rfl rfl (fun _ => ov_move rfl rfl) ?_
  first | refine rq_split_dec 30 rfl (fun g2 => ?_) (fun g2 => ?_) | refine rq_split 30 rfl (fun g2 => ?_) (fun g2 => ?_)
  ·refine rq_gv rfl rfl rfl rfl rfl (fun _ => ov_move rfl rfl) ?_
   refine rq_gv rfl rfl rfl rfl rfl (fun _ => ov_move rfl rfl) ?_
   refine rq_gv rfl rfl rfl rfl rfl (fun _ => ov_index rfl Tryz.underlying117 (by kernel_rfl) (s := 2) rfl rfl ⟨by omega, by omega⟩ (by exact hga (by omega))) ?_
   refine rq_gv rfl rfl rfl rfl rfl (fun _ => ov_fieldS rfl Tryz.underlying123 rfl (fo := 0) rfl (by kernel_rfl) rfl) ?_
   refine rq_gv rfl rfl rfl rfl rfl (fun _ => ov_load rfl Tryz.underlying3 rfl rfl (by show World.cell? w _ = _; first | exact hrow _ hO0.below _ (by omega) (by omega) _ (by omega) | exact hO0.cellI 0 rfl _ (by omega) (by omega) | exact hO0.cellL 0 rfl rfl | exact hO0.cellI 1 rfl _ (by omega) (by omega) | exact hO0.cellL 1 rfl rfl | exact hO0.cellI 2 rfl _ (by omega) (by omega) | exact hO0.cellL 2 rfl rfl | exact hO0.cellI 3 rfl _ (by omega) (by omega) | exact hO0.cellL 3 rfl rfl | exact hO0.cellI 4 rfl _ (by omega) (by omega) | exact hO0.cellL 4 rfl rfl | exact hO0.cellI 5 rfl _ (by omega) (by omega) | exact hO0.cellL 5 rfl rfl)) ?_
   refine rq_gv rfl rfl rfl rfl rfl (fun _ => ov_move rfl rfl) ?_
   refine rq_gv rfl rfl rfl rfl rfl (fun _ => ov_move rfl rfl) ?_
   refine rq_gv rfl rfl rfl rfl rfl (fun _ => ov_index rfl Tryz.underlying117 (by kernel_rfl) (s := 2) rfl rfl ⟨by omega, by omega⟩ (by exact hga (by omega))) ?_
   refine rq_gv rfl rfl rfl rfl rfl (fun _ => ov_fieldS rfl Tryz.underlying123 rfl (fo := 0) rfl (by kernel_rfl) rfl) ?_
   refine rq_gv rfl rfl rfl rfl rfl (fun _ => ov_load rfl Tryz.underlying3 rfl rfl (by show World.cell? w _ = _; first | exact hrow _ hO0.below _ (by omega) (by omega) _ (by omega) | exact hO0.cellI 0 rfl _ (by omega) (by omega) | exact hO0.cellL 0 rfl rfl | exact hO0.cellI 1 rfl _ (by omega) (by omega) | exact hO0.cellL 1 rfl rfl | exact hO0.cellI 2 rfl _ (by omega) (by omega) | exact hO0.cellL 2 rfl rfl | exact hO0.cellI 3 rfl _ (by omega) (by omega) | exact hO0.cellL 3 rfl rfl | exact hO0.cellI 4 rfl _ (by omega) (by omega) | exact hO0.cellL 4 rfl rfl | exact hO0.cellI 5 rfl _ (by omega) (by omega) | exact hO0.cellL 5 rfl rfl)) ?_
   refine rq_gv rfl rfl rfl rfl rfl (fun _ => ov_lss rfl rfl rfl) ?_
   refine rq_gv rfl rfl rfl rfl rfl (fun _ => ov_pick_t rfl rfl rfl) ?_
   refine rq_v rfl rfl rfl (fun _ => ov_pick_f rfl rfl rfl) ?_
   refine rq_v rfl rfl rfl (fun _ => ov_assign rfl rfl) ?_
   refine rq_nil (fun n6 => ?_)
   have hO8 := hO0.drewN n6
   generalize World.drewN w n6 = w7 at hO8 ⊢
   refine run_ret Tryz.func186 (res1 Tryz.results186 rfl) ?_
   exact ⟨⟨_, rfl, by rw [decide_eq_true_iff]; unfold bf; omega⟩, hO8.below⟩
  ·refine rq_gskip rfl rfl rfl rfl rfl rfl <| rq_gskip rfl rfl rfl rfl rfl rfl <| rq_gskip rfl rfl rfl rfl rfl rfl <| rq_gskip rfl rfl rfl rfl rfl rfl <| rq_gskip rfl rfl rfl rfl rfl rfl <| rq_gskip rfl rfl rfl rfl rfl rfl <| rq_gskip rfl rfl rfl rfl rfl rfl <| rq_gskip rfl rfl rfl rfl rfl rfl <| rq_gskip rfl rfl rfl rfl rfl rfl <| rq_gskip rfl rfl rfl rfl rfl rfl <| rq_gskip rfl rfl rfl rfl rfl rfl <| rq_gv rfl rfl rfl rfl rfl (fun _ => ov_pick_f rfl rfl rfl) ?_
   refine rq_v rfl rfl rfl (fun _ => ov_pick_f rfl rfl rfl) ?_
   refine rq_v rfl rfl rfl (fun _ => ov_assign rfl rfl) ?_
   refine rq_nil (fun n9 => ?_)
   have hO11 := hO0.drewN n9
   generalize World.drewN w n9 = w10 at hO11 ⊢
   refine run_ret Tryz.func186 (res1 Tryz.results186 rfl) ?_
   exact ⟨⟨false, rfl, ⟨fun h => Bool.noConfusion h, fun h => by unfold bf at h; omega⟩⟩, hO11.below⟩
theorem len_sh (ao : Option Addr) (n cap : Nat) (w : World) :
  Calls Tryz.prog 66 #[.slice ao n cap] w fun e w' => e = .returned (.int .i64 n) ∧ Below w.heap.size w w' := by
 refine calls_of_run (F := [(0, _)]) Tryz.func66 rfl Tryz.ntmps66 rfl rfl ?_
 have hO0 := Own.init w
 refine run_seq <| run_region <| rl_v rfl rfl rfl (ov_assign rfl rfl) <| rl_nil <| run_seq <| run_region <| rl_v rfl rfl rfl (ov_move rfl rfl) <| rl_v rfl rfl rfl (ov_len rfl Tryz.underlying117 rfl) <| rl_v rfl rfl rfl (ov_assign rfl rfl) <| rl_nil <| run_ret Tryz.func66 (res1 Tryz.results66 rfl) ?_
 exact ⟨rfl, hO0.below⟩
theorem SRow.openW {ao : Option Addr} {m cap : Nat} {E : TypeId} {s n : Nat} {G : Int → List Value} {c : Option Blk} (h : SRow (.slice ao m cap) E s n G c) (hn : 1 ≤ n) :
  ∃ b, ao = some ⟨b, 0, none⟩ ∧ n ≤ cap ∧ ∀ {B : Nat} {w0 w : World} {H : List (Option Blk)}, Own B w0 w H → ∀ k : Nat, H[k]? = some c → ∀ i : Int, 0 ≤ i → i < n → ∀ fo, fo < s → w.cell? ⟨b, 0 + i.toNat * s + fo, none⟩ = some ((G i).getD fo undef) := by
 have h' := h
 rcases h with ⟨h1, _, _⟩ | ⟨b, cap', g, h1, h2, h3, h4, h5⟩
 ·omega
 ·cases h1
  refine ⟨b, rfl, h2, fun ho k hk i i0 i1 fo hf => ?_⟩
  obtain ⟨b2, e1, e2⟩ := h'.openS ho k hk
  cases e1 (by omega)
  exact e2 i i0 i1 fo hf
theorem swap_sh (ao : Option Addr) (n cap B : Nat) (P A : Int → Int) (i j : Int) (c : Option Blk) (w0 w : World) (H : List (Option Blk)) (i0 : 0 ≤ i) (i1 : i < n) (j0 : 0 ≤ j) (j1 : j < n) (hO : Own B w0 w (c :: H)) (hr : SRow (.slice ao n cap) 123 2 n (hpG P A) c) :
  Calls Tryz.prog 189 #[.slice ao n cap, .int .i64 i, .int .i64 j] w fun e w' => e = .returned (.tuple #[]) ∧ ∃ c', Own B w0 w' (c' :: H) ∧ SRow (.slice ao n cap) 123 2 n (hpG (sw P i j) (sw A i j)) c' := by
 obtain ⟨gb, rfl, _, hrow⟩ := hr.openW (by omega)
 refine calls_of_run (F := [(0, _), (1, _), (2, _)]) Tryz.func189 rfl Tryz.ntmps189 rfl rfl <| run_held (fun w' => Own B w0 w' (H)) mixed ?_
 have hO2 := hO.drew
 generalize World.drew w = w1 at hO2 ⊢
 have hS3 : Own B w0 w1 (H) := by exact hO2.tail
 refine rh_v 0 rfl (by kernel_rfl) rfl rfl rfl hS3 (fun _ hS => ov_move rfl rfl) ?_
 refine rh_v 1 rfl (by kernel_rfl) rfl rfl rfl hS3 (fun _ hS => ov_move rfl rfl) ?_
 refine rh_v 2 rfl (by kernel_rfl) rfl rfl rfl hS3 (fun _ hS => ov_move rfl rfl) ?_
 refine rh_v 3 rfl (by kernel_rfl) rfl rfl rfl hS3 (fun _ hS => ov_move rfl rfl) ?_
 refine rh_v 4 rfl (by kernel_rfl) rfl rfl rfl hS3 (fun _ hS => ov_move rfl rfl) ?_
 refine rh_v 5 rfl (by kernel_rfl) rfl rfl rfl hS3 (fun _ hS => ov_move rfl rfl) ?_
 refine rh_v 6 rfl (by kernel_rfl) rfl rfl rfl hS3 (fun _ hS => ov_index rfl Tryz.underlying117 (by kernel_rfl) (s := 2) rfl rfl ⟨by omega, by omega⟩ rfl) ?_
 refine rh_v 8 rfl (by kernel_rfl) rfl rfl rfl hS3 (fun _ hS => ov_move rfl rfl) ?_
 refine rh_v 9 rfl (by kernel_rfl) rfl rfl rfl hS3 (fun _ hS => ov_move rfl rfl) ?_
 refine rh_v 10 rfl (by kernel_rfl) rfl rfl rfl hS3 (fun _ hS => ov_index rfl Tryz.underlying117 (by kernel_rfl) (s := 2) rfl rfl ⟨by omega, by omega⟩ rfl) ?_
 refine rh_any2 7 11 (by kernel_rfl) ?_ ?_
 ·refine rc_op rfl rfl (ow_v rfl rfl (ov_loadE rfl Tryz.underlying123 rfl (by kernel_rfl) rfl ⟨by omega, by omega⟩ rfl (hrow hO2 0 rfl))) ?_
  rintro _ _ ⟨rfl, hw4⟩
  replace hw4 := hw4.symm; subst hw4
  refine ⟨hS3, ?_⟩
  refine rh_any1 11 (by kernel_rfl) ?_
  refine rc_op rfl rfl (ow_v rfl rfl (ov_loadE rfl Tryz.underlying123 rfl (by kernel_rfl) rfl ⟨by omega, by omega⟩ rfl (hrow hO2 0 rfl))) ?_
  rintro _ _ ⟨rfl, hw5⟩
  replace hw5 := hw5.symm; subst hw5
  refine ⟨hS3, ?_⟩
  refine rh_v 12 rfl (by kernel_rfl) rfl rfl rfl hS3 (fun _ hS => ov_index rfl Tryz.underlying117 (by kernel_rfl) (s := 2) rfl rfl ⟨by omega, by omega⟩ rfl) ?_
  refine rh_any1 13 (by kernel_rfl) ?_
  refine rc_op rfl rfl (ow_storeE2 (kk := 0) rfl rfl (by kernel_rfl) hO2 hr rfl (fun _ => rfl) rfl ⟨by omega, by omega⟩ rfl rfl rfl rfl) ?_
  rintro _ w6 ⟨c1, rfl, hO7, hr1, hs8⟩
  have hS9 : Own B w0 w6 (H) := by exact hO7.tail
  refine ⟨hS9, ?_⟩
  refine rh_v 14 rfl (by kernel_rfl) rfl rfl rfl hS9 (fun _ hS => ov_index rfl Tryz.underlying117 (by kernel_rfl) (s := 2) rfl rfl ⟨by omega, by omega⟩ rfl) ?_
  refine rh_any1 15 (by kernel_rfl) ?_
  refine rc_op rfl rfl (ow_storeE2 (kk := 0) rfl rfl (by kernel_rfl) hO7 hr1 rfl (fun _ => rfl) rfl ⟨by omega, by omega⟩ (by unfold upd; split <;> rfl) rfl rfl rfl) ?_
  rintro _ w10 ⟨c2, rfl, hO11, hr2, hs12⟩
  have hS13 : Own B w0 w10 (H) := by exact hO11.tail
  refine ⟨hS13, ?_⟩
  refine rh_done (by kernel_rfl) ?_
  refine run_end Tryz.func189 (res0 Tryz.results189) ?_
  exact ⟨rfl, c2, hO11, hr2.congr fun k k0 k1 => by unfold upd hpG sw tr; split; rfl; split <;> rfl⟩
 ·refine rc_op rfl rfl (ow_v rfl rfl (ov_loadE rfl Tryz.underlying123 rfl (by kernel_rfl) rfl ⟨by omega, by omega⟩ rfl (hrow hO2 0 rfl))) ?_
  rintro _ _ ⟨rfl, hw14⟩
  replace hw14 := hw14.symm; subst hw14
  refine ⟨hS3, ?_⟩
  refine rh_any1 7 (by kernel_rfl) ?_
  refine rc_op rfl rfl (ow_v rfl rfl (ov_loadE rfl Tryz.underlying123 rfl (by kernel_rfl) rfl ⟨by omega, by omega⟩ rfl (hrow hO2 0 rfl))) ?_
  rintro _ _ ⟨rfl, hw15⟩
  replace hw15 := hw15.symm; subst hw15
  refine ⟨hS3, ?_⟩
  refine rh_v 12 rfl (by kernel_rfl) rfl rfl rfl hS3 (fun _ hS => ov_index rfl Tryz.underlying117 (by kernel_rfl) (s := 2) rfl rfl ⟨by omega, by omega⟩ rfl) ?_
  refine rh_any1 13 (by kernel_rfl) ?_
  refine rc_op rfl rfl (ow_storeE2 (kk := 0) rfl rfl (by kernel_rfl) hO2 hr rfl (fun _ => rfl) rfl ⟨by omega, by omega⟩ rfl rfl rfl rfl) ?_
  rintro _ w16 ⟨c1, rfl, hO17, hr1, hs18⟩
  have hS19 : Own B w0 w16 (H) := by exact hO17.tail
  refine ⟨hS19, ?_⟩
  refine rh_v 14 rfl (by kernel_rfl) rfl rfl rfl hS19 (fun _ hS => ov_index rfl Tryz.underlying117 (by kernel_rfl) (s := 2) rfl rfl ⟨by omega, by omega⟩ rfl) ?_
  refine rh_any1 15 (by kernel_rfl) ?_
  refine rc_op rfl rfl (ow_storeE2 (kk := 0) rfl rfl (by kernel_rfl) hO17 hr1 rfl (fun _ => rfl) rfl ⟨by omega, by omega⟩ (by unfold upd; split <;> rfl) rfl rfl rfl) ?_
  rintro _ w20 ⟨c2, rfl, hO21, hr2, hs22⟩
  have hS23 : Own B w0 w20 (H) := by exact hO21.tail
  refine ⟨hS23, ?_⟩
  refine rh_done (by kernel_rfl) ?_
  refine run_end Tryz.func189 (res0 Tryz.results189) ?_
  exact ⟨rfl, c2, hO21, hr2.congr fun k k0 k1 => by unfold upd hpG sw tr; split; rfl; split <;> rfl⟩
theorem hpG_upd (P A : Int → Int) (n p a k : Int) : upd (hpG P A) n [.int .i64 p, .int .i64 a] k = hpG (upd P n p) (upd A n a) k := by
 unfold hpG upd
 by_cases e : k = n <;> simp [e]
theorem push_pile (b B n : Nat) (sv : Value) (P A : Int → Int) (p a : Int) (c : Option Blk) (w0 w : World) (H : List (Option Blk)) (hn : n ≤ 100) (hO : Own B w0 w (c :: some (lch b 119 [sv]) :: H)) (hr : SRow sv 123 2 n (hpG P A) c) :
  Calls Tryz.prog 188 #[.pointer (some ⟨b, 0, none⟩), .iface 123 (.agg #[.int .i64 p, .int .i64 a])] w fun e w' => e = .returned (.tuple #[]) ∧ ∃ sv' c', Own B w0 w' (c' :: some (lch b 119 [sv']) :: H) ∧ SRow sv' 123 2 (n + 1) (hpG (upd P n p) (upd A n a)) c' := by
 refine calls_of_run (F := [(0, _), (1, _)]) Tryz.func188 rfl Tryz.ntmps188 rfl rfl <| run_held (fun w' => Own B w0 w' (H)) mixed ?_
 have hO2 := hO.drew
 generalize World.drew w = w1 at hO2 ⊢
 have hS3 : Own B w0 w1 (H) := by first | exact hO2.tail.tail | exact hO2.tail.tail.tail
 refine rh_v 0 rfl (by kernel_rfl) rfl rfl rfl hS3 (fun _ hS => ov_move rfl rfl) ?_
 refine rh_v 1 rfl (by kernel_rfl) rfl rfl rfl hS3 (fun _ hS => ov_move rfl rfl) ?_
 refine rh_v 2 rfl (by kernel_rfl) rfl rfl rfl hS3 (fun _ hS => ov_nil rfl rfl) ?_
 refine rh_v 3 rfl (by kernel_rfl) rfl rfl rfl hS3 (fun _ hS => ov_fieldS rfl Tryz.underlying119 rfl (fo := 0) rfl (by kernel_rfl) rfl) ?_
 refine rh_v 5 rfl (by kernel_rfl) rfl rfl rfl hS3 (fun _ hS => ov_move rfl rfl) ?_
 refine rh_v 6 rfl (by kernel_rfl) rfl rfl rfl hS3 (fun _ hS => ov_assert rfl Tryz.underlying123 rfl rfl) ?_
 refine rh_any2 4 7 (by kernel_rfl) ?_ ?_
 ·refine rc_op rfl rfl (ow_v rfl rfl (ov_load rfl Tryz.underlying117 rfl rfl (by exact hO2.cellL 1 rfl rfl))) ?_
  rintro _ _ ⟨rfl, hw4⟩
  replace hw4 := hw4.symm; subst hw4
  refine ⟨hS3, ?_⟩
  refine rh_any1 7 (by kernel_rfl) ?_
  refine rc_op rfl rfl (ow_build [_] rfl rfl rfl rfl rfl Tryz.underlying117 info_123 (by decide) hO2 rfl rfl) ?_
  rintro _ w5 ⟨b1, rfl, hO6, hs7⟩
  have hS8 : Own B w0 w5 (H) := by first | exact hO6.tail.tail | exact hO6.tail.tail.tail
  refine ⟨hS8, ?_⟩
  refine rh_any1 8 (by kernel_rfl) ?_
  refine rc_op rfl rfl (ow_appR1 rfl rfl rfl Tryz.underlying117 info_123 rfl rfl hO6 0 hr rfl rfl rfl rfl rfl ⟨by omega, by omega⟩) ?_
  rintro _ w9 ⟨v5, c5, rfl, hO10, hr5, hs11⟩
  have hS12 : Own B w0 w9 (H) := by first | exact hO10.tail.tail | exact hO10.tail.tail.tail
  refine ⟨hS12, ?_⟩
  obtain ⟨a5, p5, rfl⟩ := Row.val hr5
  refine rh_v 9 rfl (by kernel_rfl) rfl rfl rfl hS12 (fun _ hS => ov_nil rfl rfl) ?_
  refine rh_v 10 rfl (by kernel_rfl) rfl rfl rfl hS12 (fun _ hS => ov_fieldS rfl Tryz.underlying119 rfl (fo := 0) rfl (by kernel_rfl) rfl) ?_
  refine rh_any1 11 (by kernel_rfl) ?_
  refine rc_op rfl rfl (ow_storeL rfl rfl (by kernel_rfl) hO10 1 rfl rfl rfl rfl rfl) ?_
  rintro _ w13 ⟨rfl, hO14, hs15⟩
  have hS16 : Own B w0 w13 (H) := by first | exact hO14.tail.tail | exact hO14.tail.tail.tail
  refine ⟨hS16, ?_⟩
  refine rh_done (by kernel_rfl) ?_
  refine run_end Tryz.func188 (res0 Tryz.results188) ?_
  exact ⟨rfl, .slice a5 (n + 1) p5, c5, hO14, hr5.congr fun k _ _ => hpG_upd P A n p a k⟩
 ·refine rc_op rfl rfl (ow_build [_] rfl rfl rfl rfl rfl Tryz.underlying117 info_123 (by decide) hO2 rfl rfl) ?_
  rintro _ w17 ⟨b1, rfl, hO18, hs19⟩
  have hS20 : Own B w0 w17 (H) := by first | exact hO18.tail.tail | exact hO18.tail.tail.tail
  refine ⟨hS20, ?_⟩
  refine rh_any1 4 (by kernel_rfl) ?_
  refine rc_op rfl rfl (ow_v rfl rfl (ov_load rfl Tryz.underlying117 rfl rfl (by exact hO18.cellL 2 rfl rfl))) ?_
  rintro _ _ ⟨rfl, hw21⟩
  replace hw21 := hw21.symm; subst hw21
  refine ⟨hS20, ?_⟩
  refine rh_any1 8 (by kernel_rfl) ?_
  refine rc_op rfl rfl (ow_appR1 rfl rfl rfl Tryz.underlying117 info_123 rfl rfl hO18 0 hr rfl rfl rfl rfl rfl ⟨by omega, by omega⟩) ?_
  rintro _ w22 ⟨v5, c5, rfl, hO23, hr5, hs24⟩
  have hS25 : Own B w0 w22 (H) := by first | exact hO23.tail.tail | exact hO23.tail.tail.tail
  refine ⟨hS25, ?_⟩
  obtain ⟨a5, p5, rfl⟩ := Row.val hr5
  refine rh_v 9 rfl (by kernel_rfl) rfl rfl rfl hS25 (fun _ hS => ov_nil rfl rfl) ?_
  refine rh_v 10 rfl (by kernel_rfl) rfl rfl rfl hS25 (fun _ hS => ov_fieldS rfl Tryz.underlying119 rfl (fo := 0) rfl (by kernel_rfl) rfl) ?_
  refine rh_any1 11 (by kernel_rfl) ?_
  refine rc_op rfl rfl (ow_storeL rfl rfl (by kernel_rfl) hO23 1 rfl rfl rfl rfl rfl) ?_
  rintro _ w26 ⟨rfl, hO27, hs28⟩
  have hS29 : Own B w0 w26 (H) := by first | exact hO27.tail.tail | exact hO27.tail.tail.tail
  refine ⟨hS29, ?_⟩
  refine rh_done (by kernel_rfl) ?_
  refine run_end Tryz.func188 (res0 Tryz.results188) ?_
  exact ⟨rfl, .slice a5 (n + 1) p5, c5, hO27, hr5.congr fun k _ _ => hpG_upd P A n p a k⟩
theorem pop_pile (b B n cap : Nat) (ao : Option Addr) (P A : Int → Int) (c : Option Blk) (w0 w : World) (H : List (Option Blk)) (hn : 1 ≤ n) (hn2 : n ≤ 100) (hO : Own B w0 w (c :: some (lch b 119 [.slice ao n cap]) :: H)) (hr : SRow (.slice ao n cap) 123 2 n (hpG P A) c) :
  Calls Tryz.prog 187 #[.pointer (some ⟨b, 0, none⟩)] w fun e w' => e = .returned (.iface 123 (.agg #[.int .i64 (P (n - 1)), .int .i64 (A (n - 1))])) ∧ Own B w0 w' (c :: some (lch b 119 [.slice ao (n - 1) cap]) :: H) := by
 obtain ⟨gb, rfl, hncap, hrow⟩ := hr.openW hn
 refine calls_of_run (F := [(0, _)]) Tryz.func187 rfl Tryz.ntmps187 rfl rfl <| run_seq <| run_region <| rl_v rfl rfl rfl (ov_assign rfl rfl) <| rl_nil <| run_seq <| run_held (fun w' => Own B w0 w' (c :: some (lch b 119 [.slice (some ⟨gb, 0, none⟩) n cap]) :: H)) mixed ?_
 have hO2 := hO.drew
 generalize World.drew w = w1 at hO2 ⊢
 have hS3 : Own B w0 w1 (c :: some (lch b 119 [.slice (some ⟨gb, 0, none⟩) n cap]) :: H) := by first | exact hO2 | exact hO2.tail
 refine rh_v 0 rfl (by kernel_rfl) rfl rfl rfl hS3 (fun _ hS => ov_move rfl rfl) ?_
 refine rh_v 1 rfl (by kernel_rfl) rfl rfl rfl hS3 (fun _ hS => ov_nil rfl rfl) ?_
 refine rh_v 2 rfl (by kernel_rfl) rfl rfl rfl hS3 (fun _ hS => ov_fieldS rfl Tryz.underlying119 rfl (fo := 0) rfl (by kernel_rfl) rfl) ?_
 refine rh_v 3 rfl (by kernel_rfl) rfl rfl rfl hS3 (fun _ hS => ov_load rfl Tryz.underlying117 rfl rfl (by exact hS.cellL 1 rfl rfl)) ?_
 refine rh_v 4 rfl (by kernel_rfl) rfl rfl rfl hS3 (fun _ hS => ov_move rfl rfl) ?_
 refine rh_v 5 rfl (by kernel_rfl) rfl rfl rfl hS3 (fun _ hS => ov_nil rfl rfl) ?_
 refine rh_v 6 rfl (by kernel_rfl) rfl rfl rfl hS3 (fun _ hS => ov_fieldS rfl Tryz.underlying119 rfl (fo := 0) rfl (by kernel_rfl) rfl) ?_
 refine rh_v 7 rfl (by kernel_rfl) rfl rfl rfl hS3 (fun _ hS => ov_load rfl Tryz.underlying117 rfl rfl (by exact hS.cellL 1 rfl rfl)) ?_
 refine rh_v 8 rfl (by kernel_rfl) rfl rfl rfl hS3 (fun _ hS => ov_len rfl Tryz.underlying117 rfl) ?_
 refine rh_v 9 rfl (by kernel_rfl) rfl rfl rfl hS3 (fun _ hS => ov_sub rfl rfl rfl (by omega)) ?_
 refine rh_v 10 rfl (by kernel_rfl) rfl rfl rfl hS3 (fun _ hS => ov_index rfl Tryz.underlying117 (by kernel_rfl) (s := 2) rfl rfl ⟨by omega, by omega⟩ rfl) ?_
 refine rh_v 11 rfl (by kernel_rfl) rfl rfl rfl hS3 (fun _ hS => ov_loadE rfl Tryz.underlying123 rfl (by kernel_rfl) rfl ⟨by omega, by omega⟩ rfl (hrow hS 0 rfl)) ?_
 refine rh_any1 12 (by kernel_rfl) ?_
 refine rc_op rfl rfl (ow_alloc _ rfl rfl rfl zero_123 rfl hO2) ?_
 rintro _ w4 ⟨b3, rfl, hO5, hs6⟩
 have hS7 : Own B w0 w4 (c :: some (lch b 119 [.slice (some ⟨gb, 0, none⟩) n cap]) :: H) := by first | exact hO5 | exact hO5.tail
 refine ⟨hS7, ?_⟩
 refine rh_any1 13 (by kernel_rfl) ?_
 refine rc_op rfl rfl (ow_storeW rfl rfl (by kernel_rfl) hO5 0 rfl rfl (by rfl) rfl (by rfl)) ?_
 rintro _ w8 ⟨rfl, hO9, hs10⟩
 have hS11 : Own B w0 w8 (c :: some (lch b 119 [.slice (some ⟨gb, 0, none⟩) n cap]) :: H) := by first | exact hO9 | exact hO9.tail
 refine ⟨hS11, ?_⟩
 refine rh_done (by kernel_rfl) ?_
 refine run_seq <| run_tail 14 mixed (by kernel_rfl) ?_
 have hO13 := hO9.drew
 generalize World.drew w8 = w12 at hO13 ⊢
 refine rt_v rfl rfl rfl (ov_move rfl rfl) <| rt_v rfl rfl rfl (ov_move rfl rfl) <| rt_v rfl rfl rfl (ov_nil rfl rfl) <| rt_v rfl rfl rfl (ov_fieldS rfl Tryz.underlying119 rfl (fo := 0) rfl (by kernel_rfl) rfl) ?_
 refine rt_v rfl rfl rfl (ov_load rfl Tryz.underlying117 rfl rfl (by exact hO13.cellL 2 rfl rfl)) ?_
 refine rt_v rfl rfl rfl (ov_move rfl rfl) <| rt_v rfl rfl rfl (ov_nil rfl rfl) <| rt_v rfl rfl rfl (ov_fieldS rfl Tryz.underlying119 rfl (fo := 0) rfl (by kernel_rfl) rfl) ?_
 refine rt_v rfl rfl rfl (ov_load rfl Tryz.underlying117 rfl rfl (by exact hO13.cellL 2 rfl rfl)) ?_
 refine rt_v rfl rfl rfl (ov_len rfl Tryz.underlying117 rfl) <| rt_v rfl rfl rfl (ov_sub rfl rfl rfl (by omega)) ?_
 refine rt_v rfl rfl rfl (ov_sliceH (n - 1) (s := 2) rfl Tryz.underlying117 (by kernel_rfl) rfl rfl (by omega) (by omega)) ?_
 refine rt_v rfl rfl rfl (ov_nil rfl rfl) <| rt_v rfl rfl rfl (ov_fieldS rfl Tryz.underlying119 rfl (fo := 0) rfl (by kernel_rfl) rfl) ?_
 refine rt_nil <| rl_ow rfl (ow_storeL rfl rfl (by kernel_rfl) hO13 2 rfl rfl rfl rfl rfl) ?_
 rintro _ w14 ⟨rfl, hO15, hs16⟩
 refine rl_nil <| run_seq <| run_region <| rl_v rfl rfl rfl (ov_loadW rfl Tryz.underlying123 rfl (by kernel_rfl) rfl hO15 0 rfl) ?_
 refine rl_v rfl rfl rfl (ov_iface rfl Tryz.underlying123 (by intro _ h; cases h) rfl) ?_
 refine rl_v rfl rfl rfl (ov_assign rfl rfl) <| rl_nil <| run_ret Tryz.func187 (res1 Tryz.results187 rfl) ?_
 exact ⟨rfl, hO15.tail⟩
end Go.Proofs.YtlldeifbfpmbaaaGreat
