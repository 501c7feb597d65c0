import Derived.Test.YtijffdhailddoaaPaA
set_option maxRecDepth 100000
namespace Go.Proofs.Ytijffdhailddoaa
open Go.RowKit Go.Proofs
def acc7 : List Value := [iv 7, iv 0, iv 0, iv 0, iv 0, iv 0, iv 0, iv 0, iv 0, iv 0, iv 0, iv 0, iv 0, iv 0, .bool false]
abbrev accs (ab : Nat) : Value := .slice (some ⟨ab, 0, none⟩) 2 2
theorem acell {ab : Nat} {G : Int → List Value} {ca : Option Blk} {B : Nat} {w0 w : World} {H : List (Option Blk)} (h : SRow (accs ab) 141 15 2 G ca) (hO : Own B w0 w H) (k : Nat) (hk : H[k]? = some ca) :
  ∀ i : Int, 0 ≤ i → i < (2 : Nat) → ∀ fo, fo < 15 → w.cell? ⟨ab, 0 + i.toNat * 15 + fo, none⟩ = some ((G i).getD fo undef) := by
 obtain ⟨ao, cap, b, e, h1, h2⟩ := h.open hO k hk
 cases e
 cases h1 (by omega)
 exact h2
theorem isMember_1 (hb B : Nat) (ab : Nat) (G : Int → Value) (H : List (Option Blk)) (w0 w : World) (hO : Own B w0 w (some (lch hb 136 (hcl 1 G (accs ab))) :: H)) :
  Calls Try.prog 56 #[ptr hb, iv 1] w fun e w' => e = .returned (.bool true) ∧ w' = w := by
 refine calls_of_run (F := [(0, _), (1, _)]) Try.func56 rfl Try.ntmps56 rfl rfl <| run_seq <| run_region <| rl_v rfl rfl rfl (ov_assign rfl rfl) <| rl_nil <| run_seq <| run_region <| rl_v rfl rfl rfl (ov_move rfl rfl) <| rl_v rfl rfl rfl (ov_geq rfl rfl rfl) <| rl_v rfl rfl rfl (ov_move rfl rfl) ?_
 first | refine rl_yesD 7 rfl ((by decide)) ?_ | refine rl_yes 7 rfl ((by decide)) ?_
 refine rl_gv rfl rfl rfl rfl rfl (ov_move rfl rfl) <| rl_gv rfl rfl rfl rfl rfl (ov_move rfl rfl) <| rl_gv rfl rfl rfl rfl rfl (ov_nil rfl rfl) <| rl_gv rfl rfl rfl rfl rfl (ov_fieldS rfl Try.underlying136 rfl (fo := 17) rfl (by kernel_rfl) rfl) ?_
 refine rl_gv rfl rfl rfl rfl rfl (ov_load rfl Try.underlying132 rfl rfl (by exact hO.cellL 0 rfl (off := 17) rfl)) ?_
 refine rl_gv rfl rfl rfl rfl rfl (ov_len rfl Try.underlying132 rfl) <| rl_gv rfl rfl rfl rfl rfl (ov_leq rfl rfl rfl) <| rl_v rfl rfl rfl (ov_pick_t rfl rfl rfl) <| rl_v rfl rfl rfl (ov_assign rfl rfl) <| rl_nil <| run_ret Try.func56 (res1 Try.results56 rfl) ?_
 exact ⟨rfl, rfl⟩
theorem active_1 (hb B : Nat) (ab : Nat) (G : Int → Value) (ca : Option Blk) (H : List (Option Blk)) (w0 w : World) (hR : SRow (accs ab) 141 15 2 (fun _ => acc0) ca) (hO : Own B w0 w (some (lch hb 136 (hcl 1 G (accs ab))) :: ca :: H)) :
  Calls Try.prog 51 #[ptr hb, iv 1] w fun e w' => e = .returned (.tuple #[ptr ab, iv 0]) ∧ w' = w := by
 have hrd := acell hR hO 1 rfl
 refine calls_of_run (F := [(0, _), (1, _)]) Try.func51 rfl Try.ntmps51 rfl rfl <| run_seq <| run_region <| rl_v rfl rfl rfl (ov_assign rfl rfl) <| rl_v rfl rfl rfl (ov_assign rfl rfl) <| rl_nil <| run_seq <| run_seq <| run_region <| rl_v rfl rfl rfl (ov_move rfl rfl) <| rl_v rfl rfl rfl (ov_ptrnil rfl Try.underlying99 rfl) <| rl_nil <| run_cond_f rfl <| run_skip <| run_seq <| run_seq <| run_region <| rl_v rfl rfl rfl (ov_move rfl rfl) <| rl_v rfl rfl rfl (ov_move rfl rfl) ?_
 refine rl_call callable_56 rfl rfl rfl rfl rfl rfl (isMember_1 hb B ab G _ w0 w hO) (fun e1 w2 hp3 => ?_)
 obtain ⟨rfl, hw1⟩ := hp3
 refine ⟨_, rfl, ?_⟩
 subst hw1
 refine rl_v rfl rfl rfl (ov_not rfl rfl) <| rl_nil <| run_cond_f rfl <| run_skip <| run_seq <| run_region <| rl_v rfl rfl rfl (ov_move rfl rfl) <| rl_v rfl rfl rfl (ov_nil rfl rfl) <| rl_v rfl rfl rfl (ov_fieldS rfl Try.underlying136 rfl (fo := 17) rfl (by kernel_rfl) rfl) ?_
 refine rl_v rfl rfl rfl (ov_load rfl Try.underlying132 rfl rfl (by exact hO.cellL 0 rfl (off := 17) rfl)) ?_
 refine rl_v rfl rfl rfl (ov_move rfl rfl) <| rl_v rfl rfl rfl (ov_sub rfl rfl rfl (by omega)) ?_
 refine rl_v rfl rfl rfl (ov_index rfl Try.underlying132 (by kernel_rfl) (s := 15) rfl rfl ⟨by omega, by omega⟩ rfl) ?_
 refine rl_v rfl rfl rfl (ov_assign rfl rfl) <| rl_nil <| run_seq <| run_seq <| run_region <| rl_v rfl rfl rfl (ov_move rfl rfl) <| rl_v rfl rfl rfl (ov_nil rfl rfl) <| rl_v rfl rfl rfl (ov_fieldS rfl Try.underlying141 rfl (fo := 14) rfl (by kernel_rfl) rfl) ?_
 refine rl_v rfl rfl rfl (ov_load rfl Try.underlying4 rfl rfl (by exact hrd 0 (by omega) (by omega) 14 (by omega))) ?_
 refine rl_nil <| run_cond_f rfl <| run_skip <| run_seq <| run_region <| rl_v rfl rfl rfl (ov_move rfl rfl) <| rl_v rfl rfl rfl (ov_assign rfl rfl) <| rl_v rfl rfl rfl (ov_assign rfl rfl) <| rl_nil <| run_ret Try.func51 (res2 Try.results51 rfl rfl) ?_
 exact ⟨rfl, rfl⟩
theorem deposit_1 (hb B : Nat) (ab : Nat) (G : Int → Value) (ca : Option Blk) (H : List (Option Blk)) (w0 w : World) (hR : SRow (accs ab) 141 15 2 (fun _ => acc0) ca) (hO : Own B w0 w (some (lch hb 136 (hcl 1 G (accs ab))) :: ca :: H)) :
  Calls Try.prog 35 #[ptr hb, iv 1, iv 7] w fun e w' => e = .returned (iv 0) ∧ ∃ c2, SRow (accs ab) 141 15 2 (upd (fun _ => acc0) 0 acc7) c2 ∧ Own B w0 w' (some (lch hb 136 (hcl 1 G (accs ab))) :: c2 :: H) := by
 refine calls_of_run (F := [(0, _), (1, _), (2, _)]) Try.func35 rfl Try.ntmps35 rfl rfl <| run_seq <| run_region <| rl_v rfl rfl rfl (ov_assign rfl rfl) <| rl_nil <| run_seq <| run_region <| rl_v rfl rfl rfl (ov_move rfl rfl) <| rl_v rfl rfl rfl (ov_move rfl rfl) ?_
 refine rl_call callable_51 rfl rfl rfl rfl rfl rfl (active_1 hb B ab G ca _ w0 w hR hO) (fun e1 w2 hp3 => ?_)
 obtain ⟨rfl, hw1⟩ := hp3
 refine ⟨_, rfl, ?_⟩
 subst hw1
 refine rl_v rfl rfl rfl (ov_move rfl rfl) <| rl_v rfl rfl rfl (ov_extract rfl rfl (by rfl)) ?_
 refine rl_v rfl rfl rfl (ov_extract rfl rfl (by rfl)) ?_
 refine rl_v rfl rfl rfl (ov_assign rfl rfl) <| rl_v rfl rfl rfl (ov_assign rfl rfl) <| rl_nil <| run_seq <| run_seq <| run_region <| rl_v rfl rfl rfl (ov_move rfl rfl) <| rl_v rfl rfl rfl (ov_neq rfl rfl rfl) <| rl_nil <| run_cond_f rfl <| run_skip <| run_seq <| run_seq <| run_region <| rl_v rfl rfl rfl (ov_move rfl rfl) ?_
 refine rl_call callable_45 rfl rfl rfl rfl rfl rfl (in_yes 7 1 1000000000000 w2 (by omega)) (fun e4 w5 hp6 => ?_)
 obtain ⟨rfl, hw1⟩ := hp6
 refine ⟨_, rfl, ?_⟩
 subst hw1
 refine rl_v rfl rfl rfl (ov_not rfl rfl) <| rl_nil <| run_cond_f rfl ?_
 have hrd := acell hR hO 1 rfl
 refine run_skip <| run_seq <| run_region <| rl_v rfl rfl rfl (ov_move rfl rfl) <| rl_v rfl rfl rfl (ov_nil rfl rfl) <| rl_v rfl rfl rfl (ov_fieldS rfl Try.underlying141 rfl (fo := 0) rfl (by kernel_rfl) rfl) ?_
 refine rl_v rfl rfl rfl (ov_load rfl Try.underlying2 rfl rfl (by exact hrd 0 (by omega) (by omega) 0 (by omega))) ?_
 refine rl_v rfl rfl rfl (ov_move rfl rfl) <| rl_v rfl rfl rfl (ov_add rfl rfl rfl (by omega)) ?_
 refine rl_v rfl rfl rfl (ov_nil rfl rfl) <| rl_v rfl rfl rfl (ov_fieldS rfl Try.underlying141 rfl (fo := 0) rfl (by kernel_rfl) rfl) ?_
 refine rl_ow rfl (ow_storeR (s := 15) (n := 2) (b := ab) (i := 0) (fo := 0) rfl rfl (by kernel_rfl) hO 1 hR rfl (fun _ => rfl) rfl ⟨by omega, by omega⟩ rfl rfl rfl rfl) ?_
 rintro _ w7 ⟨c2, rfl, hO8, hR2, hs9⟩
 refine rl_nil <| run_seq <| run_region <| rl_v rfl rfl rfl (ov_assign rfl rfl) <| rl_nil <| run_ret Try.func35 (res1 Try.results35 rfl) ?_
 exact ⟨rfl, c2, hR2, hO8⟩
theorem total_7 (hb B : Nat) (ab : Nat) (G : Int → Value) (ca : Option Blk) (H : List (Option Blk)) (w0 w : World) (hR : SRow (accs ab) 141 15 2 (upd (fun _ => acc0) 0 acc7) ca) (hO : Own B w0 w (some (lch hb 136 (hcl 1 G (accs ab))) :: ca :: H)) :
  Calls Try.prog 36 #[ptr hb] w fun e w' => e = .returned (iv 7) ∧ Own B w0 w' (some (lch hb 136 (hcl 1 G (accs ab))) :: ca :: H) := by
 refine calls_of_run (F := [(0, _)]) Try.func36 rfl Try.ntmps36 rfl rfl <| run_seq <| run_region <| rl_v rfl rfl rfl (ov_assign rfl rfl) <| rl_nil <| run_seq <| run_seq <| run_region <| rl_v rfl rfl rfl (ov_move rfl rfl) <| rl_v rfl rfl rfl (ov_ptrnil rfl Try.underlying99 rfl) <| rl_nil <| run_cond_f rfl <| run_skip <| run_seq <| run_quiet mixed (by kernel_rfl) ?_
 refine rq_v rfl rfl rfl (fun _ => ov_move rfl rfl) ?_
 refine rq_v rfl rfl rfl (fun _ => ov_nil rfl rfl) ?_
 refine rq_v rfl rfl rfl (fun _ => ov_fieldS rfl Try.underlying136 rfl (fo := 15) rfl (by kernel_rfl) rfl) ?_
 refine rq_v rfl rfl rfl (fun _ => ov_load rfl Try.underlying2 rfl rfl (by show World.cell? w _ = _; first | exact hO.cellL 0 rfl (off := 15) rfl)) ?_
 refine rq_v rfl rfl rfl (fun _ => ov_move rfl rfl) ?_
 refine rq_v rfl rfl rfl (fun _ => ov_nil rfl rfl) ?_
 refine rq_v rfl rfl rfl (fun _ => ov_fieldS rfl Try.underlying136 rfl (fo := 16) rfl (by kernel_rfl) rfl) ?_
 refine rq_v rfl rfl rfl (fun _ => ov_load rfl Try.underlying2 rfl rfl (by show World.cell? w _ = _; first | exact hO.cellL 0 rfl (off := 16) rfl)) ?_
 refine rq_v rfl rfl rfl (fun _ => ov_sub rfl rfl rfl (by omega)) ?_
 refine rq_v rfl rfl rfl (fun _ => ov_assign rfl rfl) ?_
 refine rq_nil (fun n1 => ?_)
 have hO3 := hO.drewN n1
 generalize World.drewN w n1 = w2 at hO3 ⊢
 refine run_seq <| run_seq <| run_region <| rl_v rfl rfl rfl (ov_move rfl rfl) <| rl_v rfl rfl rfl (ov_nil rfl rfl) <| rl_v rfl rfl rfl (ov_fieldS rfl Try.underlying136 rfl (fo := 17) rfl (by kernel_rfl) rfl) ?_
 refine rl_v rfl rfl rfl (ov_load rfl Try.underlying132 rfl rfl (by exact hO3.cellL 0 rfl rfl)) ?_
 refine rl_v rfl rfl rfl (ov_len rfl Try.underlying132 rfl) <| rl_v rfl rfl rfl (ov_move rfl rfl) <| rl_nil <| run_block <| run_once <| run_seq <| run_region <| rl_v rfl rfl rfl (ov_lss rfl rfl rfl) <| rl_nil <| run_seq ?_
 first | refine run_cond_dec rfl (fun q => ?_) (fun q => ?_) | refine run_cond rfl (fun q => ?_) (fun q => ?_)
 ·have hrd := acell hR hO3 1 rfl
  refine run_skip <| run_seq <| run_block <| run_seq <| run_region <| rl_v rfl rfl rfl (ov_index rfl Try.underlying132 (by kernel_rfl) (s := 15) rfl rfl ⟨by omega, by omega⟩ rfl) ?_
  refine rl_v rfl rfl rfl (ov_loadE (off := 0) (n := 2) (i := 0) (G := upd (fun _ => acc0) 0 acc7) rfl Try.underlying141 rfl (by kernel_rfl) rfl ⟨by omega, by omega⟩ rfl hrd) ?_
  refine rl_ow rfl (ow_alloc _ rfl rfl rfl zero_141 rfl hO3) ?_
  rintro _ w4 ⟨b5, rfl, hO5, hs6⟩
  refine rl_ow rfl (ow_storeW rfl rfl (by kernel_rfl) hO5 0 rfl rfl (by rfl) rfl (by rfl)) ?_
  rintro _ w7 ⟨rfl, hO8, hs9⟩
  refine rl_nil <| run_region <| rl_v rfl rfl rfl (ov_move rfl rfl) <| rl_v rfl rfl rfl (ov_fieldS rfl Try.underlying141 rfl (fo := 0) rfl (by kernel_rfl) rfl) ?_
  refine rl_v rfl rfl rfl (ov_load rfl Try.underlying2 rfl rfl (by exact hO8.cellL 0 rfl (off := 0) rfl)) ?_
  refine rl_v rfl rfl rfl (ov_fieldS rfl Try.underlying141 rfl (fo := 1) rfl (by kernel_rfl) rfl) ?_
  refine rl_v rfl rfl rfl (ov_load rfl Try.underlying2 rfl rfl (by exact hO8.cellL 0 rfl (off := 1) rfl)) ?_
  refine rl_v rfl rfl rfl (ov_add rfl rfl rfl (by omega)) ?_
  refine rl_v rfl rfl rfl (ov_add rfl rfl rfl (by omega)) ?_
  refine rl_v rfl rfl rfl (ov_assign rfl rfl) <| rl_nil <| run_inBlock <| run_region <| rl_v rfl rfl rfl (ov_add rfl rfl rfl (by omega)) ?_
  refine rl_v rfl rfl rfl (ov_move rfl rfl) <| rl_nil <| run_again <| run_seq <| run_region <| rl_v rfl rfl rfl (ov_lss rfl rfl rfl) <| rl_nil <| run_seq ?_
  first | refine run_cond_dec rfl (fun q2 => ?_) (fun q2 => ?_) | refine run_cond rfl (fun q2 => ?_) (fun q2 => ?_)
  ·have hrd2 := acell hR hO8 2 rfl
   refine run_skip <| run_seq <| run_block <| run_seq <| run_region <| rl_v rfl rfl rfl (ov_index rfl Try.underlying132 (by kernel_rfl) (s := 15) rfl rfl ⟨by omega, by omega⟩ rfl) ?_
   refine rl_v rfl rfl rfl (ov_loadE (off := 0) (n := 2) (i := 1) (G := upd (fun _ => acc0) 0 acc7) rfl Try.underlying141 rfl (by kernel_rfl) rfl ⟨by omega, by omega⟩ rfl hrd2) ?_
   refine rl_ow rfl (ow_alloc _ rfl rfl rfl zero_141 rfl hO8) ?_
   rintro _ w10 ⟨b6, rfl, hO11, hs12⟩
   refine rl_ow rfl (ow_storeW rfl rfl (by kernel_rfl) hO11 0 rfl rfl (by rfl) rfl (by rfl)) ?_
   rintro _ w13 ⟨rfl, hO14, hs15⟩
   refine rl_nil <| run_region <| rl_v rfl rfl rfl (ov_move rfl rfl) <| rl_v rfl rfl rfl (ov_fieldS rfl Try.underlying141 rfl (fo := 0) rfl (by kernel_rfl) rfl) ?_
   refine rl_v rfl rfl rfl (ov_load rfl Try.underlying2 rfl rfl (by exact hO14.cellL 0 rfl (off := 0) rfl)) ?_
   refine rl_v rfl rfl rfl (ov_fieldS rfl Try.underlying141 rfl (fo := 1) rfl (by kernel_rfl) rfl) ?_
   refine rl_v rfl rfl rfl (ov_load rfl Try.underlying2 rfl rfl (by exact hO14.cellL 0 rfl (off := 1) rfl)) ?_
   refine rl_v rfl rfl rfl (ov_add rfl rfl rfl (by omega)) ?_
   refine rl_v rfl rfl rfl (ov_add rfl rfl rfl (by omega)) ?_
   refine rl_v rfl rfl rfl (ov_assign rfl rfl) <| rl_nil <| run_inBlock <| run_region <| rl_v rfl rfl rfl (ov_add rfl rfl rfl (by omega)) ?_
   refine rl_v rfl rfl rfl (ov_move rfl rfl) <| rl_nil <| run_again <| run_seq <| run_region <| rl_v rfl rfl rfl (ov_lss rfl rfl rfl) <| rl_nil <| run_seq ?_
   first | refine run_cond_dec rfl (fun q3 => ?_) (fun q3 => ?_) | refine run_cond rfl (fun q3 => ?_) (fun q3 => ?_)
   ·exfalso; omega
   ·refine run_exit rfl <| run_seq <| run_region <| rl_v rfl rfl rfl (ov_move rfl rfl) <| rl_v rfl rfl rfl (ov_assign rfl rfl) <| rl_nil <| run_ret Try.func36 (res1 Try.results36 rfl) ?_
    exact ⟨rfl, hO14.tail.tail⟩
  ·exfalso; omega
 ·exfalso; omega
end Go.Proofs.Ytijffdhailddoaa
