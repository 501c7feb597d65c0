import Derived.Test.YtfbbagnpdfafjaaSeW
import Derived.Test.YtfbbagnpdfafjaaLate
set_option maxRecDepth 100000
namespace Go.Proofs.Ytfbbagnpdfafjaa
open Go.RowKit Go.Proofs
def DlBad (X : MW) (d : Dl) : Prop := ¬ (1 ≤ d.b ∧ d.b ≤ X.mem) ∨ ¬ (1 ≤ d.s ∧ d.s ≤ X.mem) ∨ d.b = d.s ∨ min d.m d.g < 0 ∨ 1000000000000 < max d.m d.g
instance (X : MW) (d : Dl) : Decidable (DlBad X d) := by unfold DlBad; exact inferInstance
def bcode (X : MW) (d : Dl) : Int := if DlBad X d then 1 else if X.c.down = true then 80 else if 1000 ≤ X.deals.length ∨ 3000 < X.bag.length then 6 else 0
theorem in8_any (A : WA) (X : MW) (K : WC) (n : Int) (b k j B : Nat) (H : List (Option Blk)) (w0 w : World) (hO : Own B w0 w H) (hk : H[k]? = some (some (lch b 100 [ptr A.W]))) (hw : H[j]? = some (some (lch A.W 184 (wcells A X K)))) :
  Calls Try.prog 100 #[iv n, ptr b] w fun e w' => e = .returned (.bool (decide (1 ≤ n ∧ n ≤ X.mem))) ∧ w' = w := by
 refine calls_of_run (F := [(0, _), (1, _)]) Try.func100 rfl Try.ntmps100 rfl rfl <| run_seq <| run_region <| rl_v rfl rfl rfl (ov_assign rfl rfl) <| rl_nil <| run_seq <| run_region_join 3 (.bool (decide (1 ≤ n ∧ n ≤ X.mem))) [] (fun hk1 => ?_) ?_
 ·refine rl_v rfl rfl rfl (ov_move rfl rfl) <| rl_v rfl rfl rfl (ov_geq rfl rfl rfl) <| rl_v rfl rfl rfl (ov_move rfl rfl) ?_
  first | refine rl_split_dec 6 rfl (fun g1 => ?_) (fun g1 => ?_) | refine rl_split 6 rfl (fun g1 => ?_) (fun g1 => ?_)
  ·refine rl_gv rfl rfl rfl rfl rfl (ov_move rfl rfl) <| rl_gv rfl rfl rfl rfl rfl (ov_load rfl Try.underlying100 rfl rfl (by exact hO.cellL k hk (off := 0) rfl)) ?_
   refine rl_gv rfl rfl rfl rfl rfl (ov_nil rfl rfl) <| rl_gv rfl rfl rfl rfl rfl (ov_fieldS rfl Try.underlying184 rfl (fo := 0) rfl (by kernel_rfl) rfl) ?_
   refine rl_gv rfl rfl rfl rfl rfl (ov_fieldS rfl Try.underlying104 rfl (fo := 0) rfl (by kernel_rfl) rfl) ?_
   refine rl_gv rfl rfl rfl rfl rfl (ov_load rfl Try.underlying3 rfl rfl (by exact hO.cellL j hw (off := 0) rfl)) ?_
   refine rl_gv rfl rfl rfl rfl rfl (ov_leq rfl rfl rfl) <| rl_v rfl rfl rfl (ov_pick_t rfl rfl rfl) <| rl_v rfl rfl rfl (ov_assign rfl rfl) ?_
   refine rl_nil (hk1 _ (jbd rfl (by omega)) trivial)
  ·refine rl_gskip rfl rfl rfl rfl rfl rfl <| rl_gskip rfl rfl rfl rfl rfl rfl <| rl_gskip rfl rfl rfl rfl rfl rfl <| rl_gskip rfl rfl rfl rfl rfl rfl <| rl_gskip rfl rfl rfl rfl rfl rfl <| rl_gskip rfl rfl rfl rfl rfl rfl <| rl_gskip rfl rfl rfl rfl rfl rfl <| rl_v rfl rfl rfl (ov_pick_f rfl rfl rfl) <| rl_v rfl rfl rfl (ov_assign rfl rfl) ?_
   refine rl_nil (hk1 _ (jbf rfl (by omega)) trivial)
 ·show Run _ _ _ _ [(3, _)] _ _
  refine run_ret Try.func100 (res1 Try.results100 rfl) ?_
  exact ⟨rfl, rfl⟩
theorem grown {X : MW} {K : WC} {N : List (Option Blk)} {v : Value} {blk : Blk} {d : Dl} (hK : WOk X K N) (hr : SRow v 109 4 (X.deals.length + 1) (upd (cnt dll Dl.z X.deals) X.deals.length (dll d)) (some blk)) : WOk { X with deals := X.deals ++ [d] } { K with dv := v } (some blk :: N) := by
 have h := hK.mono (N' := some blk :: N) fun x hx => List.mem_cons_of_mem _ hx
 refine { dv := ?_, bv := h.bv, rc := h.rc, r1 := h.r1, r2 := h.r2, v1 := h.v1, v2 := h.v2, mp := h.mp }
 have h5 := PRow.of_row (N := some blk :: N) hr (List.mem_cons_self ..)
 show PRow _ v 4 (X.deals ++ [d]).length _
 rw [List.length_append]
 exact h5.congr fun i h0 h1 => cnt_app dll Dl.z X.deals d i h0 (by omega)
theorem begin_any (A : WA) (X : MW) (d : Dl) (B : Nat) (Pl R : List (Option Blk)) (w0 w : World) (hG : Good X) (hb : X.bag.length + 5000 < 4000000000000) (h : WAt B w0 w A X Pl R) :
  Calls Try.prog 51 #[ptr A.W, .agg (dll d).toArray] w fun e w' => e = .returned (.tuple #[iv (if bcode X d = 0 then X.deals.length + 1 else 0), iv (bcode X d)]) ∧ WAt B w0 w' A (if bcode X d = 0 then X.begin d else X) Pl R := by
 obtain ⟨K, N, hO, hK, hPl⟩ := h
 have hdn := hG.dn
 refine calls_of_run (F := [(0, _), (1, _)]) Try.func51 rfl Try.ntmps51 rfl rfl <| run_seq <| run_region <| rl_ow rfl (ow_box _ rfl rfl rfl rfl rfl hO) ?_
 rintro _ w1 ⟨b2, rfl, hO2, hs3⟩
 refine rl_ow rfl (ow_box _ rfl rfl rfl rfl rfl hO2) ?_
 rintro _ w4 ⟨b3, rfl, hO5, hs6⟩
 refine rl_v rfl rfl rfl (ov_assign rfl rfl) <| rl_v rfl rfl rfl (ov_assign rfl rfl) <| rl_nil <| run_seq <| run_seq <| run_region <| rl_v rfl rfl rfl (ov_load rfl Try.underlying100 rfl rfl (by exact hO5.cellL 1 rfl (off := 0) rfl)) ?_
 refine rl_v rfl rfl rfl (ov_ptrnil rfl Try.underlying100 rfl) <| rl_nil <| run_cond_f rfl <| run_skip <| run_seq <| run_region <| rl_v rfl rfl rfl (ov_func rfl rfl rfl) <| rl_v rfl rfl rfl (ov_assign rfl rfl) <| rl_nil <| run_seq <| run_seq <| run_region_join 45 (.bool (decide (DlBad X d))) [2, 3] (fun hk7 => ?_) ?_
 ·refine rl_v rfl rfl rfl (ov_move rfl rfl) <| rl_v rfl rfl rfl (ov_fieldS rfl Try.underlying109 rfl (fo := 0) rfl (by kernel_rfl) rfl) ?_
  refine rl_v rfl rfl rfl (ov_load rfl Try.underlying3 rfl rfl (by exact hO5.cellL 0 rfl (off := 0) rfl)) ?_
  refine rl_call callable_100 rfl rfl rfl rfl rfl rfl (in8_any A X K d.b b2 1 2 B _ w0 w4 hO5 rfl rfl) (fun e8 w9 hp10 => ?_)
  obtain ⟨rfl, rfl⟩ := hp10
  refine ⟨_, rfl, ?_⟩
  refine rl_v rfl rfl rfl (ov_not rfl rfl) <| rl_v rfl rfl rfl (ov_move rfl rfl) ?_
  first | refine rl_split_dec 16 rfl (fun hg11 => ?_) (fun hg11 => ?_) | refine rl_split 16 rfl (fun hg11 => ?_) (fun hg11 => ?_)
  ·refine rl_gskip rfl rfl rfl rfl rfl rfl <| rl_gskip rfl rfl rfl rfl rfl rfl <| rl_gskip rfl rfl rfl rfl rfl rfl <| rl_gskip rfl rfl rfl rfl rfl rfl <| rl_gskip rfl rfl rfl rfl rfl rfl <| rl_v rfl rfl rfl (ov_pick_t rfl rfl rfl) <| rl_v rfl rfl rfl (ov_move rfl rfl) <| rl_gskip rfl rfl rfl rfl rfl rfl <| rl_gskip rfl rfl rfl rfl rfl rfl <| rl_gskip rfl rfl rfl rfl rfl rfl <| rl_gskip rfl rfl rfl rfl rfl rfl <| rl_gskip rfl rfl rfl rfl rfl rfl <| rl_v rfl rfl rfl (ov_pick_t rfl rfl rfl) <| rl_v rfl rfl rfl (ov_move rfl rfl) <| rl_gskip rfl rfl rfl rfl rfl rfl <| rl_gskip rfl rfl rfl rfl rfl rfl <| rl_gskip rfl rfl rfl rfl rfl rfl <| rl_gskip rfl rfl rfl rfl rfl rfl <| rl_gskip rfl rfl rfl rfl rfl rfl <| rl_gskip rfl rfl rfl rfl rfl rfl <| rl_v rfl rfl rfl (ov_pick_t rfl rfl rfl) <| rl_v rfl rfl rfl (ov_move rfl rfl) <| rl_gskip rfl rfl rfl rfl rfl rfl <| rl_gskip rfl rfl rfl rfl rfl rfl ?_
   refine rl_gskip rfl rfl rfl rfl rfl rfl <| rl_gskip rfl rfl rfl rfl rfl rfl <| rl_gskip rfl rfl rfl rfl rfl rfl <| rl_gskip rfl rfl rfl rfl rfl rfl <| rl_v rfl rfl rfl (ov_pick_t rfl rfl rfl) ?_
   refine rl_nil (hk7 _ (jbt rfl (by (unfold DlBad; simp only [Bool.not_eq_true', Bool.not_eq_false', decide_eq_false_iff_not, decide_eq_true_eq] at *; omega))) (And.intro rfl (And.intro rfl trivial)))
  ·refine rl_gv rfl rfl rfl rfl rfl (ov_move rfl rfl) <| rl_gv rfl rfl rfl rfl rfl (ov_fieldS rfl Try.underlying109 rfl (fo := 1) rfl (by kernel_rfl) rfl) ?_
   refine rl_gv rfl rfl rfl rfl rfl (ov_load rfl Try.underlying3 rfl rfl (by exact hO5.cellL 0 rfl (off := 1) rfl)) ?_
   refine rl_gcall callable_100 rfl rfl rfl rfl rfl rfl rfl rfl (in8_any A X K d.s b2 1 2 B _ w0 w9 hO5 rfl rfl) (fun e12 w13 hp14 => ?_)
   obtain ⟨rfl, rfl⟩ := hp14
   refine ⟨_, rfl, ?_⟩
   refine rl_gv rfl rfl rfl rfl rfl (ov_not rfl rfl) <| rl_v rfl rfl rfl (ov_pick_f rfl rfl rfl) <| rl_v rfl rfl rfl (ov_move rfl rfl) ?_
   first | refine rl_split_dec 23 rfl (fun hg15 => ?_) (fun hg15 => ?_) | refine rl_split 23 rfl (fun hg15 => ?_) (fun hg15 => ?_)
   ·refine rl_gskip rfl rfl rfl rfl rfl rfl <| rl_gskip rfl rfl rfl rfl rfl rfl <| rl_gskip rfl rfl rfl rfl rfl rfl <| rl_gskip rfl rfl rfl rfl rfl rfl <| rl_gskip rfl rfl rfl rfl rfl rfl <| rl_v rfl rfl rfl (ov_pick_t rfl rfl rfl) <| rl_v rfl rfl rfl (ov_move rfl rfl) <| rl_gskip rfl rfl rfl rfl rfl rfl <| rl_gskip rfl rfl rfl rfl rfl rfl <| rl_gskip rfl rfl rfl rfl rfl rfl <| rl_gskip rfl rfl rfl rfl rfl rfl <| rl_gskip rfl rfl rfl rfl rfl rfl <| rl_gskip rfl rfl rfl rfl rfl rfl <| rl_v rfl rfl rfl (ov_pick_t rfl rfl rfl) <| rl_v rfl rfl rfl (ov_move rfl rfl) <| rl_gskip rfl rfl rfl rfl rfl rfl <| rl_gskip rfl rfl rfl rfl rfl rfl <| rl_gskip rfl rfl rfl rfl rfl rfl <| rl_gskip rfl rfl rfl rfl rfl rfl <| rl_gskip rfl rfl rfl rfl rfl rfl <| rl_gskip rfl rfl rfl rfl rfl rfl <| rl_v rfl rfl rfl (ov_pick_t rfl rfl rfl) ?_
    refine rl_nil (hk7 _ (jbt rfl (by (unfold DlBad; simp only [Bool.not_eq_true', Bool.not_eq_false', decide_eq_false_iff_not, decide_eq_true_eq] at *; omega))) (And.intro rfl (And.intro rfl trivial)))
   ·refine rl_gv rfl rfl rfl rfl rfl (ov_fieldS rfl Try.underlying109 rfl (fo := 0) rfl (by kernel_rfl) rfl) ?_
    refine rl_gv rfl rfl rfl rfl rfl (ov_load rfl Try.underlying3 rfl rfl (by exact hO5.cellL 0 rfl (off := 0) rfl)) ?_
    refine rl_gv rfl rfl rfl rfl rfl (ov_fieldS rfl Try.underlying109 rfl (fo := 1) rfl (by kernel_rfl) rfl) ?_
    refine rl_gv rfl rfl rfl rfl rfl (ov_load rfl Try.underlying3 rfl rfl (by exact hO5.cellL 0 rfl (off := 1) rfl)) ?_
    refine rl_gv rfl rfl rfl rfl rfl (ov_eql rfl rfl rfl) <| rl_v rfl rfl rfl (ov_pick_f rfl rfl rfl) <| rl_v rfl rfl rfl (ov_move rfl rfl) ?_
    first | refine rl_split_dec 30 rfl (fun hg16 => ?_) (fun hg16 => ?_) | refine rl_split 30 rfl (fun hg16 => ?_) (fun hg16 => ?_)
    ·refine rl_gskip rfl rfl rfl rfl rfl rfl <| rl_gskip rfl rfl rfl rfl rfl rfl <| rl_gskip rfl rfl rfl rfl rfl rfl <| rl_gskip rfl rfl rfl rfl rfl rfl <| rl_gskip rfl rfl rfl rfl rfl rfl <| rl_gskip rfl rfl rfl rfl rfl rfl <| rl_v rfl rfl rfl (ov_pick_t rfl rfl rfl) <| rl_v rfl rfl rfl (ov_move rfl rfl) <| rl_gskip rfl rfl rfl rfl rfl rfl <| rl_gskip rfl rfl rfl rfl rfl rfl <| rl_gskip rfl rfl rfl rfl rfl rfl <| rl_gskip rfl rfl rfl rfl rfl rfl <| rl_gskip rfl rfl rfl rfl rfl rfl <| rl_gskip rfl rfl rfl rfl rfl rfl <| rl_v rfl rfl rfl (ov_pick_t rfl rfl rfl) ?_
     refine rl_nil (hk7 _ (jbt rfl (by (unfold DlBad; simp only [Bool.not_eq_true', Bool.not_eq_false', decide_eq_false_iff_not, decide_eq_true_eq] at *; omega))) (And.intro rfl (And.intro rfl trivial)))
    ·refine rl_gv rfl rfl rfl rfl rfl (ov_fieldS rfl Try.underlying109 rfl (fo := 2) rfl (by kernel_rfl) rfl) ?_
     refine rl_gv rfl rfl rfl rfl rfl (ov_load rfl Try.underlying2 rfl rfl (by exact hO5.cellL 0 rfl (off := 2) rfl)) ?_
     refine rl_gv rfl rfl rfl rfl rfl (ov_fieldS rfl Try.underlying109 rfl (fo := 3) rfl (by kernel_rfl) rfl) ?_
     refine rl_gv rfl rfl rfl rfl rfl (ov_load rfl Try.underlying2 rfl rfl (by exact hO5.cellL 0 rfl (off := 3) rfl)) ?_
     refine rl_gv rfl rfl rfl rfl rfl (ov_min rfl rfl rfl) <| rl_gv rfl rfl rfl rfl rfl (ov_lss rfl rfl rfl) <| rl_v rfl rfl rfl (ov_pick_f rfl rfl rfl) <| rl_v rfl rfl rfl (ov_move rfl rfl) ?_
     first | refine rl_split_dec 38 rfl (fun hg17 => ?_) (fun hg17 => ?_) | refine rl_split 38 rfl (fun hg17 => ?_) (fun hg17 => ?_)
     ·refine rl_gskip rfl rfl rfl rfl rfl rfl <| rl_gskip rfl rfl rfl rfl rfl rfl <| rl_gskip rfl rfl rfl rfl rfl rfl <| rl_gskip rfl rfl rfl rfl rfl rfl <| rl_gskip rfl rfl rfl rfl rfl rfl <| rl_gskip rfl rfl rfl rfl rfl rfl <| rl_v rfl rfl rfl (ov_pick_t rfl rfl rfl) ?_
      refine rl_nil (hk7 _ (jbt rfl (by (unfold DlBad; simp only [Bool.not_eq_true', Bool.not_eq_false', decide_eq_false_iff_not, decide_eq_true_eq] at *; omega))) (And.intro rfl (And.intro rfl trivial)))
     ·refine rl_gv rfl rfl rfl rfl rfl (ov_fieldS rfl Try.underlying109 rfl (fo := 2) rfl (by kernel_rfl) rfl) ?_
      refine rl_gv rfl rfl rfl rfl rfl (ov_load rfl Try.underlying2 rfl rfl (by exact hO5.cellL 0 rfl (off := 2) rfl)) ?_
      refine rl_gv rfl rfl rfl rfl rfl (ov_fieldS rfl Try.underlying109 rfl (fo := 3) rfl (by kernel_rfl) rfl) ?_
      refine rl_gv rfl rfl rfl rfl rfl (ov_load rfl Try.underlying2 rfl rfl (by exact hO5.cellL 0 rfl (off := 3) rfl)) ?_
      refine rl_gv rfl rfl rfl rfl rfl (ov_max rfl rfl rfl) <| rl_gv rfl rfl rfl rfl rfl (ov_gtr rfl rfl rfl) <| rl_v rfl rfl rfl (ov_pick_f rfl rfl rfl) ?_
      refine rl_nil (hk7 _ (jbd rfl (by (unfold DlBad; simp only [Bool.not_eq_true', Bool.not_eq_false', decide_eq_false_iff_not, decide_eq_true_eq] at *; omega))) (And.intro rfl (And.intro rfl trivial)))
 ·show Run _ _ _ _ [(45, _), (2, _), (3, _)] _ _
  first | refine run_cond_dec rfl (fun bad => ?_) (fun badn => ?_) | refine run_cond rfl (fun bad => ?_) (fun badn => ?_)
  ·have eb : bcode X d = 1 := if_pos bad
   refine run_seq <| run_region <| rl_v rfl rfl rfl (ov_assign rfl rfl) <| rl_v rfl rfl rfl (ov_assign rfl rfl) <| rl_nil <| run_ret Try.func51 (res2 Try.results51 rfl rfl) ?_
   exact ⟨by rw [eb]; rfl, by rw [eb, if_neg (by decide)]; exact (WAt.push2 hO5 hK hPl).drop.drop⟩
  ·refine run_skip <| run_seq <| run_seq <| run_region <| rl_v rfl rfl rfl (ov_load rfl Try.underlying100 rfl rfl (by exact hO5.cellL 1 rfl (off := 0) rfl)) ?_
   refine rl_call callable_101 rfl rfl rfl rfl rfl rfl (wup_any A X 0 B Pl _ w0 w4 (.inl rfl) (WAt.push2 hO5 hK hPl)) (fun e18 w19 hp20 => ?_)
   obtain ⟨rfl, hW⟩ := hp20
   refine ⟨_, rfl, ?_⟩
   clear hK hPl
   obtain ⟨K, N, hOu, hK, hPl⟩ := hW.pull2
   obtain ⟨ao, cap, hbv, hcap, gb, hga, hrow⟩ := bagRow hK
   obtain ⟨dao, dcap, hdv, hdc⟩ := hK.dv.val
   have hdr := hK.dv
   rw [hdv] at hdr
   obtain ⟨db, hda, hdrow⟩ := hdr.open
   refine rl_v rfl rfl rfl (ov_not rfl rfl) <| rl_nil ?_
   first | refine run_cond_dec rfl (fun g2 => ?_) (fun g2n => ?_) | refine run_cond rfl (fun g2 => ?_) (fun g2n => ?_)
   ·have eb : bcode X d = 80 := by unfold bcode; rw [if_neg badn, if_pos (by simpa [MW.lg] using g2)]
    refine run_seq <| run_region <| rl_v rfl rfl rfl (ov_assign rfl rfl) <| rl_v rfl rfl rfl (ov_assign rfl rfl) <| rl_nil <| run_ret Try.func51 (res2 Try.results51 rfl rfl) ?_
    exact ⟨by rw [eb]; rfl, by rw [eb, if_neg (by decide)]; exact (WAt.push2 hOu hK hPl).drop.drop⟩
   ·have hup : ¬ X.c.down = true := by simpa [MW.lg] using g2n
    refine run_skip <| run_seq <| run_seq <| run_region_join 62 (.bool (decide (1000 ≤ X.deals.length ∨ 3000 < X.bag.length))) [2, 3] (fun hk21 => ?_) ?_
    ·refine rl_v rfl rfl rfl (ov_load rfl Try.underlying100 rfl rfl (by exact hOu.cellL 1 rfl (off := 0) rfl)) ?_
     refine rl_v rfl rfl rfl (ov_nil rfl rfl) <| rl_v rfl rfl rfl (ov_fieldS rfl Try.underlying184 rfl (fo := 4) rfl (by kernel_rfl) rfl) ?_
     refine rl_v rfl rfl rfl (ov_load rfl Try.underlying178 rfl rfl (by exact hOu.cellL 2 rfl (off := 4) (congrArg some hdv))) ?_
     refine rl_v rfl rfl rfl (ov_len rfl Try.underlying178 rfl) <| rl_v rfl rfl rfl (ov_geq rfl rfl rfl) <| rl_v rfl rfl rfl (ov_move rfl rfl) ?_
     first | refine rl_split_dec 55 rfl (fun g3 => ?_) (fun g3 => ?_) | refine rl_split 55 rfl (fun g3 => ?_) (fun g3 => ?_)
     ·refine rl_gskip rfl rfl rfl rfl rfl rfl <| rl_gskip rfl rfl rfl rfl rfl rfl <| rl_gskip rfl rfl rfl rfl rfl rfl <| rl_gskip rfl rfl rfl rfl rfl rfl <| rl_gskip rfl rfl rfl rfl rfl rfl <| rl_gskip rfl rfl rfl rfl rfl rfl <| rl_v rfl rfl rfl (ov_pick_t rfl rfl rfl) ?_
      refine rl_nil (hk21 _ (jbt rfl (by omega)) (And.intro rfl (And.intro rfl trivial)))
     ·refine rl_gv rfl rfl rfl rfl rfl (ov_load rfl Try.underlying100 rfl rfl (by exact hOu.cellL 1 rfl (off := 0) rfl)) ?_
      refine rl_gv rfl rfl rfl rfl rfl (ov_nil rfl rfl) <| rl_gv rfl rfl rfl rfl rfl (ov_fieldS rfl Try.underlying184 rfl (fo := 8) rfl (by kernel_rfl) rfl) ?_
      refine rl_gv rfl rfl rfl rfl rfl (ov_load rfl Try.underlying182 rfl rfl (by exact hOu.cellL 2 rfl (off := 8) (congrArg some hbv))) ?_
      refine rl_gv rfl rfl rfl rfl rfl (ov_len rfl Try.underlying182 rfl) <| rl_gv rfl rfl rfl rfl rfl (ov_gtr rfl rfl rfl) <| rl_v rfl rfl rfl (ov_pick_f rfl rfl rfl) ?_
      refine rl_nil (hk21 _ (jbd rfl (by omega)) (And.intro rfl (And.intro rfl trivial)))
    ·show Run _ _ _ _ [(62, _), (2, _), (3, _)] _ _
     first | refine run_cond_dec rfl (fun full => ?_) (fun fulln => ?_) | refine run_cond rfl (fun full => ?_) (fun fulln => ?_)
     ·have eb : bcode X d = 6 := by unfold bcode; rw [if_neg badn, if_neg hup, if_pos full]
      refine run_seq <| run_region <| rl_v rfl rfl rfl (ov_assign rfl rfl) <| rl_v rfl rfl rfl (ov_assign rfl rfl) <| rl_nil <| run_ret Try.func51 (res2 Try.results51 rfl rfl) ?_
      exact ⟨by rw [eb]; rfl, by rw [eb, if_neg (by decide)]; exact (WAt.push2 hOu hK hPl).drop.drop⟩
     ·have eb : bcode X d = 0 := by unfold bcode; rw [if_neg badn, if_neg hup, if_neg fulln]
      refine run_skip <| run_seq <| run_late (fun w' => Own B w0 w' (some (lch b3 109 (dll d)) :: some (lch b2 100 [ptr A.W]) :: (K.M A X ++ (N ++ R)))) 21 mixed ?_
      have hO24 := hOu.drew
      generalize World.drew w19 = w23 at hO24 ⊢
      have hS25 : Own B w0 w23 (some (lch b3 109 (dll d)) :: some (lch b2 100 [ptr A.W]) :: (K.M A X ++ (N ++ R))) := by first | exact hO24 | exact hO24.tail
      refine rhl_v 0 rfl (by kernel_rfl) rfl rfl rfl hS25 (fun _ hS => ov_load rfl Try.underlying100 rfl rfl (by exact hS.cellL 1 rfl (off := 0) rfl)) ?_
      refine rhl_v 1 rfl (by kernel_rfl) rfl rfl rfl hS25 (fun _ hS => ov_load rfl Try.underlying100 rfl rfl (by exact hS.cellL 1 rfl (off := 0) rfl)) ?_
      refine rhl_v 2 rfl (by kernel_rfl) rfl rfl rfl hS25 (fun _ hS => ov_nil rfl rfl) ?_
      refine rhl_v 3 rfl (by kernel_rfl) rfl rfl rfl hS25 (fun _ hS => ov_fieldS rfl Try.underlying184 rfl (fo := 4) rfl (by kernel_rfl) rfl) ?_
      refine rhl_v 4 rfl (by kernel_rfl) rfl rfl rfl hS25 (fun _ hS => ov_load rfl Try.underlying178 rfl rfl (by exact hS.cellL 2 rfl (off := 4) (congrArg some hdv))) ?_
      refine rhl_v 5 rfl (by kernel_rfl) rfl rfl rfl hS25 (fun _ hS => ov_load rfl Try.underlying100 rfl rfl (by exact hS.cellL 1 rfl (off := 0) rfl)) ?_
      refine rhl_v 6 rfl (by kernel_rfl) rfl rfl rfl hS25 (fun _ hS => ov_nil rfl rfl) ?_
      refine rhl_v 7 rfl (by kernel_rfl) rfl rfl rfl hS25 (fun _ hS => ov_fieldS rfl Try.underlying184 rfl (fo := 4) rfl (by kernel_rfl) rfl) ?_
      refine rhl_v 8 rfl (by kernel_rfl) rfl rfl rfl hS25 (fun _ hS => ov_load rfl Try.underlying178 rfl rfl (by exact hS.cellL 2 rfl (off := 4) (congrArg some hdv))) ?_
      refine rhl_v 9 rfl (by kernel_rfl) rfl rfl rfl hS25 (fun _ hS => ov_len rfl Try.underlying178 rfl) ?_
      refine rhl_v 10 rfl (by kernel_rfl) rfl rfl rfl hS25 (fun _ hS => ov_load rfl Try.underlying100 rfl rfl (by exact hS.cellL 1 rfl (off := 0) rfl)) ?_
      refine rhl_v 11 rfl (by kernel_rfl) rfl rfl rfl hS25 (fun _ hS => ov_nil rfl rfl) ?_
      refine rhl_v 12 rfl (by kernel_rfl) rfl rfl rfl hS25 (fun _ hS => ov_fieldS rfl Try.underlying184 rfl (fo := 4) rfl (by kernel_rfl) rfl) ?_
      refine rhl_v 13 rfl (by kernel_rfl) rfl rfl rfl hS25 (fun _ hS => ov_load rfl Try.underlying178 rfl rfl (by exact hS.cellL 2 rfl (off := 4) (congrArg some hdv))) ?_
      refine rhl_v 14 rfl (by kernel_rfl) rfl rfl rfl hS25 (fun _ hS => ov_len rfl Try.underlying178 rfl) ?_
      refine rhl_v 15 rfl (by kernel_rfl) rfl rfl rfl hS25 (fun _ hS => ov_slice3 X.deals.length rfl Try.underlying178 (by kernel_rfl) (s := 4) rfl rfl rfl rfl rfl (by omega)) ?_
      refine rhl_v 16 rfl (by kernel_rfl) rfl rfl rfl hS25 (fun _ hS => ov_loadW rfl Try.underlying109 rfl (by kernel_rfl) rfl hS 0 rfl) ?_
      refine rhl_any1 17 (by kernel_rfl) ?_
      refine rcl_op rfl rfl (ow_build [_] rfl rfl rfl rfl rfl Try.underlying178 info_109 (by decide) hO24 rfl rfl) ?_
      rintro _ w26 ⟨b80, rfl, hO27, hs28⟩
      have hS29 : Own B w0 w26 (some (lch b3 109 (dll d)) :: some (lch b2 100 [ptr A.W]) :: (K.M A X ++ (N ++ R))) := by first | exact hO27 | exact hO27.tail
      refine ⟨hS29, ?_⟩
      refine rhl_any1 18 (by kernel_rfl) ?_
      refine rcl_op rfl rfl (ow_appG rfl rfl rfl Try.underlying178 info_109 rfl rfl hO27 rfl rfl rfl hda (hdrow hO27.tail mem8) ⟨by omega, by omega⟩) ?_
      rintro _ w30 ⟨v81, blk, rfl, hO31, hr81, hs32⟩
      have hS33 : Own B w0 w30 (some (lch b3 109 (dll d)) :: some (lch b2 100 [ptr A.W]) :: (K.M A X ++ (N ++ R))) := by first | exact hO31 | exact hO31.tail
      refine ⟨hS33, ?_⟩
      obtain ⟨a81, c81, rfl⟩ := hr81.val
      refine rhl_any1 19 (by kernel_rfl) ?_
      refine rcl_op rfl rfl (ow_v rfl rfl (ov_nil rfl rfl)) ?_
      rintro _ _ ⟨rfl, hw34⟩
      replace hw34 := hw34.symm; subst hw34
      refine ⟨hS33, ?_⟩
      refine rhl_any1 20 (by kernel_rfl) ?_
      refine rcl_op rfl rfl (ow_v rfl rfl (ov_fieldS rfl Try.underlying184 rfl (fo := 4) rfl (by kernel_rfl) rfl)) ?_
      rintro _ _ ⟨rfl, hw35⟩
      replace hw35 := hw35.symm; subst hw35
      refine ⟨hS33, ?_⟩
      refine rhl_any1 21 (by kernel_rfl) ?_
      refine rcl_last rfl rfl (ow_storeL rfl rfl (by kernel_rfl) hO31 3 rfl rfl rfl rfl rfl) ?_
      rintro _ w36 ⟨rfl, hO37, hs38⟩
      have hK3 := grown (d := d) hK hr81
      have hW3 : WAt B w0 w36 A { X with deals := X.deals ++ [d] } Pl (some (lch b3 109 (dll d)) :: some (lch b2 100 [ptr A.W]) :: R) :=
       WAt.push2 (N := some blk :: N) (hO37.perm (perm_mid (some blk) (some (lch b3 109 (dll d)) :: some (lch b2 100 [ptr A.W]) :: ({ K with dv := .slice a81 (X.deals.length + 1) c81 } : WC).M A X) (N ++ R))) hK3 (fun x hx => List.mem_cons_of_mem _ (hPl x hx))
      refine rhl_done (by kernel_rfl) ?_
      refine run_seq <| run_region <| rl_v rfl rfl rfl (ov_load rfl Try.underlying100 rfl rfl (by exact hO37.cellL 2 rfl (off := 0) rfl)) ?_
      refine rl_v rfl rfl rfl (ov_nil rfl rfl) <| rl_v rfl rfl rfl (ov_fieldS rfl Try.underlying184 rfl (fo := 5) rfl (by kernel_rfl) rfl) ?_
      refine rl_v rfl rfl rfl (ov_indexA1 rfl Try.underlying181 (by kernel_rfl) rfl rfl ⟨by omega, by omega⟩) ?_
      refine rl_v rfl rfl rfl (ov_load rfl Try.underlying180 rfl rfl (by exact hO37.cellL 3 rfl (off := 5) rfl)) ?_
      refine rl_v rfl rfl rfl (ov_assert rfl Try.underlying185 rfl rfl) <| rl_v rfl rfl rfl (ov_assign rfl rfl) <| rl_nil <| run_seq <| run_region <| rl_v rfl rfl rfl (ov_move rfl rfl) <| rl_v rfl rfl rfl (ov_load rfl Try.underlying100 rfl rfl (by exact hO37.cellL 2 rfl (off := 0) rfl)) ?_
      refine rl_v rfl rfl rfl (ov_nil rfl rfl) <| rl_v rfl rfl rfl (ov_fieldS rfl Try.underlying184 rfl (fo := 4) rfl (by kernel_rfl) rfl) ?_
      refine rl_v rfl rfl rfl (ov_load rfl Try.underlying178 rfl rfl (by exact hO37.cellL 3 rfl (off := 4) rfl)) ?_
      refine rl_v rfl rfl rfl (ov_len rfl Try.underlying178 rfl) ?_
      refine rl_call callable_102 rfl rfl rfl rfl rfl rfl (turn_any A { X with deals := X.deals ++ [d] } ((X.deals.length + 1 : Nat) : Int) 1 1 B Pl _ w0 w36 (show X.bag.length + 2 ≤ _ by omega) hW3) (fun e39 w40 hp41 => ?_)
      obtain ⟨rfl, hW4⟩ := hp41
      refine ⟨_, rfl, ?_⟩
      rw [show ((X.deals.length + 1 : Nat) : Int) = (X.deals.length : Int) + 1 by omega] at hW4
      obtain ⟨K5, N5, hO5, hK5, hPl5⟩ := hW4.pull2
      obtain ⟨dao5, dcap5, hdv5, hdc5⟩ := hK5.dv.val
      have hl5 : (({ X with deals := X.deals ++ [d] } : MW).turn (X.deals.length + 1) 1 1).deals.length = X.deals.length + 1 := by rw [(MW.turn_same _ _ _ _).2.1]; simp
      rw [hl5] at hdv5
      refine rl_nil <| run_seq <| run_region <| rl_v rfl rfl rfl (ov_load rfl Try.underlying100 rfl rfl (by exact hO5.cellL 1 rfl (off := 0) rfl)) ?_
      refine rl_v rfl rfl rfl (ov_nil rfl rfl) <| rl_v rfl rfl rfl (ov_fieldS rfl Try.underlying184 rfl (fo := 4) rfl (by kernel_rfl) rfl) ?_
      refine rl_v rfl rfl rfl (ov_load rfl Try.underlying178 rfl rfl (by exact hO5.cellL 2 rfl (off := 4) (congrArg some hdv5))) ?_
      refine rl_v rfl rfl rfl (ov_len rfl Try.underlying178 rfl) <| rl_v rfl rfl rfl (ov_assign rfl rfl) <| rl_v rfl rfl rfl (ov_assign rfl rfl) <| rl_nil <| run_ret Try.func51 (res2 Try.results51 rfl rfl) ?_
      exact ⟨by rw [eb]; rfl, by rw [eb, if_pos rfl]; exact hW4.drop.drop⟩
end Go.Proofs.Ytfbbagnpdfafjaa
