import Derived.Test.YteagflekbbchhaaReH
set_option maxRecDepth 100000
namespace Go.Proofs.Yteagflekbbchhaa
open Go.RowKit Go.Proofs
theorem rw_deals (X : MW) (K : RK) (d : Dl) (a b : Option Addr) (p q : Nat) (c e : Option Blk) : ((rwl X K).set 4 (.slice a (X.deals.length + 1) p)).set 5 (.slice b (X.deals.length + 1) q) = rwl (({ X with deals := X.deals ++ [d] } : MW).know ((X.deals.length : Int) + 1) (Ds.s 1)) ((K.setD a p c).setT b q e) := by
 have h : (({ X with deals := X.deals ++ [d] } : MW).know ((X.deals.length : Int) + 1) (Ds.s 1)).deals.length = X.deals.length + 1 := by simp [MW.know]
 unfold rwl
 rw [h]; rfl
theorem ROk.begun {N : List (Option Blk)} {X : MW} {K : RK} (h : ROk N X K) (hdw : X.c.down = false) {d : Dl} {a b : Option Addr} {p q : Nat} {c e : Option Blk}
  (hr : SRow (.slice a (X.deals.length + 1) p) 34 4 (X.deals.length + 1) (upd (cnt dll Dl.z X.deals) X.deals.length (dll d)) c)
  (ht : SRow (.slice b (X.deals.length + 1) q) 127 5 (X.deals.length + 1) (upd (tk X) X.deals.length (tkl (Ds.s 1))) e) :
  ROk N (({ X with deals := X.deals ++ [d] } : MW).know ((X.deals.length : Int) + 1) (Ds.s 1)) ((K.setD a p c).setT b q e) := by
 have hl : (({ X with deals := X.deals ++ [d] } : MW).know ((X.deals.length : Int) + 1) (Ds.s 1)).deals.length = X.deals.length + 1 := by simp [MW.know]
 have h1 := hr.congr fun i h0 h1 => cnt_app dll Dl.z X.deals d i h0 (by omega)
 refine ⟨h.mv, h.gv, ?_, ?_, h.bv, h.lv⟩
 ·rw [hl]; exact h1
 ·rw [hl]
  have e1 := tk_know (X := { X with deals := X.deals ++ [d] }) hdw ((X.deals.length : Int) + 1) (Ds.s 1)
  rw [e1, show (X.deals.length : Int) + 1 - 1 = X.deals.length by omega]
  exact ht
theorem rbegin_any (X : MW) (K : RK) (d : Dl) (B : Nat) (N H : List (Option Blk)) (w0 w : World) (hG : Good X) (hb : X.bag.length + 5 < 4000000000000) (hO : Own B w0 w H) (hN : ∀ x ∈ N, x ∈ H) (hK : XIn N X K) :
  Calls Try.prog 62 #[rwv X K, .agg (dll d).toArray] w fun e w' => ∃ v', e = .returned (.tuple #[v', iv (if bcode X d = 0 then X.deals.length + 1 else 0), iv (bcode X d)]) ∧ ROut B w0 w' v' (if bcode X d = 0 then X.begin d else X) N H := by
 have hdn := hG.dn
 refine calls_of_run (F := [(0, _), (1, _)]) Try.func62 rfl Try.ntmps62 rfl rfl <| run_seq <| run_region <| rl_ow rfl (ow_box _ rfl rfl rfl rfl rfl hO) ?_
 rintro _ w1 ⟨b2, rfl, hO2, hs3⟩
 refine rl_ow rfl (ow_box _ rfl rfl rfl rfl rfl hO2) ?_
 rintro _ w4 ⟨b3, rfl, hO5, hs6⟩
 refine rl_ow rfl (ow_alloc _ rfl rfl rfl zero_69 rfl hO5) ?_
 rintro _ w7 ⟨b4, rfl, hO8, hs9⟩
 refine rl_v rfl rfl rfl (ov_assign rfl rfl) <| rl_v rfl rfl rfl (ov_assign rfl rfl) <| rl_nil <| run_seq <| run_seq <| run_region_join 59 (.bool (decide ((d.b < 1 ∨ X.mem < d.b ∨ d.s < 1 ∨ X.mem < d.s ∨ d.b = d.s ∨ d.m < 0 ∨ 1000000000000 < d.m ∨ d.g < 0 ∨ 1000000000000 < d.g)))) [2, 3, 4] (fun hk10 => ?_) ?_
 ·refine rl_v rfl rfl rfl (ov_fieldS rfl Try.underlying34 rfl (fo := 0) rfl (by kernel_rfl) rfl) ?_
  refine rl_v rfl rfl rfl (ov_load rfl Try.underlying3 rfl rfl (by exact hO8.cellL 1 rfl rfl)) ?_
  refine rl_v rfl rfl rfl (ov_lss rfl rfl rfl) <| rl_v rfl rfl rfl (ov_move rfl rfl) ?_
  first | refine rl_split_dec 12 rfl (fun hg11 => ?_) (fun hg11 => ?_) | refine rl_split 12 rfl (fun hg11 => ?_) (fun hg11 => ?_)
  ·refine rl_gskip rfl rfl rfl rfl rfl rfl <| rl_gskip rfl rfl rfl rfl rfl rfl <| rl_gskip rfl rfl rfl rfl rfl rfl <| rl_gskip rfl rfl rfl rfl rfl rfl <| rl_gskip rfl rfl rfl rfl rfl rfl <| rl_gskip rfl rfl rfl rfl rfl rfl <| rl_v rfl rfl rfl (ov_pick_t rfl rfl rfl) <| rl_v rfl rfl rfl (ov_move rfl rfl) <| rl_gskip rfl rfl rfl rfl rfl rfl <| rl_gskip rfl rfl rfl rfl rfl rfl <| rl_gskip rfl rfl rfl rfl rfl rfl <| rl_v rfl rfl rfl (ov_pick_t rfl rfl rfl) <| rl_v rfl rfl rfl (ov_move rfl rfl) <| rl_gskip rfl rfl rfl rfl rfl rfl <| rl_gskip rfl rfl rfl rfl rfl rfl <| rl_gskip rfl rfl rfl rfl rfl rfl <| rl_gskip rfl rfl rfl rfl rfl rfl <| rl_gskip rfl rfl rfl rfl rfl rfl <| rl_gskip rfl rfl rfl rfl rfl rfl <| rl_v rfl rfl rfl (ov_pick_t rfl rfl rfl) <| rl_v rfl rfl rfl (ov_move rfl rfl) <| rl_gskip rfl rfl rfl rfl rfl rfl <| rl_gskip rfl rfl rfl rfl rfl rfl <| rl_gskip rfl rfl rfl rfl rfl rfl ?_
   refine rl_gskip rfl rfl rfl rfl rfl rfl <| rl_gskip rfl rfl rfl rfl rfl rfl <| rl_v rfl rfl rfl (ov_pick_t rfl rfl rfl) <| rl_v rfl rfl rfl (ov_move rfl rfl) <| rl_gskip rfl rfl rfl rfl rfl rfl <| rl_gskip rfl rfl rfl rfl rfl rfl <| rl_gskip rfl rfl rfl rfl rfl rfl <| rl_v rfl rfl rfl (ov_pick_t rfl rfl rfl) <| rl_v rfl rfl rfl (ov_move rfl rfl) <| rl_gskip rfl rfl rfl rfl rfl rfl <| rl_gskip rfl rfl rfl rfl rfl rfl <| rl_gskip rfl rfl rfl rfl rfl rfl <| rl_v rfl rfl rfl (ov_pick_t rfl rfl rfl) <| rl_v rfl rfl rfl (ov_move rfl rfl) <| rl_gskip rfl rfl rfl rfl rfl rfl <| rl_gskip rfl rfl rfl rfl rfl rfl <| rl_gskip rfl rfl rfl rfl rfl rfl <| rl_v rfl rfl rfl (ov_pick_t rfl rfl rfl) <| rl_v rfl rfl rfl (ov_move rfl rfl) <| rl_gskip rfl rfl rfl rfl rfl rfl <| rl_gskip rfl rfl rfl rfl rfl rfl <| rl_gskip rfl rfl rfl rfl rfl rfl <| rl_v rfl rfl rfl (ov_pick_t rfl rfl rfl) ?_
   refine rl_nil (hk10 _ (jbt rfl (by omega)) (And.intro rfl (And.intro rfl (And.intro rfl trivial))))
  ·refine rl_gv rfl rfl rfl rfl rfl (ov_fieldS rfl Try.underlying34 rfl (fo := 0) rfl (by kernel_rfl) rfl) ?_
   refine rl_gv rfl rfl rfl rfl rfl (ov_load rfl Try.underlying3 rfl rfl (by exact hO8.cellL 1 rfl rfl)) ?_
   refine rl_gv rfl rfl rfl rfl rfl (ov_fieldS rfl Try.underlying69 rfl (fo := 0) rfl (by kernel_rfl) rfl) ?_
   refine rl_gv rfl rfl rfl rfl rfl (ov_fieldS rfl Try.underlying24 rfl (fo := 0) rfl (by kernel_rfl) rfl) ?_
   refine rl_gv rfl rfl rfl rfl rfl (ov_load rfl Try.underlying3 rfl rfl (by exact hO8.cellL 2 rfl rfl)) ?_
   refine rl_gv rfl rfl rfl rfl rfl (ov_gtr rfl rfl rfl) <| rl_v rfl rfl rfl (ov_pick_f rfl rfl rfl) <| rl_v rfl rfl rfl (ov_move rfl rfl) ?_
   first | refine rl_split_dec 20 rfl (fun hg12 => ?_) (fun hg12 => ?_) | refine rl_split 20 rfl (fun hg12 => ?_) (fun hg12 => ?_)
   ·refine rl_gskip rfl rfl rfl rfl rfl rfl <| rl_gskip rfl rfl rfl rfl rfl rfl <| rl_gskip rfl rfl rfl rfl rfl rfl <| rl_v rfl rfl rfl (ov_pick_t rfl rfl rfl) <| rl_v rfl rfl rfl (ov_move rfl rfl) <| rl_gskip rfl rfl rfl rfl rfl rfl <| rl_gskip rfl rfl rfl rfl rfl rfl <| rl_gskip rfl rfl rfl rfl rfl rfl <| rl_gskip rfl rfl rfl rfl rfl rfl <| rl_gskip rfl rfl rfl rfl rfl rfl <| rl_gskip rfl rfl rfl rfl rfl rfl <| rl_v rfl rfl rfl (ov_pick_t rfl rfl rfl) <| rl_v rfl rfl rfl (ov_move rfl rfl) <| rl_gskip rfl rfl rfl rfl rfl rfl <| rl_gskip rfl rfl rfl rfl rfl rfl <| rl_gskip rfl rfl rfl rfl rfl rfl <| rl_gskip rfl rfl rfl rfl rfl rfl <| rl_gskip rfl rfl rfl rfl rfl rfl <| rl_v rfl rfl rfl (ov_pick_t rfl rfl rfl) <| rl_v rfl rfl rfl (ov_move rfl rfl) <| rl_gskip rfl rfl rfl rfl rfl rfl <| rl_gskip rfl rfl rfl rfl rfl rfl <| rl_gskip rfl rfl rfl rfl rfl rfl <| rl_v rfl rfl rfl (ov_pick_t rfl rfl rfl) ?_
    refine rl_v rfl rfl rfl (ov_move rfl rfl) <| rl_gskip rfl rfl rfl rfl rfl rfl <| rl_gskip rfl rfl rfl rfl rfl rfl <| rl_gskip rfl rfl rfl rfl rfl rfl <| rl_v rfl rfl rfl (ov_pick_t rfl rfl rfl) <| rl_v rfl rfl rfl (ov_move rfl rfl) <| rl_gskip rfl rfl rfl rfl rfl rfl <| rl_gskip rfl rfl rfl rfl rfl rfl <| rl_gskip rfl rfl rfl rfl rfl rfl <| rl_v rfl rfl rfl (ov_pick_t rfl rfl rfl) <| rl_v rfl rfl rfl (ov_move rfl rfl) <| rl_gskip rfl rfl rfl rfl rfl rfl <| rl_gskip rfl rfl rfl rfl rfl rfl <| rl_gskip rfl rfl rfl rfl rfl rfl <| rl_v rfl rfl rfl (ov_pick_t rfl rfl rfl) ?_
    refine rl_nil (hk10 _ (jbt rfl (by omega)) (And.intro rfl (And.intro rfl (And.intro rfl trivial))))
   ·refine rl_gv rfl rfl rfl rfl rfl (ov_fieldS rfl Try.underlying34 rfl (fo := 1) rfl (by kernel_rfl) rfl) ?_
    refine rl_gv rfl rfl rfl rfl rfl (ov_load rfl Try.underlying3 rfl rfl (by exact hO8.cellL 1 rfl rfl)) ?_
    refine rl_gv rfl rfl rfl rfl rfl (ov_lss rfl rfl rfl) <| rl_v rfl rfl rfl (ov_pick_f rfl rfl rfl) <| rl_v rfl rfl rfl (ov_move rfl rfl) ?_
    first | refine rl_split_dec 25 rfl (fun hg13 => ?_) (fun hg13 => ?_) | refine rl_split 25 rfl (fun hg13 => ?_) (fun hg13 => ?_)
    ·refine rl_gskip rfl rfl rfl rfl rfl rfl <| rl_gskip rfl rfl rfl rfl rfl rfl <| rl_gskip rfl rfl rfl rfl rfl rfl <| rl_gskip rfl rfl rfl rfl rfl rfl <| rl_gskip rfl rfl rfl rfl rfl rfl <| rl_gskip rfl rfl rfl rfl rfl rfl <| rl_v rfl rfl rfl (ov_pick_t rfl rfl rfl) <| rl_v rfl rfl rfl (ov_move rfl rfl) <| rl_gskip rfl rfl rfl rfl rfl rfl <| rl_gskip rfl rfl rfl rfl rfl rfl <| rl_gskip rfl rfl rfl rfl rfl rfl <| rl_gskip rfl rfl rfl rfl rfl rfl <| rl_gskip rfl rfl rfl rfl rfl rfl <| rl_v rfl rfl rfl (ov_pick_t rfl rfl rfl) <| rl_v rfl rfl rfl (ov_move rfl rfl) <| rl_gskip rfl rfl rfl rfl rfl rfl <| rl_gskip rfl rfl rfl rfl rfl rfl <| rl_gskip rfl rfl rfl rfl rfl rfl <| rl_v rfl rfl rfl (ov_pick_t rfl rfl rfl) <| rl_v rfl rfl rfl (ov_move rfl rfl) <| rl_gskip rfl rfl rfl rfl rfl rfl <| rl_gskip rfl rfl rfl rfl rfl rfl <| rl_gskip rfl rfl rfl rfl rfl rfl <| rl_v rfl rfl rfl (ov_pick_t rfl rfl rfl) ?_
     refine rl_v rfl rfl rfl (ov_move rfl rfl) <| rl_gskip rfl rfl rfl rfl rfl rfl <| rl_gskip rfl rfl rfl rfl rfl rfl <| rl_gskip rfl rfl rfl rfl rfl rfl <| rl_v rfl rfl rfl (ov_pick_t rfl rfl rfl) <| rl_v rfl rfl rfl (ov_move rfl rfl) <| rl_gskip rfl rfl rfl rfl rfl rfl <| rl_gskip rfl rfl rfl rfl rfl rfl <| rl_gskip rfl rfl rfl rfl rfl rfl <| rl_v rfl rfl rfl (ov_pick_t rfl rfl rfl) ?_
     refine rl_nil (hk10 _ (jbt rfl (by omega)) (And.intro rfl (And.intro rfl (And.intro rfl trivial))))
    ·refine rl_gv rfl rfl rfl rfl rfl (ov_fieldS rfl Try.underlying34 rfl (fo := 1) rfl (by kernel_rfl) rfl) ?_
     refine rl_gv rfl rfl rfl rfl rfl (ov_load rfl Try.underlying3 rfl rfl (by exact hO8.cellL 1 rfl rfl)) ?_
     refine rl_gv rfl rfl rfl rfl rfl (ov_fieldS rfl Try.underlying69 rfl (fo := 0) rfl (by kernel_rfl) rfl) ?_
     refine rl_gv rfl rfl rfl rfl rfl (ov_fieldS rfl Try.underlying24 rfl (fo := 0) rfl (by kernel_rfl) rfl) ?_
     refine rl_gv rfl rfl rfl rfl rfl (ov_load rfl Try.underlying3 rfl rfl (by exact hO8.cellL 2 rfl rfl)) ?_
     refine rl_gv rfl rfl rfl rfl rfl (ov_gtr rfl rfl rfl) <| rl_v rfl rfl rfl (ov_pick_f rfl rfl rfl) <| rl_v rfl rfl rfl (ov_move rfl rfl) ?_
     first | refine rl_split_dec 33 rfl (fun hg14 => ?_) (fun hg14 => ?_) | refine rl_split 33 rfl (fun hg14 => ?_) (fun hg14 => ?_)
     ·refine rl_gskip rfl rfl rfl rfl rfl rfl <| rl_gskip rfl rfl rfl rfl rfl rfl <| rl_gskip rfl rfl rfl rfl rfl rfl <| rl_gskip rfl rfl rfl rfl rfl rfl <| rl_gskip rfl rfl rfl rfl rfl rfl <| rl_v rfl rfl rfl (ov_pick_t rfl rfl rfl) <| rl_v rfl rfl rfl (ov_move rfl rfl) <| rl_gskip rfl rfl rfl rfl rfl rfl <| rl_gskip rfl rfl rfl rfl rfl rfl <| rl_gskip rfl rfl rfl rfl rfl rfl <| rl_v rfl rfl rfl (ov_pick_t rfl rfl rfl) <| rl_v rfl rfl rfl (ov_move rfl rfl) <| rl_gskip rfl rfl rfl rfl rfl rfl <| rl_gskip rfl rfl rfl rfl rfl rfl <| rl_gskip rfl rfl rfl rfl rfl rfl <| rl_v rfl rfl rfl (ov_pick_t rfl rfl rfl) <| rl_v rfl rfl rfl (ov_move rfl rfl) <| rl_gskip rfl rfl rfl rfl rfl rfl <| rl_gskip rfl rfl rfl rfl rfl rfl <| rl_gskip rfl rfl rfl rfl rfl rfl <| rl_v rfl rfl rfl (ov_pick_t rfl rfl rfl) <| rl_v rfl rfl rfl (ov_move rfl rfl) <| rl_gskip rfl rfl rfl rfl rfl rfl <| rl_gskip rfl rfl rfl rfl rfl rfl ?_
      refine rl_gskip rfl rfl rfl rfl rfl rfl <| rl_v rfl rfl rfl (ov_pick_t rfl rfl rfl) ?_
      refine rl_nil (hk10 _ (jbt rfl (by omega)) (And.intro rfl (And.intro rfl (And.intro rfl trivial))))
     ·refine rl_gv rfl rfl rfl rfl rfl (ov_fieldS rfl Try.underlying34 rfl (fo := 0) rfl (by kernel_rfl) rfl) ?_
      refine rl_gv rfl rfl rfl rfl rfl (ov_load rfl Try.underlying3 rfl rfl (by exact hO8.cellL 1 rfl rfl)) ?_
      refine rl_gv rfl rfl rfl rfl rfl (ov_fieldS rfl Try.underlying34 rfl (fo := 1) rfl (by kernel_rfl) rfl) ?_
      refine rl_gv rfl rfl rfl rfl rfl (ov_load rfl Try.underlying3 rfl rfl (by exact hO8.cellL 1 rfl rfl)) ?_
      refine rl_gv rfl rfl rfl rfl rfl (ov_eql rfl rfl rfl) <| rl_v rfl rfl rfl (ov_pick_f rfl rfl rfl) <| rl_v rfl rfl rfl (ov_move rfl rfl) ?_
      first | refine rl_split_dec 40 rfl (fun hg15 => ?_) (fun hg15 => ?_) | refine rl_split 40 rfl (fun hg15 => ?_) (fun hg15 => ?_)
      ·refine rl_gskip rfl rfl rfl rfl rfl rfl <| rl_gskip rfl rfl rfl rfl rfl rfl <| rl_gskip rfl rfl rfl rfl rfl rfl <| rl_v rfl rfl rfl (ov_pick_t rfl rfl rfl) <| rl_v rfl rfl rfl (ov_move rfl rfl) <| rl_gskip rfl rfl rfl rfl rfl rfl <| rl_gskip rfl rfl rfl rfl rfl rfl <| rl_gskip rfl rfl rfl rfl rfl rfl <| rl_v rfl rfl rfl (ov_pick_t rfl rfl rfl) <| rl_v rfl rfl rfl (ov_move rfl rfl) <| rl_gskip rfl rfl rfl rfl rfl rfl <| rl_gskip rfl rfl rfl rfl rfl rfl <| rl_gskip rfl rfl rfl rfl rfl rfl <| rl_v rfl rfl rfl (ov_pick_t rfl rfl rfl) <| rl_v rfl rfl rfl (ov_move rfl rfl) <| rl_gskip rfl rfl rfl rfl rfl rfl <| rl_gskip rfl rfl rfl rfl rfl rfl <| rl_gskip rfl rfl rfl rfl rfl rfl <| rl_v rfl rfl rfl (ov_pick_t rfl rfl rfl) ?_
       refine rl_nil (hk10 _ (jbt rfl (by omega)) (And.intro rfl (And.intro rfl (And.intro rfl trivial))))
      ·refine rl_gv rfl rfl rfl rfl rfl (ov_fieldS rfl Try.underlying34 rfl (fo := 2) rfl (by kernel_rfl) rfl) ?_
       refine rl_gv rfl rfl rfl rfl rfl (ov_load rfl Try.underlying2 rfl rfl (by exact hO8.cellL 1 rfl rfl)) ?_
       refine rl_gv rfl rfl rfl rfl rfl (ov_lss rfl rfl rfl) <| rl_v rfl rfl rfl (ov_pick_f rfl rfl rfl) <| rl_v rfl rfl rfl (ov_move rfl rfl) ?_
       first | refine rl_split_dec 45 rfl (fun hg16 => ?_) (fun hg16 => ?_) | refine rl_split 45 rfl (fun hg16 => ?_) (fun hg16 => ?_)
       ·refine rl_gskip rfl rfl rfl rfl rfl rfl <| rl_gskip rfl rfl rfl rfl rfl rfl <| rl_gskip rfl rfl rfl rfl rfl rfl <| rl_v rfl rfl rfl (ov_pick_t rfl rfl rfl) <| rl_v rfl rfl rfl (ov_move rfl rfl) <| rl_gskip rfl rfl rfl rfl rfl rfl <| rl_gskip rfl rfl rfl rfl rfl rfl <| rl_gskip rfl rfl rfl rfl rfl rfl <| rl_v rfl rfl rfl (ov_pick_t rfl rfl rfl) <| rl_v rfl rfl rfl (ov_move rfl rfl) <| rl_gskip rfl rfl rfl rfl rfl rfl <| rl_gskip rfl rfl rfl rfl rfl rfl <| rl_gskip rfl rfl rfl rfl rfl rfl <| rl_v rfl rfl rfl (ov_pick_t rfl rfl rfl) ?_
        refine rl_nil (hk10 _ (jbt rfl (by omega)) (And.intro rfl (And.intro rfl (And.intro rfl trivial))))
       ·refine rl_gv rfl rfl rfl rfl rfl (ov_fieldS rfl Try.underlying34 rfl (fo := 2) rfl (by kernel_rfl) rfl) ?_
        refine rl_gv rfl rfl rfl rfl rfl (ov_load rfl Try.underlying2 rfl rfl (by exact hO8.cellL 1 rfl rfl)) ?_
        refine rl_gv rfl rfl rfl rfl rfl (ov_gtr rfl rfl rfl) <| rl_v rfl rfl rfl (ov_pick_f rfl rfl rfl) <| rl_v rfl rfl rfl (ov_move rfl rfl) ?_
        first | refine rl_split_dec 50 rfl (fun hg17 => ?_) (fun hg17 => ?_) | refine rl_split 50 rfl (fun hg17 => ?_) (fun hg17 => ?_)
        ·refine rl_gskip rfl rfl rfl rfl rfl rfl <| rl_gskip rfl rfl rfl rfl rfl rfl <| rl_gskip rfl rfl rfl rfl rfl rfl <| rl_v rfl rfl rfl (ov_pick_t rfl rfl rfl) <| rl_v rfl rfl rfl (ov_move rfl rfl) <| rl_gskip rfl rfl rfl rfl rfl rfl <| rl_gskip rfl rfl rfl rfl rfl rfl <| rl_gskip rfl rfl rfl rfl rfl rfl <| rl_v rfl rfl rfl (ov_pick_t rfl rfl rfl) ?_
         refine rl_nil (hk10 _ (jbt rfl (by omega)) (And.intro rfl (And.intro rfl (And.intro rfl trivial))))
        ·refine rl_gv rfl rfl rfl rfl rfl (ov_fieldS rfl Try.underlying34 rfl (fo := 3) rfl (by kernel_rfl) rfl) ?_
         refine rl_gv rfl rfl rfl rfl rfl (ov_load rfl Try.underlying2 rfl rfl (by exact hO8.cellL 1 rfl rfl)) ?_
         refine rl_gv rfl rfl rfl rfl rfl (ov_lss rfl rfl rfl) <| rl_v rfl rfl rfl (ov_pick_f rfl rfl rfl) <| rl_v rfl rfl rfl (ov_move rfl rfl) ?_
         first | refine rl_split_dec 55 rfl (fun hg18 => ?_) (fun hg18 => ?_) | refine rl_split 55 rfl (fun hg18 => ?_) (fun hg18 => ?_)
         ·refine rl_gskip rfl rfl rfl rfl rfl rfl <| rl_gskip rfl rfl rfl rfl rfl rfl <| rl_gskip rfl rfl rfl rfl rfl rfl <| rl_v rfl rfl rfl (ov_pick_t rfl rfl rfl) ?_
          refine rl_nil (hk10 _ (jbt rfl (by omega)) (And.intro rfl (And.intro rfl (And.intro rfl trivial))))
         ·refine rl_gv rfl rfl rfl rfl rfl (ov_fieldS rfl Try.underlying34 rfl (fo := 3) rfl (by kernel_rfl) rfl) ?_
          refine rl_gv rfl rfl rfl rfl rfl (ov_load rfl Try.underlying2 rfl rfl (by exact hO8.cellL 1 rfl rfl)) ?_
          refine rl_gv rfl rfl rfl rfl rfl (ov_gtr rfl rfl rfl) <| rl_v rfl rfl rfl (ov_pick_f rfl rfl rfl) ?_
          refine rl_nil (hk10 _ (jbd rfl (by omega)) (And.intro rfl (And.intro rfl (And.intro rfl trivial))))
 ·show Run _ _ _ _ [(59, _), (2, _), (3, _), (4, _)] _ _
  first | refine run_cond_dec rfl (fun c1 => ?_) (fun c2 => ?_) | refine run_cond rfl (fun c1 => ?_) (fun c2 => ?_)
  ·have hc : bcode X d = 1 := by unfold bcode; rw [if_pos (by unfold DlBad; omega)]
   refine run_seq <| run_region <| rl_v rfl rfl rfl (ov_loadW rfl Try.underlying69 rfl (by kernel_rfl) rfl hO8 2 rfl) ?_
   refine rl_ow rfl (ow_storeW rfl rfl (by kernel_rfl) hO8 0 rfl rfl (by rfl) rfl (by rfl)) ?_
   rintro _ w19 ⟨rfl, hO20, hs21⟩
   refine rl_v rfl rfl rfl (ov_assign rfl rfl) <| rl_v rfl rfl rfl (ov_assign rfl rfl) <| rl_nil <| run_ret Try.func62 (resW3 Try.results62 rfl rfl rfl Try.underlying69 rfl (by kernel_rfl) hO20 0 rfl) ?_
   exact ⟨_, by rw [hc, if_neg (by decide)], by rw [hc, if_neg (by decide)]; exact .same hK hO20.tail.tail.tail⟩
  ·have hok : ¬ DlBad X d := by unfold DlBad; omega
   refine run_skip <| run_seq <| run_seq <| run_region <| rl_v rfl rfl rfl (ov_fieldS rfl Try.underlying69 rfl (fo := 7) rfl (by kernel_rfl) rfl) ?_
   refine rl_v rfl rfl rfl (ov_indexA rfl Try.underlying67 (by kernel_rfl) (s := 5) rfl rfl ⟨by omega, by omega⟩) ?_
   refine rl_v rfl rfl rfl (ov_fieldS rfl Try.underlying66 rfl (fo := 2) rfl (by kernel_rfl) rfl) ?_
   refine rl_v rfl rfl rfl (ov_load rfl Try.underlying4 rfl rfl (by exact hO8.cellL 2 rfl rfl)) ?_
   refine rl_nil ?_
   first | refine run_cond_dec rfl (fun d1 => ?_) (fun d2 => ?_) | refine run_cond rfl (fun d1 => ?_) (fun d2 => ?_)
   ·have hc : bcode X d = 80 := by unfold bcode; rw [if_neg hok, if_pos d1]
    refine run_seq <| run_region <| rl_v rfl rfl rfl (ov_loadW rfl Try.underlying69 rfl (by kernel_rfl) rfl hO8 2 rfl) ?_
    refine rl_ow rfl (ow_storeW rfl rfl (by kernel_rfl) hO8 0 rfl rfl (by rfl) rfl (by rfl)) ?_
    rintro _ w22 ⟨rfl, hO23, hs24⟩
    refine rl_v rfl rfl rfl (ov_assign rfl rfl) <| rl_v rfl rfl rfl (ov_assign rfl rfl) <| rl_nil <| run_ret Try.func62 (resW3 Try.results62 rfl rfl rfl Try.underlying69 rfl (by kernel_rfl) hO23 0 rfl) ?_
    exact ⟨_, by rw [hc, if_neg (by decide)], by rw [hc, if_neg (by decide)]; exact .same hK hO23.tail.tail.tail⟩
   ·refine run_skip <| run_seq <| run_seq <| run_region_join 75 (.bool (decide ((1000 ≤ X.deals.length ∨ 3000 < X.bag.length)))) [2, 3, 4] (fun hk25 => ?_) ?_
    ·refine rl_v rfl rfl rfl (ov_fieldS rfl Try.underlying69 rfl (fo := 4) rfl (by kernel_rfl) rfl) ?_
     refine rl_v rfl rfl rfl (ov_load rfl Try.underlying25 rfl rfl (by exact hO8.cellL 2 rfl rfl)) ?_
     refine rl_v rfl rfl rfl (ov_len rfl Try.underlying25 rfl) <| rl_v rfl rfl rfl (ov_geq rfl rfl rfl) <| rl_v rfl rfl rfl (ov_move rfl rfl) ?_
     first | refine rl_split_dec 70 rfl (fun hg26 => ?_) (fun hg26 => ?_) | refine rl_split 70 rfl (fun hg26 => ?_) (fun hg26 => ?_)
     ·refine rl_gskip rfl rfl rfl rfl rfl rfl <| rl_gskip rfl rfl rfl rfl rfl rfl <| rl_gskip rfl rfl rfl rfl rfl rfl <| rl_gskip rfl rfl rfl rfl rfl rfl <| rl_v rfl rfl rfl (ov_pick_t rfl rfl rfl) ?_
      refine rl_nil (hk25 _ (jbt rfl (by omega)) (And.intro rfl (And.intro rfl (And.intro rfl trivial))))
     ·refine rl_gv rfl rfl rfl rfl rfl (ov_fieldS rfl Try.underlying69 rfl (fo := 6) rfl (by kernel_rfl) rfl) ?_
      refine rl_gv rfl rfl rfl rfl rfl (ov_load rfl Try.underlying63 rfl rfl (by exact hO8.cellL 2 rfl rfl)) ?_
      refine rl_gv rfl rfl rfl rfl rfl (ov_len rfl Try.underlying63 rfl) <| rl_gv rfl rfl rfl rfl rfl (ov_gtr rfl rfl rfl) <| rl_v rfl rfl rfl (ov_pick_f rfl rfl rfl) ?_
      refine rl_nil (hk25 _ (jbd rfl (by omega)) (And.intro rfl (And.intro rfl (And.intro rfl trivial))))
    ·show Run _ _ _ _ [(75, _), (2, _), (3, _), (4, _)] _ _
     first | refine run_cond_dec rfl (fun f1 => ?_) (fun f2 => ?_) | refine run_cond rfl (fun f1 => ?_) (fun f2 => ?_)
     ·have hc : bcode X d = 6 := by unfold bcode; rw [if_neg hok, if_neg (by rw [d2]; decide), if_pos (by omega)]
      refine run_seq <| run_region <| rl_v rfl rfl rfl (ov_loadW rfl Try.underlying69 rfl (by kernel_rfl) rfl hO8 2 rfl) ?_
      refine rl_ow rfl (ow_storeW rfl rfl (by kernel_rfl) hO8 0 rfl rfl (by rfl) rfl (by rfl)) ?_
      rintro _ w27 ⟨rfl, hO28, hs29⟩
      refine rl_v rfl rfl rfl (ov_assign rfl rfl) <| rl_v rfl rfl rfl (ov_assign rfl rfl) <| rl_nil <| run_ret Try.func62 (resW3 Try.results62 rfl rfl rfl Try.underlying69 rfl (by kernel_rfl) hO28 0 rfl) ?_
      exact ⟨_, by rw [hc, if_neg (by decide)], by rw [hc, if_neg (by decide)]; exact .same hK hO28.tail.tail.tail⟩
     ·have hc : bcode X d = 0 := by unfold bcode; rw [if_neg hok, if_neg (by rw [d2]; decide), if_neg (by omega)]
      refine run_skip <| run_seq <| run_region <| rl_v rfl rfl rfl (ov_loadW rfl Try.underlying69 rfl (by kernel_rfl) rfl hO8 2 rfl) ?_
      refine rl_call callable_80 rfl rfl rfl rfl rfl rfl (rfork_any X K B N _ w0 w7 hG (by omega) hO8 (mem_c1 (mem_c1 (mem_c1 hN))) hK) (fun e30 w31 hp32 => ?_)
      obtain ⟨v20, rfl, K2, rfl, hO2, hK2⟩ := hp32
      refine ⟨_, rfl, ?_⟩
      have hO3 := hO2.perm (perm_out [_, _, _] K2.M H)
      refine rl_ow rfl (ow_storeW rfl rfl (by kernel_rfl) hO3 2 rfl rfl (by rfl) rfl (by rfl)) ?_
      rintro _ w33 ⟨rfl, hO34, hs35⟩
      have hdv := hK2.dv
      have htv := hK2.tv
      refine rl_nil <| run_seq <| run_quiet mixed (by kernel_rfl) ?_
      refine rq_v rfl rfl rfl (fun _ => ov_fieldS rfl Try.underlying69 rfl (fo := 4) rfl (by kernel_rfl) rfl) ?_
      refine rq_v rfl rfl rfl (fun _ => ov_load rfl Try.underlying25 rfl rfl (by show World.cell? w33 _ = _; first | exact hO34.cellL 2 rfl rfl)) ?_
      refine rq_v rfl rfl rfl (fun _ => ov_fieldS rfl Try.underlying69 rfl (fo := 5) rfl (by kernel_rfl) rfl) ?_
      refine rq_v rfl rfl rfl (fun _ => ov_load rfl Try.underlying62 rfl rfl (by show World.cell? w33 _ = _; first | exact hO34.cellL 2 rfl rfl)) ?_
      refine rq_v rfl rfl rfl (fun _ => ov_assign rfl rfl) ?_
      refine rq_v rfl rfl rfl (fun _ => ov_assign rfl rfl) ?_
      refine rq_nil (fun n36 => ?_)
      have hO38 := hO34.drewN n36
      generalize World.drewN w33 n36 = w37 at hO38 ⊢
      refine run_seq <| run_region <| rl_v rfl rfl rfl (ov_move rfl rfl) <| rl_v rfl rfl rfl (ov_loadW rfl Try.underlying34 rfl (by kernel_rfl) rfl hO38 1 rfl) ?_
      refine rl_ow rfl (ow_build [_] rfl rfl rfl rfl rfl Try.underlying25 info_34 (by decide) hO38 rfl rfl) ?_
      rintro _ w39 ⟨b85, rfl, hO40, hs41⟩
      refine rl_ow rfl (ow_appR1 rfl rfl rfl Try.underlying25 info_34 rfl rfl hO40 3 hdv rfl rfl rfl rfl rfl ⟨by omega, by omega⟩) ?_
      rintro _ w42 ⟨v86, c86, rfl, hO43, hr86, hs44⟩
      obtain ⟨a86, p86, rfl⟩ := hr86.val
      refine rl_v rfl rfl rfl (ov_assign rfl rfl) <| rl_nil <| run_seq <| run_region <| rl_v rfl rfl rfl (ov_move rfl rfl) <| rl_v rfl rfl rfl (ov_buildL rfl lay_127 rfl (us := [_, _, _, _, _]) rfl) <| rl_ow rfl (ow_build [_] rfl rfl rfl rfl rfl Try.underlying62 info_127 (by decide) hO43 rfl rfl) ?_
      rintro _ w45 ⟨b89, rfl, hO46, hs47⟩
      refine rl_ow rfl (ow_appR1 rfl rfl rfl Try.underlying62 info_127 rfl rfl hO46 4 htv rfl rfl rfl rfl rfl ⟨by omega, by omega⟩) ?_
      rintro _ w48 ⟨v90, c90, rfl, hO49, hr90, hs50⟩
      obtain ⟨a90, p90, rfl⟩ := hr90.val
      refine rl_v rfl rfl rfl (ov_assign rfl rfl) <| rl_nil <| run_seq <| run_region <| rl_v rfl rfl rfl (ov_move rfl rfl) <| rl_v rfl rfl rfl (ov_fieldS rfl Try.underlying69 rfl (fo := 4) rfl (by kernel_rfl) rfl) ?_
      refine rl_ow rfl (ow_storeL rfl rfl (by kernel_rfl) hO49 2 rfl rfl rfl rfl rfl) ?_
      rintro _ w51 ⟨rfl, hO52, hs53⟩
      refine rl_nil <| run_seq <| run_region <| rl_v rfl rfl rfl (ov_move rfl rfl) <| rl_v rfl rfl rfl (ov_fieldS rfl Try.underlying69 rfl (fo := 5) rfl (by kernel_rfl) rfl) ?_
      refine rl_ow rfl (ow_storeL rfl rfl (by kernel_rfl) hO52 2 rfl rfl rfl rfl rfl) ?_
      rintro _ w54 ⟨rfl, hO55, hs56⟩
      have hK3 := hK2.begun d2 hr86 hr90
      have hrw := rw_deals X K2 d a86 a90 p86 p90 c86 c90
      rw [show ((rwl X K2).set (0 + 4) (.slice a86 (X.deals.length + 1) p86)).set (0 + 5) (.slice a90 (X.deals.length + 1) p90) = _ from hrw] at hO55
      have hO9 : Own B w0 w54 (some (lch b4 69 rwz) :: some (lch b3 34 (dll d)) :: some (lch b2 69 (rwl (({ X with deals := X.deals ++ [d] } : MW).know ((X.deals.length : Int) + 1) (Ds.s 1)) ((K2.setD a86 p86 c86).setT a90 p90 c90))) :: (((K2.setD a86 p86 c86).setT a90 p90 c90).M ++ H)) := hO55
      generalize hY : (({ X with deals := X.deals ++ [d] } : MW).know ((X.deals.length : Int) + 1) (Ds.s 1)) = Y at *
      generalize hKY : ((K2.setD a86 p86 c86).setT a90 p90 c90) = KY at *
      have hn1 : ((X.deals.length + 1 : Nat) : Int) = (X.deals.length : Int) + 1 := by omega
      have hYb : Y.bag.length = X.bag.length := by rw [← hY]; rfl
      refine rl_nil <| run_seq <| run_region <| rl_v rfl rfl rfl (ov_loadW rfl Try.underlying69 rfl (by kernel_rfl) rfl hO9 2 rfl) ?_
      refine rl_v rfl rfl rfl (ov_move rfl rfl) <| rl_v rfl rfl rfl (ov_len rfl Try.underlying25 rfl) ?_
      refine rl_call callable_81 rfl rfl rfl rfl rfl rfl (rboth_any Y 1 ((X.deals.length + 1 : Nat) : Int) _ B N _ w0 w54 (by omega) (RWt.on3 hO9 hK3)) (fun e57 w58 hp59 => ?_)
      obtain ⟨v98, rfl, K4, rfl, hO4, hK4⟩ := hp59
      refine ⟨_, rfl, ?_⟩
      refine rl_v rfl rfl rfl (ov_move rfl rfl) <| rl_v rfl rfl rfl (ov_len rfl Try.underlying25 rfl) <| rl_ow rfl (ow_storeW rfl rfl (by kernel_rfl) hO4 0 rfl rfl (by rfl) rfl (by rfl)) ?_
      rintro _ w60 ⟨rfl, hO61, hs62⟩
      refine rl_v rfl rfl rfl (ov_assign rfl rfl) <| rl_v rfl rfl rfl (ov_assign rfl rfl) <| rl_nil <| run_ret Try.func62 (resW3 Try.results62 rfl rfl rfl Try.underlying69 rfl (by kernel_rfl) hO61 0 rfl) ?_
      exact ⟨_, by rw [hc, if_pos rfl, ← hn1], by rw [hc, if_pos rfl, show X.begin d = Y.both 1 ((X.deals.length + 1 : Nat) : Int) false false from by rw [hn1, ← hY]; rfl]; exact RWt.out ⟨K4, rfl, hO61.tail.tail.tail, hK4⟩⟩
def HAt (B : Nat) (w0 w : World) (b4 b2 : Nat) (X : MW) (N H : List (Option Blk)) : Prop := ∃ K, Own B w0 w (some (lch b4 69 rwz) :: some (lch b2 69 (rwl X K)) :: (H ++ K.M)) ∧ ROk N X K
theorem bag_out {B : Nat} {w0 w : World} {a b : Option Blk} {K : RK} {H : List (Option Blk)} (hO : Own B w0 w (a :: b :: (H ++ K.M))) : Own B w0 w (a :: b :: (K.cb :: H ++ (K.setB none 0 none).M)) := by
 have h1 := hO.perm (perm_out [a, b] K.M H)
 have h2 : Own B w0 w ([a, b, K.cd, K.ct] ++ (K.cb :: ([K.c0, K.c1, K.c2] ++ H))) := h1
 have h3 := (h2.perm (List.perm_middle (l₁ := [a, b, K.cd, K.ct]))).nil_cons
 have h4 : Own B w0 w (none :: K.cb :: ([a, b, K.cd, K.ct] ++ ([K.c0, K.c1, K.c2] ++ H))) := h3
 have h5 := h4.swap
 have h6 := h5.perm ((List.perm_middle (a := none) (l₁ := [a, b, K.cd, K.ct]) (l₂ := [K.c0, K.c1, K.c2] ++ H)).symm.cons K.cb)
 have h7 : Own B w0 w (K.cb :: ([a, b] ++ ((K.setB none 0 none).M ++ H))) := h6
 have h8 := h7.perm ((perm_in [a, b] (K.setB none 0 none).M H).cons K.cb)
 exact h8.perm (perm_mid K.cb [a, b] (H ++ (K.setB none 0 none).M))
theorem tickTo_inv {X : MW} (hL : LInv X) (hc : Calm X) (i : Int) : LInv (tickTo X i) ∧ Calm (tickTo X i) := by
 unfold tickTo
 split
 ·exact ⟨hL, hc⟩
 ·split
  ·exact ⟨hL.tick0 0, hc.tick0 0⟩
  ·split
   ·exact ⟨(hL.tick0 0).tick0 1, (hc.tick0 0).tick0 1⟩
   ·exact ⟨((hL.tick0 0).tick0 1).tick0 2, ((hc.tick0 0).tick0 1).tick0 2⟩
theorem fuse_ok {N : List (Option Blk)} {X : MW} {K : RK} {n v : Int} (hn : N3 n) (h : ROk N X K) : ROk N (X.unfuse n v) K := by
 have := h.logged hn (l := { X.lg n with fuse := v }) (a := K.la n) (p := K.lp n) (c := K.lb n) (h.lv n hn) (tk_down (by rcases hn with rfl | rfl | rfl <;> rfl) (setLg_kn _ _ _))
 rwa [K.setL_self hn] at this
theorem rheal_none (X : MW) (K : RK) (k : Int) (B : Nat) (N H : List (Option Blk)) (w0 w : World) (hk : ¬ (0 ≤ k ∧ k ≤ 1000)) (hO : Own B w0 w H) (hK : XIn N X K) :
  Calls Try.prog 70 #[rwv X K, iv k] w fun e w' => ∃ v', e = .returned (.tuple #[v', iv 1]) ∧ ROut B w0 w' v' X N H := by
 refine calls_of_run (F := [(0, _), (1, _)]) Try.func70 rfl Try.ntmps70 rfl rfl <| run_seq <| run_region <| rl_ow rfl (ow_box _ rfl rfl rfl rfl rfl hO) ?_
 rintro _ w1 ⟨b2, rfl, hO2, hs3⟩
 refine rl_ow rfl (ow_alloc _ rfl rfl rfl zero_69 rfl hO2) ?_
 rintro _ w4 ⟨b4, rfl, hO5, hs6⟩
 refine rl_v rfl rfl rfl (ov_assign rfl rfl) <| rl_nil <| run_seq <| run_seq <| run_region_join 16 (.bool (decide ((k < 0 ∨ 1000 < k)))) [1, 2, 4] (fun hk7 => ?_) ?_
 ·refine rl_v rfl rfl rfl (ov_move rfl rfl) <| rl_v rfl rfl rfl (ov_lss rfl rfl rfl) <| rl_v rfl rfl rfl (ov_move rfl rfl) ?_
  first | refine rl_split_dec 13 rfl (fun hg8 => ?_) (fun hg8 => ?_) | refine rl_split 13 rfl (fun hg8 => ?_) (fun hg8 => ?_)
  ·refine rl_gskip rfl rfl rfl rfl rfl rfl <| rl_gskip rfl rfl rfl rfl rfl rfl <| rl_v rfl rfl rfl (ov_pick_t rfl rfl rfl) ?_
   refine rl_nil (hk7 _ (jbt rfl (by omega)) (And.intro rfl (And.intro rfl (And.intro rfl trivial))))
  ·refine rl_gv rfl rfl rfl rfl rfl (ov_move rfl rfl) <| rl_gv rfl rfl rfl rfl rfl (ov_gtr rfl rfl rfl) <| rl_v rfl rfl rfl (ov_pick_f rfl rfl rfl) ?_
   refine rl_nil (hk7 _ (jbd rfl (by omega)) (And.intro rfl (And.intro rfl (And.intro rfl trivial))))
 ·show Run _ _ _ _ [(16, _), (1, _), (2, _), (4, _)] _ _
  first | refine run_cond_dec rfl (fun c1 => ?_) (fun c2 => ?_) | refine run_cond rfl (fun c1 => ?_) (fun c2 => ?_)
  ·refine run_seq <| run_region <| rl_v rfl rfl rfl (ov_loadW rfl Try.underlying69 rfl (by kernel_rfl) rfl hO5 1 rfl) ?_
   refine rl_ow rfl (ow_storeW rfl rfl (by kernel_rfl) hO5 0 rfl rfl (by rfl) rfl (by rfl)) ?_
   rintro _ w9 ⟨rfl, hO10, hs11⟩
   refine rl_v rfl rfl rfl (ov_assign rfl rfl) <| rl_nil <| run_ret Try.func70 (resW2 Try.results70 rfl rfl Try.underlying69 rfl (by kernel_rfl) hO10 0 rfl) ?_
   exact ⟨_, rfl, .same hK hO10.tail.tail⟩
  ·exfalso; omega
theorem rheal_any (X : MW) (K : RK) (k : Int) (B : Nat) (N H : List (Option Blk)) (w0 w : World) (hk : 0 ≤ k ∧ k ≤ 1000) (hG : Good X) (hL : LInv X) (hb : phi X + 12000000 < 4000000000000) (hO : Own B w0 w H) (hN : ∀ x ∈ N, x ∈ H) (hK : XIn N X K) :
  Calls Try.prog 70 #[rwv X K, iv k] w fun e w' => ∃ v', e = .returned (.tuple #[v', iv 0]) ∧ ROut B w0 w' v' (X.heal k.toNat) N H := by
 have hdn := hG.dn
 have hbX : X.bag.length ≤ phi X := Nat.le_add_right _ _
 refine calls_of_run (F := [(0, _), (1, _)]) Try.func70 rfl Try.ntmps70 rfl rfl <| run_seq <| run_region <| rl_ow rfl (ow_box _ rfl rfl rfl rfl rfl hO) ?_
 rintro _ w1 ⟨b2, rfl, hO2, hs3⟩
 refine rl_ow rfl (ow_alloc _ rfl rfl rfl zero_69 rfl hO2) ?_
 rintro _ w4 ⟨b4, rfl, hO5, hs6⟩
 refine rl_v rfl rfl rfl (ov_assign rfl rfl) <| rl_nil <| run_seq <| run_seq <| run_region_join 16 (.bool (decide ((k < 0 ∨ 1000 < k)))) [1, 2, 4] (fun hk7 => ?_) ?_
 ·refine rl_v rfl rfl rfl (ov_move rfl rfl) <| rl_v rfl rfl rfl (ov_lss rfl rfl rfl) <| rl_v rfl rfl rfl (ov_move rfl rfl) ?_
  first | refine rl_split_dec 13 rfl (fun hg8 => ?_) (fun hg8 => ?_) | refine rl_split 13 rfl (fun hg8 => ?_) (fun hg8 => ?_)
  ·refine rl_gskip rfl rfl rfl rfl rfl rfl <| rl_gskip rfl rfl rfl rfl rfl rfl <| rl_v rfl rfl rfl (ov_pick_t rfl rfl rfl) ?_
   refine rl_nil (hk7 _ (jbt rfl (by omega)) (And.intro rfl (And.intro rfl (And.intro rfl trivial))))
  ·refine rl_gv rfl rfl rfl rfl rfl (ov_move rfl rfl) <| rl_gv rfl rfl rfl rfl rfl (ov_gtr rfl rfl rfl) <| rl_v rfl rfl rfl (ov_pick_f rfl rfl rfl) ?_
   refine rl_nil (hk7 _ (jbd rfl (by omega)) (And.intro rfl (And.intro rfl (And.intro rfl trivial))))
 ·show Run _ _ _ _ [(16, _), (1, _), (2, _), (4, _)] _ _
  first | refine run_cond_dec rfl (fun c1 => ?_) (fun c2 => ?_) | refine run_cond rfl (fun c1 => ?_) (fun c2 => ?_)
  ·exfalso; omega
  ·refine run_skip <| run_seq <| run_region <| rl_v rfl rfl rfl (ov_loadW rfl Try.underlying69 rfl (by kernel_rfl) rfl hO5 1 rfl) ?_
   refine rl_call callable_80 rfl rfl rfl rfl rfl rfl (rfork_any X K B N _ w0 w4 hG (by omega) hO5 (mem_c1 (mem_c1 hN)) hK) (fun e9 w10 hp11 => ?_)
   obtain ⟨v19, rfl, K2, rfl, hO2, hK2⟩ := hp11
   refine ⟨_, rfl, ?_⟩
   refine rl_ow rfl (ow_storeW rfl rfl (by kernel_rfl) hO2 1 rfl rfl (by rfl) rfl (by rfl)) ?_
   rintro _ w12 ⟨rfl, hO13, hs14⟩
   refine rl_nil <| run_seq <| run_seq <| run_region <| rl_v rfl rfl rfl (ov_assign rfl rfl) <| rl_nil <| run_block <| Run.keep [1, 2, 4, 6] (F' := [(1, _), (2, _), (4, _), (6, _)]) rfl <| run_loop1 (fun (i : Int) => [(6, .int .i64 i)]) [1, 2, 4] (fun (i : Int) (w15 : World) => 0 ≤ i ∧ i ≤ 3 ∧ HAt B w0 w15 b4 b2 (wakeTo X i) N H) (fun (i : Int) => (3 - i).toNat) (0) ?_ (And.intro (by exact slot_int rfl (by first | omega)) (And.intro rfl (And.intro rfl (And.intro rfl trivial)))) ?_
   ·exact ⟨by omega, by omega, K2, hO13, hK2⟩
   intro i w15 hIw15 ih16
   obtain ⟨hi0, hi1, hW⟩ := hIw15
   show Run _ _ _ _ [(6, _), (1, _), (2, _), (4, _)] _ _
   obtain ⟨K3, hO3, hK3⟩ := hW
   refine run_seq <| run_seq <| run_region <| rl_v rfl rfl rfl (ov_move rfl rfl) <| rl_v rfl rfl rfl (ov_lss rfl rfl rfl) <| rl_nil ?_
   first | refine run_cond_dec rfl (fun hq => ?_) (fun hq => ?_) | refine run_cond rfl (fun hq => ?_) (fun hq => ?_)
   ·have hn : N3 i := by unfold N3; omega
    refine run_skip <| run_seq <| run_block <| run_seq <| run_seq <| run_region <| rl_v rfl rfl rfl (ov_move rfl rfl) <| rl_v rfl rfl rfl (ov_fieldS rfl Try.underlying69 rfl (fo := 7) rfl (by kernel_rfl) rfl) ?_
    refine rl_v rfl rfl rfl (ov_indexA rfl Try.underlying67 (by kernel_rfl) (s := 5) rfl rfl ⟨by omega, by omega⟩) ?_
    refine rl_v rfl rfl rfl (ov_fieldS rfl Try.underlying66 rfl (fo := 2) rfl (by kernel_rfl) rfl) ?_
    refine rl_v rfl rfl rfl (ov_load rfl Try.underlying4 rfl rfl (by exact hO3.cellL 1 rfl ((rw_node (wakeTo X i) K3 hn 2 (by omega)).trans rfl))) ?_
    refine rl_nil ?_
    first | refine run_cond_dec rfl (fun d1 => ?_) (fun d2 => ?_) | refine run_cond rfl (fun d1 => ?_) (fun d2 => ?_)
    ·refine run_region <| rl_v rfl rfl rfl (ov_loadW rfl Try.underlying69 rfl (by kernel_rfl) rfl hO3 1 rfl) ?_
     refine rl_v rfl rfl rfl (ov_move rfl rfl) ?_
     refine rl_call callable_87 rfl rfl rfl rfl rfl rfl (rup_any (wakeTo X i) i _ B N _ w0 w15 hn (hG.wakeTo i) d1 (RWt.of2 hO3 hK3)) (fun e17 w18 hp19 => ?_)
     obtain ⟨v31, rfl, K4, rfl, hO4, hK4⟩ := hp19
     refine ⟨_, rfl, ?_⟩
     refine rl_ow rfl (ow_storeW rfl rfl (by kernel_rfl) hO4 1 rfl rfl (by rfl) rfl (by rfl)) ?_
     rintro _ w20 ⟨rfl, hO21, hs22⟩
     refine rl_nil <| run_region <| rl_v rfl rfl rfl (ov_move rfl rfl) <| rl_v rfl rfl rfl (ov_fieldS rfl Try.underlying69 rfl (fo := 7) rfl (by kernel_rfl) rfl) ?_
     refine rl_v rfl rfl rfl (ov_indexA rfl Try.underlying67 (by kernel_rfl) (s := 5) rfl rfl ⟨by omega, by omega⟩) ?_
     refine rl_v rfl rfl rfl (ov_fieldS rfl Try.underlying66 rfl (fo := 4) rfl (by kernel_rfl) rfl) ?_
     refine rl_ow rfl (ow_storeL rfl rfl (by kernel_rfl) hO21 1 rfl rfl (rw_room hn) rfl rfl) ?_
     rintro _ w23 ⟨rfl, hO24, hs25⟩
     rw [rw_fuse ((wakeTo X i).restart i) K4 hn] at hO24
     have hK5 : ROk N (((wakeTo X i).restart i).unfuse i 0) K4 := fuse_ok hn hK4
     refine rl_nil <| run_inBlock <| run_region <| rl_v rfl rfl rfl (ov_move rfl rfl) <| rl_v rfl rfl rfl (ov_add rfl rfl rfl (by omega)) ?_
     refine rl_v rfl rfl rfl (ov_assign rfl rfl) <| rl_nil ?_
     refine Run.use (ih16 (i + 1) _ ?_ ?_) (And.intro (by exact slot_int rfl (by first | omega)) (And.intro rfl (And.intro rfl (And.intro rfl trivial))))
     ·first | omega | (dsimp only; omega)
     ·exact ⟨by omega, by omega, by rw [wakeTo_step X hn]; exact ⟨K4, hO24, hK5⟩⟩
    ·have hre : (wakeTo X i).restart i = wakeTo X i := by unfold MW.restart; dsimp only; rw [if_neg (by rw [d2]; decide)]
     refine run_skip <| run_region <| rl_v rfl rfl rfl (ov_move rfl rfl) <| rl_v rfl rfl rfl (ov_fieldS rfl Try.underlying69 rfl (fo := 7) rfl (by kernel_rfl) rfl) ?_
     refine rl_v rfl rfl rfl (ov_indexA rfl Try.underlying67 (by kernel_rfl) (s := 5) rfl rfl ⟨by omega, by omega⟩) ?_
     refine rl_v rfl rfl rfl (ov_fieldS rfl Try.underlying66 rfl (fo := 4) rfl (by kernel_rfl) rfl) ?_
     refine rl_ow rfl (ow_storeL rfl rfl (by kernel_rfl) hO3 1 rfl rfl (rw_room hn) rfl rfl) ?_
     rintro _ w26 ⟨rfl, hO27, hs28⟩
     rw [rw_fuse (wakeTo X i) K3 hn] at hO27
     have hK5 : ROk N ((wakeTo X i).unfuse i 0) K3 := fuse_ok hn hK3
     refine rl_nil <| run_inBlock <| run_region <| rl_v rfl rfl rfl (ov_move rfl rfl) <| rl_v rfl rfl rfl (ov_add rfl rfl rfl (by omega)) ?_
     refine rl_v rfl rfl rfl (ov_assign rfl rfl) <| rl_nil ?_
     refine Run.use (ih16 (i + 1) _ ?_ ?_) (And.intro (by exact slot_int rfl (by first | omega)) (And.intro rfl (And.intro rfl (And.intro rfl trivial))))
     ·first | omega | (dsimp only; omega)
     ·exact ⟨by omega, by omega, by rw [wakeTo_step X hn]; unfold MW.wake1; rw [hre]; exact ⟨K3, hO27, hK5⟩⟩
   ·obtain rfl : i = 3 := by omega
    refine run_exit rfl <| run_seq <| run_seq <| run_region <| rl_v rfl rfl rfl (ov_assign rfl rfl) <| rl_nil <| run_block <| Run.keep [1, 2, 4, 7] (F' := [(1, _), (2, _), (4, _), (7, _)]) rfl <| run_loop1 (fun (q : Int) => [(7, .int .i64 q)]) [1, 2, 4] (fun (q : Int) (w29 : World) => 0 ≤ q ∧ q ≤ k ∧ HAt B w0 w29 b4 b2 (X.wake.rounds q.toNat) N H) (fun (q : Int) => (k - q).toNat) (0) ?_ (And.intro (by exact slot_int rfl (by first | omega)) (And.intro rfl (And.intro rfl (And.intro rfl trivial)))) ?_
    ·exact ⟨by omega, by omega, K3, hO3, hK3⟩
    intro q w29 hIw29 ih30
    obtain ⟨hq0, hq1, hWq⟩ := hIw29
    show Run _ _ _ _ [(7, _), (1, _), (2, _), (4, _)] _ _
    obtain ⟨K4, hO4, hK4⟩ := hWq
    refine run_seq <| run_seq <| run_region <| rl_v rfl rfl rfl (ov_move rfl rfl) <| rl_v rfl rfl rfl (ov_move rfl rfl) <| rl_v rfl rfl rfl (ov_lss rfl rfl rfl) <| rl_nil ?_
    first | refine run_cond_dec rfl (fun hqk => ?_) (fun hqk => ?_) | refine run_cond rfl (fun hqk => ?_) (fun hqk => ?_)
    ·have hGY : Good (X.wake.rounds q.toNat) := hG.wake.rounds _
     have hLY : LInv (X.wake.rounds q.toNat) := hL.wake.rounds hG.wake _
     have hcY : Calm (X.wake.rounds q.toNat) := (Calm.wake X).rounds hG.wake _
     have hph := phi_rounds hG.wake q.toNat
     have hph2 := phi_wake X
     rw [cfg_deals (cfg_wake X)] at hph
     have hmul : 6 * X.deals.length * q.toNat ≤ 6 * 1000 * 1000 := Nat.mul_le_mul (by omega) (by omega)
     have eY := cfg_deals ((cfg_rounds X.wake q.toNat).trans (cfg_wake X))
     have erd : X.wake.rounds (q + 1).toNat = (X.wake.rounds q.toNat).round := by rw [show (q + 1).toNat = q.toNat + 1 by omega]; rfl
     generalize X.wake.rounds q.toNat = Y at *
     have hbt := bringTo hGY
     have hbY : Y.bag.length ≤ phi Y := Nat.le_add_right _ _
     have hmt : ∀ (j : Nat) (m : Ms), m ∈ Y.bag.take j → MsOk Y m := fun j m hm => hGY.bg m (List.mem_of_mem_take hm)
     have hLt : ∀ j, LInv (({ Y with bag := [] } : MW).bringAll (Y.bag.take j)) := fun j => LInv.bringAll _ _ (hLY.bag []) (hmt j)
     have hct : ∀ j, Calm (({ Y with bag := [] } : MW).bringAll (Y.bag.take j)) := fun j => Calm.bringAll _ _ (show Calm { Y with bag := [] } from hcY) (hmt j)
     obtain ⟨gb, hga, hrow⟩ := (PRow.of_row hK4.bv (List.mem_cons_self .. : K4.cb ∈ [K4.cb])).open
     refine run_skip <| run_seq <| run_block <| run_seq <| run_region <| rl_v rfl rfl rfl (ov_fieldS rfl Try.underlying69 rfl (fo := 6) rfl (by kernel_rfl) rfl) ?_
     refine rl_v rfl rfl rfl (ov_load rfl Try.underlying63 rfl rfl (by exact hO4.cellL 1 rfl rfl)) ?_
     refine rl_v rfl rfl rfl (ov_assign rfl rfl) <| rl_nil <| run_seq <| run_region <| rl_v rfl rfl rfl (ov_fieldS rfl Try.underlying69 rfl (fo := 6) rfl (by kernel_rfl) rfl) ?_
     refine rl_ow rfl (ow_storeL rfl rfl (by kernel_rfl) hO4 1 rfl rfl rfl rfl rfl) ?_
     rintro _ w31 ⟨rfl, hO32, hs33⟩
     have hO5 := bag_out hO32
     have hK5 : ROk N { Y with bag := [] } (K4.setB none 0 none) := ⟨hK4.mv, hK4.gv, hK4.dv, hK4.tv, SRow.nil _ _ _, hK4.lv⟩
     refine rl_nil <| run_seq <| run_seq <| run_region <| rl_v rfl rfl rfl (ov_assign rfl rfl) <| rl_nil <| run_block <| Run.keep [1, 2, 4, 7, 8, 9] (F' := [(1, _), (2, _), (4, _), (7, _), (8, _), (9, _)]) rfl <| run_loop1 (fun (j : Int) => [(9, .int .i64 j)]) [1, 2, 4, 7, 8] (fun (j : Int) (w34 : World) => 0 ≤ j ∧ j ≤ Y.bag.length ∧ HAt B w0 w34 b4 b2 (({ Y with bag := [] } : MW).bringAll (Y.bag.take j.toNat)) N (K4.cb :: H)) (fun (j : Int) => ((Y.bag.length : Int) - j).toNat) (0) ?_ (And.intro (by exact slot_int rfl (by first | omega)) (And.intro rfl (And.intro rfl (And.intro rfl (And.intro rfl (And.intro rfl trivial)))))) ?_
     ·exact ⟨by omega, by omega, K4.setB none 0 none, hO5, hK5⟩
     intro j w34 hIw34 ih35
     obtain ⟨hj0, hj1, hWj⟩ := hIw34
     show Run _ _ _ _ [(9, _), (1, _), (2, _), (4, _), (7, _), (8, _)] _ _
     refine run_seq <| run_seq <| run_region <| rl_v rfl rfl rfl (ov_move rfl rfl) <| rl_v rfl rfl rfl (ov_move rfl rfl) <| rl_v rfl rfl rfl (ov_len rfl Try.underlying63 rfl) <| rl_v rfl rfl rfl (ov_lss rfl rfl rfl) <| rl_nil ?_
     first | refine run_cond_dec rfl (fun hjl => ?_) (fun hjl => ?_) | refine run_cond rfl (fun hjl => ?_) (fun hjl => ?_)
     ·have hbj := hbt j.toNat
      have hmj := hGY.bg _ (getD_bag ⟨hj0, hjl⟩)
      have hle : (({ Y with bag := [] } : MW).bringAll (Y.bag.take j.toNat)).bag.length ≤ phi (({ Y with bag := [] } : MW).bringAll (Y.bag.take j.toNat)) := Nat.le_add_right _ _
      obtain ⟨K6, hO6, hK6⟩ := hWj
      refine run_skip <| run_seq <| run_block <| run_tail 5 mixed (by kernel_rfl) ?_
      have hO37 := hO6.drew
      generalize World.drew w34 = w36 at hO37 ⊢
      refine rt_v rfl rfl rfl (ov_loadW rfl Try.underlying69 rfl (by kernel_rfl) rfl hO37 1 rfl) ?_
      refine rt_v rfl rfl rfl (ov_move rfl rfl) <| rt_v rfl rfl rfl (ov_move rfl rfl) <| rt_v rfl rfl rfl (ov_index rfl Try.underlying63 (by kernel_rfl) (s := 4) rfl rfl ⟨by omega, by omega⟩ (by exact (hga (by omega)))) ?_
      refine rt_v rfl rfl rfl (ov_loadE rfl Try.underlying136 rfl (by kernel_rfl) rfl ⟨by omega, by omega⟩ rfl (hrow hO37 (fun x hx => by rw [List.mem_singleton.1 hx]; exact List.mem_cons_of_mem _ (List.mem_cons_of_mem _ (List.mem_cons_self ..))))) ?_
      refine rt_nil ?_
      refine rl_call callable_83 rfl rfl rfl rfl rfl rfl (rbring_any (({ Y with bag := [] } : MW).bringAll (Y.bag.take j.toNat)) (Y.bag.getD j.toNat Ms.z) _ B N _ w0 w36 hbj.1 (hLt _) ⟨hmj.1, by rw [hbj.2.2]; exact hmj.2⟩ (by omega) (mem_c1 (mem_c1 (mem_c1 hN))) (RWt.of2 (H := K4.cb :: H) hO37 hK6)) (fun e38 w39 hp40 => ?_)
      obtain ⟨v55, rfl, K7, rfl, hO7, hK7⟩ := hp40
      refine ⟨_, rfl, ?_⟩
      refine rl_ow rfl (ow_storeW rfl rfl (by kernel_rfl) hO7 1 rfl rfl (by rfl) rfl (by rfl)) ?_
      rintro _ w41 ⟨rfl, hO42, hs43⟩
      refine rl_nil <| run_inBlock <| run_region <| rl_v rfl rfl rfl (ov_move rfl rfl) <| rl_v rfl rfl rfl (ov_add rfl rfl rfl (by omega)) ?_
      refine rl_v rfl rfl rfl (ov_assign rfl rfl) <| rl_nil ?_
      refine Run.use (ih35 (j + 1) _ ?_ ?_) (And.intro (by exact slot_int rfl (by first | omega)) (And.intro rfl (And.intro rfl (And.intro rfl (And.intro rfl (And.intro rfl trivial))))))
      ·first | omega | (dsimp only; omega)
      ·exact ⟨by omega, by omega, by rw [bringTake hj0 hjl]; exact ⟨K7, hO42, hK7⟩⟩
     ·obtain rfl : j = Y.bag.length := by omega
      have hbj := hbt Y.bag.length
      have hLj := hLt Y.bag.length
      have hcj := hct Y.bag.length
      rw [Int.toNat_natCast] at hWj
      rw [List.take_length] at hWj hbj hLj hcj
      refine run_exit rfl <| run_seq <| run_region <| rl_v rfl rfl rfl (ov_assign rfl rfl) <| rl_nil <| run_block <| Run.keep [1, 2, 4, 7, 10] (F' := [(1, _), (2, _), (4, _), (7, _), (10, _)]) rfl <| run_loop1 (fun (i : Int) => [(10, .int .i64 i)]) [1, 2, 4, 7] (fun (i : Int) (w44 : World) => 0 ≤ i ∧ i ≤ 3 ∧ HAt B w0 w44 b4 b2 (tickTo (({ Y with bag := [] } : MW).bringAll Y.bag) i) N (K4.cb :: H)) (fun (i : Int) => (3 - i).toNat) (0) ?_ (And.intro (by exact slot_int rfl (by first | omega)) (And.intro rfl (And.intro rfl (And.intro rfl (And.intro rfl trivial))))) ?_
      ·exact ⟨by omega, by omega, hWj⟩
      intro i w44 hIw44 ih45
      obtain ⟨hi0, hi1, hWi⟩ := hIw44
      show Run _ _ _ _ [(10, _), (1, _), (2, _), (4, _), (7, _)] _ _
      refine run_seq <| run_seq <| run_region <| rl_v rfl rfl rfl (ov_move rfl rfl) <| rl_v rfl rfl rfl (ov_lss rfl rfl rfl) <| rl_nil ?_
      first | refine run_cond_dec rfl (fun hti => ?_) (fun hti => ?_) | refine run_cond rfl (fun hti => ?_) (fun hti => ?_)
      ·have hn : N3 i := by unfold N3; omega
       have htg := tickTo_good hbj.1 i
       have hti := tickTo_inv hLj hcj i
       have hle : (tickTo (({ Y with bag := [] } : MW).bringAll Y.bag) i).bag.length ≤ phi (tickTo (({ Y with bag := [] } : MW).bringAll Y.bag) i) := Nat.le_add_right _ _
       have e9 : (({ Y with bag := [] } : MW).bringAll Y.bag).deals.length = X.deals.length := by rw [hbj.2.2, eY]
       have hGi : Good (tickTo (({ Y with bag := [] } : MW).bringAll Y.bag) i) := htg.1
       have htk0 : (tickTo (({ Y with bag := [] } : MW).bringAll Y.bag) i).tick0 i = (tickTo (({ Y with bag := [] } : MW).bringAll Y.bag) i).tick i := by unfold MW.tick0; rw [if_neg (by rw [(hti.2 i hn).1]; decide)]
       obtain ⟨K8, hO8, hK8⟩ := hWi
       refine run_skip <| run_seq <| run_block <| run_region <| rl_v rfl rfl rfl (ov_loadW rfl Try.underlying69 rfl (by kernel_rfl) rfl hO8 1 rfl) ?_
       refine rl_v rfl rfl rfl (ov_move rfl rfl) ?_
       refine rl_call callable_86 rfl rfl rfl rfl rfl rfl (rtick_any (tickTo (({ Y with bag := [] } : MW).bringAll Y.bag) i) i _ B N _ w0 w44 hn hGi hti.1 (hti.2 i hn).1 (by omega) (mem_c1 (mem_c1 (mem_c1 hN))) (RWt.of2 (H := K4.cb :: H) hO8 hK8)) (fun e46 w47 hp48 => ?_)
       obtain ⟨v62, rfl, K9, rfl, hO9, hK9⟩ := hp48
       refine ⟨_, rfl, ?_⟩
       refine rl_ow rfl (ow_storeW rfl rfl (by kernel_rfl) hO9 1 rfl rfl (by rfl) rfl (by rfl)) ?_
       rintro _ w49 ⟨rfl, hO50, hs51⟩
       refine rl_nil <| run_inBlock <| run_region <| rl_v rfl rfl rfl (ov_move rfl rfl) <| rl_v rfl rfl rfl (ov_add rfl rfl rfl (by omega)) ?_
       refine rl_v rfl rfl rfl (ov_assign rfl rfl) <| rl_nil ?_
       refine Run.use (ih45 (i + 1) _ ?_ ?_) (And.intro (by exact slot_int rfl (by first | omega)) (And.intro rfl (And.intro rfl (And.intro rfl (And.intro rfl trivial)))))
       ·first | omega | (dsimp only; omega)
       ·exact ⟨by omega, by omega, by rw [tickTo_step _ hn, htk0]; exact ⟨K9, hO50, hK9⟩⟩
      ·obtain rfl : i = 3 := by omega
       obtain ⟨K8, hO8, hK8⟩ := hWi
       refine run_exit rfl <| run_inBlock <| run_region <| rl_v rfl rfl rfl (ov_move rfl rfl) <| rl_v rfl rfl rfl (ov_add rfl rfl rfl (by omega)) ?_
       refine rl_v rfl rfl rfl (ov_assign rfl rfl) <| rl_nil ?_
       refine Run.use (ih30 (q + 1) _ ?_ ?_) (And.intro (by exact slot_int rfl (by first | omega)) (And.intro rfl (And.intro rfl (And.intro rfl trivial))))
       ·first | omega | (dsimp only; omega)
       ·exact ⟨by omega, by omega, by rw [erd]; exact ⟨K8, hO8.sub (.cons_cons _ (.cons_cons _ (.cons _ (.refl _)))), hK8⟩⟩
    ·obtain rfl : q = k := by omega
     refine run_exit rfl <| run_seq <| run_region <| rl_v rfl rfl rfl (ov_loadW rfl Try.underlying69 rfl (by kernel_rfl) rfl hO4 1 rfl) ?_
     refine rl_ow rfl (ow_storeW rfl rfl (by kernel_rfl) hO4 0 rfl rfl (by rfl) rfl (by rfl)) ?_
     rintro _ w52 ⟨rfl, hO53, hs54⟩
     refine rl_v rfl rfl rfl (ov_assign rfl rfl) <| rl_nil <| run_ret Try.func70 (resW2 Try.results70 rfl rfl Try.underlying69 rfl (by kernel_rfl) hO53 0 rfl) ?_
     exact ⟨_, rfl, RWt.out ⟨K4, rfl, hO53.tail.tail, hK4⟩⟩
end Go.Proofs.Yteagflekbbchhaa
