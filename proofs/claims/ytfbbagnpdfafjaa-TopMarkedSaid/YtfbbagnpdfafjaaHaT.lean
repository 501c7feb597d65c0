import Derived.Test.YtfbbagnpdfafjaaHaS
set_option maxRecDepth 100000
namespace Go.Proofs.Ytfbbagnpdfafjaa
open Go.RowKit Go.Proofs
def BadA (mem mon rate cap : Int) : Prop := ¬ (2 ≤ mem ∧ mem ≤ 64) ∨ ¬ (1 ≤ mon ∧ mon ≤ 12) ∨ ¬ (0 ≤ rate ∧ rate ≤ 1000) ∨ ¬ (0 ≤ cap ∧ cap ≤ 1000000000000)
def BadB (mon : Int) (pn mn : Nat) (L : Int → Nat) : Prop := (pn : Int) ≠ mon ∨ 64 < mn ∨ ∃ i : Int, 0 ≤ i ∧ i < mn ∧ (L i : Int) ≠ mon
def BadC (pn : Nat) (P : Int → Int) : Prop := ∃ i : Int, 0 ≤ i ∧ i < pn ∧ ¬ (1 ≤ P i ∧ P i ≤ 1000000)
def BadD (mn : Nat) (L : Int → Nat) (F : Int → Int → Int) : Prop := ∃ i : Int, 0 ≤ i ∧ i < mn ∧ ∃ m : Int, 0 ≤ m ∧ m < L i ∧ ¬ (-1000000 ≤ F i m ∧ F i m ≤ 1000000)
open Classical in
noncomputable def newE (mem mon : Int) (pn mn : Nat) (P : Int → Int) (L : Int → Nat) (F : Int → Int → Int) (rate cap : Int) : Int :=
 if BadA mem mon rate cap then 1 else if BadB mon pn mn L then 7 else if BadC pn P ∨ BadD mn L F then 1 else 0
def HM.new (mem mon : Int) (mn : Nat) (P : Int → Int) (F : Int → Int → Int) (rate cap : Int) : HM := ⟨mem.toNat, mon, cutM mon P, mn, fun i => cutM mon (F i), rate, cap, 0, fun _ => HA.z, 0, fun _ => Ct.z⟩
theorem new_any (mem mon : Int) (pa ma : Option Addr) (pn pc mn mc : Nat) (rate cap : Int) (P : Int → Int) (L : Int → Nat) (F : Int → Int → Int) (B : Nat) (H : List (Option Blk)) (w0 w : World) (hO : Own B w0 w H) (hP : SrcI H pa pn P) (hT : TSrc H ma mn L F) (hpn : pn ≤ 1000000) (hmn : mn ≤ 1000000) (hL : ∀ i : Int, 0 ≤ i → i < mn → L i ≤ 1000000) :
  Calls Try.prog 17 #[.agg (cfL mem mon pa pn pc ma mn mc rate cap).toArray] w fun e w' =>
   (newE mem mon pn mn P L F rate cap ≠ 0 ∧ e = .returned (.tuple #[.pointer none, iv (newE mem mon pn mn P L F rate cap)]) ∧ Own B w0 w' H) ∨
   (newE mem mon pn mn P L F rate cap = 0 ∧ ∃ hb, e = .returned (.tuple #[ptr hb, iv 0]) ∧ HAt B w0 w' hb (HM.new mem mon mn P F rate cap) [] H) := by
 have eA : BadA mem mon rate cap → newE mem mon pn mn P L F rate cap = 1 := fun h => if_pos h
 have eB : ¬ BadA mem mon rate cap → BadB mon pn mn L → newE mem mon pn mn P L F rate cap = 7 := fun h h2 => (if_neg h).trans (if_pos h2)
 have eC : ¬ BadA mem mon rate cap → ¬ BadB mon pn mn L → BadC pn P ∨ BadD mn L F → newE mem mon pn mn P L F rate cap = 1 := fun h h2 h3 => (if_neg h).trans ((if_neg h2).trans (if_pos h3))
 have e0 : ¬ BadA mem mon rate cap → ¬ BadB mon pn mn L → ¬ BadC pn P → ¬ BadD mn L F → newE mem mon pn mn P L F rate cap = 0 := fun h h2 h3 h4 => (if_neg h).trans ((if_neg h2).trans (if_neg fun h => h.elim h3 h4))
 refine calls_of_run (F := [(0, _)]) Try.func17 rfl Try.ntmps17 rfl rfl <| run_seq <| run_region <| rl_ow rfl (ow_box _ rfl rfl rfl rfl rfl hO) ?_
 rintro _ w1 ⟨b1, rfl, hO2, hs3⟩
 refine rl_v rfl rfl rfl (ov_assign rfl rfl) <| rl_v rfl rfl rfl (ov_assign rfl rfl) <| rl_nil <| run_seq <| run_seq <| run_region <| rl_v rfl rfl rfl (ov_fieldS rfl Try.underlying40 rfl (fo := 0) rfl (by kernel_rfl) rfl) ?_
 refine rl_v rfl rfl rfl (ov_load rfl Try.underlying3 rfl rfl (by exact (show _ = some (iv mem) from hO2.cellL 0 rfl (off := 0) rfl))) ?_
 refine rl_call callable_54 rfl rfl rfl rfl rfl rfl (in_any mem 2 64 w1) (fun e4 w5 hp6 => ?_)
 obtain ⟨rfl, hw⟩ := hp6
 refine ⟨_, rfl, ?_⟩
 subst hw
 refine rl_v rfl rfl rfl (ov_not rfl rfl) <| rl_v rfl rfl rfl (ov_move rfl rfl) ?_
 first | refine rl_split_dec 11 rfl (fun g1 => ?_) (fun g1 => ?_) | refine rl_split 11 rfl (fun g1 => ?_) (fun g1 => ?_)
 ·refine rl_gskip rfl rfl rfl rfl rfl rfl <| rl_gskip rfl rfl rfl rfl rfl rfl <| rl_gskip rfl rfl rfl rfl rfl rfl <| rl_gskip rfl rfl rfl rfl rfl rfl <| rl_v rfl rfl rfl (ov_pick_t rfl rfl rfl) <| rl_v rfl rfl rfl (ov_move rfl rfl) <| rl_gskip rfl rfl rfl rfl rfl rfl <| rl_gskip rfl rfl rfl rfl rfl rfl <| rl_gskip rfl rfl rfl rfl rfl rfl <| rl_gskip rfl rfl rfl rfl rfl rfl <| rl_v rfl rfl rfl (ov_pick_t rfl rfl rfl) <| rl_v rfl rfl rfl (ov_move rfl rfl) <| rl_gskip rfl rfl rfl rfl rfl rfl <| rl_gskip rfl rfl rfl rfl rfl rfl <| rl_gskip rfl rfl rfl rfl rfl rfl <| rl_gskip rfl rfl rfl rfl rfl rfl <| rl_v rfl rfl rfl (ov_pick_t rfl rfl rfl) <| rl_nil <| run_cond_t rfl ?_
  have ee := eA (.inl (ndt g1))
  refine run_seq <| run_region <| rl_v rfl rfl rfl (ov_assign rfl rfl) <| rl_v rfl rfl rfl (ov_assign rfl rfl) <| rl_nil <| run_ret Try.func17 (res2 Try.results17 rfl rfl) ?_
  exact .inl ⟨by rw [ee]; decide, by rw [ee], hO2.tail⟩
 ·refine rl_gv rfl rfl rfl rfl rfl (ov_fieldS rfl Try.underlying40 rfl (fo := 1) rfl (by kernel_rfl) rfl) ?_
  refine rl_gv rfl rfl rfl rfl rfl (ov_load rfl Try.underlying3 rfl rfl (by exact (show _ = some (iv mon) from hO2.cellL 0 rfl (off := 1) rfl))) ?_
  refine rl_gcall callable_54 rfl rfl rfl rfl rfl rfl rfl rfl (in_any mon 1 12 w5) (fun e8 w9 hp10 => ?_)
  obtain ⟨rfl, hw⟩ := hp10
  refine ⟨_, rfl, ?_⟩
  subst hw
  refine rl_gv rfl rfl rfl rfl rfl (ov_not rfl rfl) <| rl_v rfl rfl rfl (ov_pick_f rfl rfl rfl) <| rl_v rfl rfl rfl (ov_move rfl rfl) ?_
  first | refine rl_split_dec 17 rfl (fun g2 => ?_) (fun g2 => ?_) | refine rl_split 17 rfl (fun g2 => ?_) (fun g2 => ?_)
  ·refine rl_gskip rfl rfl rfl rfl rfl rfl <| rl_gskip rfl rfl rfl rfl rfl rfl <| rl_gskip rfl rfl rfl rfl rfl rfl <| rl_gskip rfl rfl rfl rfl rfl rfl <| rl_v rfl rfl rfl (ov_pick_t rfl rfl rfl) <| rl_v rfl rfl rfl (ov_move rfl rfl) <| rl_gskip rfl rfl rfl rfl rfl rfl <| rl_gskip rfl rfl rfl rfl rfl rfl <| rl_gskip rfl rfl rfl rfl rfl rfl <| rl_gskip rfl rfl rfl rfl rfl rfl <| rl_v rfl rfl rfl (ov_pick_t rfl rfl rfl) <| rl_nil <| run_cond_t rfl ?_
   have ee := eA (.inr (.inl (ndt g2)))
   refine run_seq <| run_region <| rl_v rfl rfl rfl (ov_assign rfl rfl) <| rl_v rfl rfl rfl (ov_assign rfl rfl) <| rl_nil <| run_ret Try.func17 (res2 Try.results17 rfl rfl) ?_
   exact .inl ⟨by rw [ee]; decide, by rw [ee], hO2.tail⟩
  ·refine rl_gv rfl rfl rfl rfl rfl (ov_fieldS rfl Try.underlying40 rfl (fo := 4) rfl (by kernel_rfl) rfl) ?_
   refine rl_gv rfl rfl rfl rfl rfl (ov_load rfl Try.underlying2 rfl rfl (by exact (show _ = some (iv rate) from hO2.cellL 0 rfl (off := 4) rfl))) ?_
   refine rl_gcall callable_54 rfl rfl rfl rfl rfl rfl rfl rfl (in_any rate 0 1000 w9) (fun e12 w13 hp14 => ?_)
   obtain ⟨rfl, hw⟩ := hp14
   refine ⟨_, rfl, ?_⟩
   subst hw
   refine rl_gv rfl rfl rfl rfl rfl (ov_not rfl rfl) <| rl_v rfl rfl rfl (ov_pick_f rfl rfl rfl) <| rl_v rfl rfl rfl (ov_move rfl rfl) ?_
   first | refine rl_split_dec 23 rfl (fun g3 => ?_) (fun g3 => ?_) | refine rl_split 23 rfl (fun g3 => ?_) (fun g3 => ?_)
   ·refine rl_gskip rfl rfl rfl rfl rfl rfl <| rl_gskip rfl rfl rfl rfl rfl rfl <| rl_gskip rfl rfl rfl rfl rfl rfl <| rl_gskip rfl rfl rfl rfl rfl rfl <| rl_v rfl rfl rfl (ov_pick_t rfl rfl rfl) <| rl_nil <| run_cond_t rfl ?_
    have ee := eA (.inr (.inr (.inl (ndt g3))))
    refine run_seq <| run_region <| rl_v rfl rfl rfl (ov_assign rfl rfl) <| rl_v rfl rfl rfl (ov_assign rfl rfl) <| rl_nil <| run_ret Try.func17 (res2 Try.results17 rfl rfl) ?_
    exact .inl ⟨by rw [ee]; decide, by rw [ee], hO2.tail⟩
   ·refine rl_gv rfl rfl rfl rfl rfl (ov_fieldS rfl Try.underlying40 rfl (fo := 5) rfl (by kernel_rfl) rfl) ?_
    refine rl_gv rfl rfl rfl rfl rfl (ov_load rfl Try.underlying2 rfl rfl (by exact (show _ = some (iv cap) from hO2.cellL 0 rfl (off := 5) rfl))) ?_
    refine rl_gcall callable_54 rfl rfl rfl rfl rfl rfl rfl rfl (in_any cap 0 1000000000000 w13) (fun e16 w17 hp18 => ?_)
    obtain ⟨rfl, hw⟩ := hp18
    refine ⟨_, rfl, ?_⟩
    subst hw
    refine rl_gv rfl rfl rfl rfl rfl (ov_not rfl rfl) <| rl_v rfl rfl rfl (ov_pick_f rfl rfl rfl) <| rl_nil ?_
    first | refine run_cond_dec rfl (fun g4 => ?_) (fun g4 => ?_) | refine run_cond rfl (fun g4 => ?_) (fun g4 => ?_)
    ·have ee := eA (.inr (.inr (.inr (ndt g4))))
     refine run_seq <| run_region <| rl_v rfl rfl rfl (ov_assign rfl rfl) <| rl_v rfl rfl rfl (ov_assign rfl rfl) <| rl_nil <| run_ret Try.func17 (res2 Try.results17 rfl rfl) ?_
     exact .inl ⟨by rw [ee]; decide, by rw [ee], hO2.tail⟩
    ·have hm := ndf g1
     have hn := ndf g2
     have hra := ndf g3
     have hca := ndf g4
     have nA : ¬ BadA mem mon rate cap := fun h => h.elim (fun h => h hm) fun h => h.elim (fun h => h hn) fun h => h.elim (fun h => h hra) fun h => h hca
     refine run_skip <| run_seq <| run_seq <| run_region <| rl_v rfl rfl rfl (ov_fieldS rfl Try.underlying40 rfl (fo := 2) rfl (by kernel_rfl) rfl) ?_
     refine rl_v rfl rfl rfl (ov_load rfl Try.underlying22 rfl rfl (by exact hO2.cellL 0 rfl (off := 2) rfl)) ?_
     refine rl_v rfl rfl rfl (ov_len rfl Try.underlying22 rfl) <| rl_v rfl rfl rfl (ov_fieldS rfl Try.underlying40 rfl (fo := 1) rfl (by kernel_rfl) rfl) ?_
     refine rl_v rfl rfl rfl (ov_load rfl Try.underlying3 rfl rfl (by exact (show _ = some (iv mon) from hO2.cellL 0 rfl (off := 1) rfl))) ?_
     refine rl_v rfl rfl rfl (ov_neq rfl rfl rfl) <| rl_v rfl rfl rfl (ov_move rfl rfl) ?_
     first | refine rl_split_dec 35 rfl (fun k1 => ?_) (fun k1 => ?_) | refine rl_split 35 rfl (fun k1 => ?_) (fun k1 => ?_)
     ·refine rl_gskip rfl rfl rfl rfl rfl rfl <| rl_gskip rfl rfl rfl rfl rfl rfl <| rl_gskip rfl rfl rfl rfl rfl rfl <| rl_gskip rfl rfl rfl rfl rfl rfl <| rl_v rfl rfl rfl (ov_pick_t rfl rfl rfl) <| rl_v rfl rfl rfl (ov_move rfl rfl) <| rl_gskip rfl rfl rfl rfl rfl rfl <| rl_gskip rfl rfl rfl rfl rfl rfl <| rl_gskip rfl rfl rfl rfl rfl rfl <| rl_gskip rfl rfl rfl rfl rfl rfl <| rl_v rfl rfl rfl (ov_pick_t rfl rfl rfl) <| rl_nil <| run_cond_t rfl ?_
      have ee := eB nA (.inl k1)
      refine run_seq <| run_region <| rl_v rfl rfl rfl (ov_assign rfl rfl) <| rl_v rfl rfl rfl (ov_assign rfl rfl) <| rl_nil <| run_ret Try.func17 (res2 Try.results17 rfl rfl) ?_
      exact .inl ⟨by rw [ee]; decide, by rw [ee], hO2.tail⟩
     ·refine rl_gv rfl rfl rfl rfl rfl (ov_fieldS rfl Try.underlying40 rfl (fo := 3) rfl (by kernel_rfl) rfl) ?_
      refine rl_gv rfl rfl rfl rfl rfl (ov_load rfl Try.underlying23 rfl rfl (by exact hO2.cellL 0 rfl (off := 3) rfl)) ?_
      refine rl_gv rfl rfl rfl rfl rfl (ov_len rfl Try.underlying23 rfl) <| rl_gv rfl rfl rfl rfl rfl (ov_gtr rfl rfl rfl) <| rl_v rfl rfl rfl (ov_pick_f rfl rfl rfl) <| rl_v rfl rfl rfl (ov_move rfl rfl) ?_
      first | refine rl_split_dec 41 rfl (fun k2 => ?_) (fun k2 => ?_) | refine rl_split 41 rfl (fun k2 => ?_) (fun k2 => ?_)
      ·refine rl_gskip rfl rfl rfl rfl rfl rfl <| rl_gskip rfl rfl rfl rfl rfl rfl <| rl_gskip rfl rfl rfl rfl rfl rfl <| rl_gskip rfl rfl rfl rfl rfl rfl <| rl_v rfl rfl rfl (ov_pick_t rfl rfl rfl) <| rl_nil <| run_cond_t rfl ?_
       have ee := eB nA (.inr (.inl (by omega)))
       refine run_seq <| run_region <| rl_v rfl rfl rfl (ov_assign rfl rfl) <| rl_v rfl rfl rfl (ov_assign rfl rfl) <| rl_nil <| run_ret Try.func17 (res2 Try.results17 rfl rfl) ?_
       exact .inl ⟨by rw [ee]; decide, by rw [ee], hO2.tail⟩
      ·refine rl_gv rfl rfl rfl rfl rfl (ov_fieldS rfl Try.underlying40 rfl (fo := 3) rfl (by kernel_rfl) rfl) ?_
       refine rl_gv rfl rfl rfl rfl rfl (ov_load rfl Try.underlying23 rfl rfl (by exact hO2.cellL 0 rfl (off := 3) rfl)) ?_
       refine rl_gv rfl rfl rfl rfl rfl (ov_func rfl rfl rfl) ?_
       refine rl_gcall callable_55 rfl rfl rfl rfl rfl rfl rfl rfl (rowsIs_any ma mn mc L F b1 B 0 mem mon pa pn pc ma mn mc rate cap _ w0 w17 hO2 rfl (hT.sub (.cons _ (.refl _))) hmn) (fun e21 w22 hp23 => ?_)
       obtain ⟨r, rfl, hr, hw⟩ := hp23
       refine ⟨_, rfl, ?_⟩
       subst hw
       refine rl_v rfl rfl rfl (ov_pick_f rfl rfl rfl) <| rl_nil ?_
       first | refine run_cond_dec rfl (fun k3 => ?_) (fun k3 => ?_) | refine run_cond rfl (fun k3 => ?_) (fun k3 => ?_)
       ·have ee := eB nA (.inr (.inr (hr.1 k3)))
        refine run_seq <| run_region <| rl_v rfl rfl rfl (ov_assign rfl rfl) <| rl_v rfl rfl rfl (ov_assign rfl rfl) <| rl_nil <| run_ret Try.func17 (res2 Try.results17 rfl rfl) ?_
        exact .inl ⟨by rw [ee]; decide, by rw [ee], hO2.tail⟩
       ·have nrow : ¬ ∃ i : Int, 0 ≤ i ∧ i < mn ∧ (L i : Int) ≠ mon := fun h => by rw [hr.2 h] at k3; cases k3
        have hpm : (pn : Int) = mon := Classical.byContradiction fun h => k1 h
        have nB : ¬ BadB mon pn mn L := fun h => h.elim (fun h => h hpm) fun h => h.elim (fun h => by omega) nrow
        have hLm : ∀ i : Int, 0 ≤ i → i < mn → (L i : Int) = mon := fun i i0 i1 => Classical.byContradiction fun h => nrow ⟨i, i0, i1, h⟩
        refine run_skip <| run_seq <| run_seq <| run_region <| rl_v rfl rfl rfl (ov_fieldS rfl Try.underlying40 rfl (fo := 2) rfl (by kernel_rfl) rfl) ?_
        refine rl_v rfl rfl rfl (ov_load rfl Try.underlying22 rfl rfl (by exact hO2.cellL 0 rfl (off := 2) rfl)) ?_
        refine rl_call callable_57 rfl rfl rfl rfl rfl rfl (colIs_any 58 1 1000000 callable_58 new2_any pa pn pc B P _ w0 w22 hO2 (hP.sub (.cons _ (.refl _))) (by omega)) (fun e24 w25 hp26 => ?_)
        obtain ⟨r2, rfl, hr2, hw⟩ := hp26
        refine ⟨_, rfl, ?_⟩
        subst hw
        refine rl_nil ?_
        first | refine run_cond_dec rfl (fun k4 => ?_) (fun k4 => ?_) | refine run_cond rfl (fun k4 => ?_) (fun k4 => ?_)
        ·have ee := eC nA nB (.inl (hr2.1 k4))
         refine run_seq <| run_region <| rl_v rfl rfl rfl (ov_assign rfl rfl) <| rl_v rfl rfl rfl (ov_assign rfl rfl) <| rl_nil <| run_ret Try.func17 (res2 Try.results17 rfl rfl) ?_
         exact .inl ⟨by rw [ee]; decide, by rw [ee], hO2.tail⟩
        ·have nC : ¬ BadC pn P := fun h => by rw [hr2.2 h] at k4; cases k4
         have hmem : ((mem.toNat : Nat) : Int) = mem := Int.toNat_of_nonneg (by omega)
         refine run_skip <| run_seq <| Run.keep [1] (F' := [(1, _)]) rfl <| run_join3 (fun (b63 : Nat) (ab : Nat) (ca : Option Blk) => [(4, ptr b63)]) [1] (fun (b63 : Nat) (ab : Nat) (ca : Option Blk) (w27 : World) => SRow (.slice (some ⟨ab, 0, none⟩) mem.toNat mem.toNat) 127 15 mem.toNat (fun _ => accL HA.z) ca ∧ Own B w0 w27 (some (lch b63 124 (HR.l ⟨mon, cutM mon P, none, 0, 0, rate, cap, 0, some ⟨ab, 0, none⟩, mem.toNat, mem.toNat, none, 0, 0⟩)) :: ca :: some (lch b1 40 (cfL mem mon pa pn pc ma mn mc rate cap)) :: H)) (fun hk28 => ?_) ?_
         ·refine run_held (fun w' => Own B w0 w' ([some (lch b1 40 (cfL mem mon pa pn pc ma mn mc rate cap))])) mixed ?_
          have hO30 := hO2.drew
          generalize World.drew w25 = w29 at hO30 ⊢
          have hS31 : Own B w0 w29 ([some (lch b1 40 (cfL mem mon pa pn pc ma mn mc rate cap))]) := by first | exact hO30.sub (.cons_cons _ (List.nil_sublist _)) | exact hO30.sub (.cons _ (.cons_cons _ (List.nil_sublist _))) | exact hO30.sub (.cons _ (.cons _ (.cons_cons _ (List.nil_sublist _))))
          refine rh_v 0 rfl (by kernel_rfl) rfl rfl rfl hS31 (fun _ hS => ov_fieldS rfl Try.underlying40 rfl (fo := 1) rfl (by kernel_rfl) rfl) ?_
          refine rh_v 1 rfl (by kernel_rfl) rfl rfl rfl hS31 (fun _ hS => ov_load rfl Try.underlying3 rfl rfl (by exact hS.cellL 0 rfl (off := 1) rfl)) ?_
          refine rh_v 2 rfl (by kernel_rfl) rfl rfl rfl hS31 (fun _ hS => ov_fieldS rfl Try.underlying40 rfl (fo := 2) rfl (by kernel_rfl) rfl) ?_
          refine rh_v 3 rfl (by kernel_rfl) rfl rfl rfl hS31 (fun _ hS => ov_load rfl Try.underlying22 rfl rfl (by exact hS.cellL 0 rfl (off := 2) rfl)) ?_
          refine rh_v 5 rfl (by kernel_rfl) rfl rfl rfl hS31 (fun _ hS => ov_fieldS rfl Try.underlying40 rfl (fo := 4) rfl (by kernel_rfl) rfl) ?_
          refine rh_v 6 rfl (by kernel_rfl) rfl rfl rfl hS31 (fun _ hS => ov_load rfl Try.underlying2 rfl rfl (by exact hS.cellL 0 rfl (off := 4) rfl)) ?_
          refine rh_v 7 rfl (by kernel_rfl) rfl rfl rfl hS31 (fun _ hS => ov_fieldS rfl Try.underlying40 rfl (fo := 5) rfl (by kernel_rfl) rfl) ?_
          refine rh_v 8 rfl (by kernel_rfl) rfl rfl rfl hS31 (fun _ hS => ov_load rfl Try.underlying2 rfl rfl (by exact hS.cellL 0 rfl (off := 5) rfl)) ?_
          refine rh_v 9 rfl (by kernel_rfl) rfl rfl rfl hS31 (fun _ hS => ov_fieldS rfl Try.underlying40 rfl (fo := 0) rfl (by kernel_rfl) rfl) ?_
          refine rh_v 10 rfl (by kernel_rfl) rfl rfl rfl hS31 (fun _ hS => ov_load rfl Try.underlying3 rfl rfl (by exact hS.cellL 0 rfl (off := 0) rfl)) ?_
          refine rh_any2 4 11 (by kernel_rfl) ?_ ?_
          ·refine rc_op rfl rfl (ow_call2 callable_59 rfl rfl rfl rfl rfl (months_any pa pn pc B P _ w0 w29 hO30 (hP.sub (.cons _ (.refl _))) (by omega)) (by intro e w' hp; obtain ⟨rfl, hOm⟩ := hp; exact ⟨_, rfl⟩)) ?_
           rintro _ w34 ⟨_, v32, he35, rfl, hp33⟩
           obtain ⟨rfl, hOm⟩ := hp33
           injection he35 with he35; subst he35
           have hS36 : Own B w0 w34 ([some (lch b1 40 (cfL mem mon pa pn pc ma mn mc rate cap))]) := by first | exact hOm.sub (.cons_cons _ (List.nil_sublist _)) | exact hOm.sub (.cons _ (.cons_cons _ (List.nil_sublist _))) | exact hOm.sub (.cons _ (.cons _ (.cons_cons _ (List.nil_sublist _))))
           refine ⟨hS36, ?_⟩
           refine rh_any1 11 (by kernel_rfl) ?_
           refine rc_op rfl rfl (ow_makeS mem.toNat (accL HA.z) rfl rfl rfl Try.underlying120 info_127 rfl rfl hOm rfl rfl hmem.symm hmem.symm ⟨by omega, by omega⟩) ?_
           rintro _ w37 ⟨ab, ca, rfl, hO38, hRa, hs39⟩
           have hS40 : Own B w0 w37 ([some (lch b1 40 (cfL mem mon pa pn pc ma mn mc rate cap))]) := by first | exact hO38.sub (.cons_cons _ (List.nil_sublist _)) | exact hO38.sub (.cons _ (.cons_cons _ (List.nil_sublist _))) | exact hO38.sub (.cons _ (.cons _ (.cons_cons _ (List.nil_sublist _))))
           refine ⟨hS40, ?_⟩
           refine rh_v 12 rfl (by kernel_rfl) rfl rfl rfl hS40 (fun _ hS => ov_buildHR rfl rfl rfl rfl rfl rfl) ?_
           refine rh_any1 13 (by kernel_rfl) ?_
           refine rc_op rfl rfl (ow_box _ rfl rfl rfl rfl rfl hO38) ?_
           rintro _ w41 ⟨b63, rfl, hO42, hs43⟩
           have hS44 : Own B w0 w41 ([some (lch b1 40 (cfL mem mon pa pn pc ma mn mc rate cap))]) := by first | exact hO42.sub (.cons_cons _ (List.nil_sublist _)) | exact hO42.sub (.cons _ (.cons_cons _ (List.nil_sublist _))) | exact hO42.sub (.cons _ (.cons _ (.cons_cons _ (List.nil_sublist _))))
           refine ⟨hS44, ?_⟩
           refine rh_v 14 rfl (by kernel_rfl) rfl rfl rfl hS44 (fun _ hS => ov_assign rfl rfl) ?_
           refine rh_done (by kernel_rfl) ?_
           refine Run.use (hk28 (b63) (ab) (ca) _ ?_) (And.intro rfl (And.intro rfl trivial))
           exact ⟨hRa, by rw [hpm] at hO42; exact hO42⟩
          ·refine rc_op rfl rfl (ow_makeS mem.toNat (accL HA.z) rfl rfl rfl Try.underlying120 info_127 rfl rfl hO30 rfl rfl hmem.symm hmem.symm ⟨by omega, by omega⟩) ?_
           rintro _ w45 ⟨ab, ca, rfl, hO46, hRa, hs47⟩
           have hS48 : Own B w0 w45 ([some (lch b1 40 (cfL mem mon pa pn pc ma mn mc rate cap))]) := by first | exact hO46.sub (.cons_cons _ (List.nil_sublist _)) | exact hO46.sub (.cons _ (.cons_cons _ (List.nil_sublist _))) | exact hO46.sub (.cons _ (.cons _ (.cons_cons _ (List.nil_sublist _))))
           refine ⟨hS48, ?_⟩
           refine rh_any1 4 (by kernel_rfl) ?_
           refine rc_op rfl rfl (ow_call2 callable_59 rfl rfl rfl rfl rfl (months_any pa pn pc B P _ w0 w45 hO46 (hP.sub (.cons _ (.cons _ (.refl _)))) (by omega)) (by intro e w' hp; obtain ⟨rfl, hOm⟩ := hp; exact ⟨_, rfl⟩)) ?_
           rintro _ w51 ⟨_, v49, he52, rfl, hp50⟩
           obtain ⟨rfl, hOm⟩ := hp50
           injection he52 with he52; subst he52
           have hS53 : Own B w0 w51 ([some (lch b1 40 (cfL mem mon pa pn pc ma mn mc rate cap))]) := by first | exact hOm.sub (.cons_cons _ (List.nil_sublist _)) | exact hOm.sub (.cons _ (.cons_cons _ (List.nil_sublist _))) | exact hOm.sub (.cons _ (.cons _ (.cons_cons _ (List.nil_sublist _))))
           refine ⟨hS53, ?_⟩
           refine rh_v 12 rfl (by kernel_rfl) rfl rfl rfl hS53 (fun _ hS => ov_buildHR rfl rfl rfl rfl rfl rfl) ?_
           refine rh_any1 13 (by kernel_rfl) ?_
           refine rc_op rfl rfl (ow_box _ rfl rfl rfl rfl rfl hOm) ?_
           rintro _ w54 ⟨b63, rfl, hO55, hs56⟩
           have hS57 : Own B w0 w54 ([some (lch b1 40 (cfL mem mon pa pn pc ma mn mc rate cap))]) := by first | exact hO55.sub (.cons_cons _ (List.nil_sublist _)) | exact hO55.sub (.cons _ (.cons_cons _ (List.nil_sublist _))) | exact hO55.sub (.cons _ (.cons _ (.cons_cons _ (List.nil_sublist _))))
           refine ⟨hS57, ?_⟩
           refine rh_v 14 rfl (by kernel_rfl) rfl rfl rfl hS57 (fun _ hS => ov_assign rfl rfl) ?_
           refine rh_done (by kernel_rfl) ?_
           refine Run.use (hk28 (b63) (ab) (ca) _ ?_) (And.intro rfl (And.intro rfl trivial))
           exact ⟨hRa, by rw [hpm] at hO55; exact hO55⟩
         ·intro b63 ab ca w27 hJw27
          obtain ⟨hra2, hOj⟩ := hJw27
          show Run _ _ _ _ [(4, _), (1, _)] _ _
          obtain ⟨A, C, hT1, hT2, _⟩ := hT
          refine run_seq <| run_seq <| run_region <| rl_v rfl rfl rfl (ov_fieldS rfl Try.underlying40 rfl (fo := 3) rfl (by kernel_rfl) rfl) ?_
          refine rl_v rfl rfl rfl (ov_load rfl Try.underlying23 rfl rfl (by exact hOj.cellL 2 rfl (off := 3) rfl)) ?_
          refine rl_v rfl rfl rfl (ov_len rfl Try.underlying23 rfl) <| rl_v rfl rfl rfl (ov_move rfl rfl) <| rl_nil <| run_block <| Run.keep [4, 65, 66, 67] (F' := [(4, _), (65, _), (66, _), (67, _)]) rfl <| run_loop5 (fun (i : Int) (n : Nat) (a : Option Addr) (cp : Nat) (c : Option Blk) => [(67, .int .i64 i)]) [4, 65, 66] (fun (i : Int) (n : Nat) (a : Option Addr) (cp : Nat) (c : Option Blk) (w58 : World) => i = n ∧ n ≤ mn ∧ SRow (.slice a n cp) 118 12 n (fun i => monL (cutM mon (F i))) c ∧ (∀ j : Int, 0 ≤ j → j < i → ∀ m : Int, 0 ≤ m → m < L j → -1000000 ≤ F j m ∧ F j m ≤ 1000000) ∧ Own B w0 w58 (some (lch b63 124 (HR.l ⟨mon, cutM mon P, a, n, cp, rate, cap, 0, some ⟨ab, 0, none⟩, mem.toNat, mem.toNat, none, 0, 0⟩)) :: c :: ca :: some (lch b1 40 (cfL mem mon pa pn pc ma mn mc rate cap)) :: H)) (fun (i : Int) (n : Nat) (a : Option Addr) (cp : Nat) (c : Option Blk) => mn - n) (0) (0) (none) (0) (none) ?_ (And.intro (by exact slot_int rfl (by first | omega)) (And.intro rfl (And.intro rfl (And.intro rfl trivial)))) ?_
          ·exact ⟨rfl, by omega, SRow.nil _ _ _, fun j j0 j1 => by omega, hOj.nil_cons.swap⟩
          intro i n a cp c w58 hIw58 ih59
          obtain ⟨hi, hn2, hrw, hok, hO1⟩ := hIw58
          show Run _ _ _ _ [(67, _), (4, _), (65, _), (66, _)] _ _
          refine run_seq <| run_region <| rl_v rfl rfl rfl (ov_lss rfl rfl rfl) <| rl_nil <| run_seq ?_
          first | refine run_cond_dec rfl (fun h1 => ?_) (fun h1 => ?_) | refine run_cond rfl (fun h1 => ?_) (fun h1 => ?_)
          ·obtain ⟨gb, go, hga, hrow⟩ := (hT1 B w0 w58 (hO1.sub (.cons _ (.cons _ (.cons _ (.cons _ (.refl _))))))).open
           have hrs := hT2 i (by omega) h1
           have hLi := hLm i (by omega) h1
           refine run_skip <| run_seq <| run_block <| run_seq <| run_region <| rl_v rfl rfl rfl (ov_index1 rfl Try.underlying23 (by kernel_rfl) rfl rfl ⟨by omega, by omega⟩ (by exact (hga (by omega)))) ?_
           refine rl_v rfl rfl rfl (ov_load rfl Try.underlying22 rfl rfl (by exact hrow _ (Below.refl _ _) i (by omega) (by omega))) ?_
           refine rl_v rfl rfl rfl (ov_assign rfl rfl) <| rl_nil <| run_seq <| run_seq <| run_region <| rl_v rfl rfl rfl (ov_move rfl rfl) ?_
           refine rl_call callable_57 rfl rfl rfl rfl rfl rfl (colIs_any 60 (-1000000) 1000000 callable_60 new3_any (A i) (L i) (C i) B (F i) _ w0 w58 hO1 (hrs.sub (.cons _ (.cons _ (.cons _ (.cons _ (.refl _)))))) (by omega)) (fun e60 w61 hp62 => ?_)
           obtain ⟨r3, rfl, hr3, hw⟩ := hp62
           refine ⟨_, rfl, ?_⟩
           subst hw
           refine rl_nil ?_
           first | refine run_cond_dec rfl (fun k5 => ?_) (fun k5 => ?_) | refine run_cond rfl (fun k5 => ?_) (fun k5 => ?_)
           ·have ee := eC nA nB (.inr ⟨i, by omega, h1, hr3.1 k5⟩)
            refine run_seq <| run_region <| rl_v rfl rfl rfl (ov_assign rfl rfl) <| rl_v rfl rfl rfl (ov_assign rfl rfl) <| rl_nil <| run_ret Try.func17 (res2 Try.results17 rfl rfl) ?_
            exact .inl ⟨by rw [ee]; decide, by rw [ee], hO1.sub (.cons _ (.cons _ (.cons _ (.cons _ (.refl _)))))⟩
           ·have hok2 : ∀ m : Int, 0 ≤ m → m < L i → -1000000 ≤ F i m ∧ F i m ≤ 1000000 := fun m m0 m1 => Classical.byContradiction fun h => by rw [hr3.2 ⟨m, m0, m1, h⟩] at k5; cases k5
            refine run_skip <| run_late (fun w' => Own B w0 w' ([some (lch b63 124 (HR.l ⟨mon, cutM mon P, a, n, cp, rate, cap, 0, some ⟨ab, 0, none⟩, mem.toNat, mem.toNat, none, 0, 0⟩))])) 11 mixed ?_
            have hO64 := hO1.drew
            generalize World.drew w61 = w63 at hO64 ⊢
            have hS65 : Own B w0 w63 ([some (lch b63 124 (HR.l ⟨mon, cutM mon P, a, n, cp, rate, cap, 0, some ⟨ab, 0, none⟩, mem.toNat, mem.toNat, none, 0, 0⟩))]) := by first | exact hO64.sub (.cons_cons _ (List.nil_sublist _)) | exact hO64.sub (.cons _ (.cons_cons _ (List.nil_sublist _))) | exact hO64.sub (.cons _ (.cons _ (.cons_cons _ (List.nil_sublist _))))
            refine rhl_v 0 rfl (by kernel_rfl) rfl rfl rfl hS65 (fun _ hS => ov_move rfl rfl) ?_
            refine rhl_v 1 rfl (by kernel_rfl) rfl rfl rfl hS65 (fun _ hS => ov_move rfl rfl) ?_
            refine rhl_v 2 rfl (by kernel_rfl) rfl rfl rfl hS65 (fun _ hS => ov_nil rfl rfl) ?_
            refine rhl_v 3 rfl (by kernel_rfl) rfl rfl rfl hS65 (fun _ hS => ov_fieldS rfl Try.underlying124 rfl (fo := 13) rfl (by kernel_rfl) rfl) ?_
            refine rhl_v 4 rfl (by kernel_rfl) rfl rfl rfl hS65 (fun _ hS => ov_load rfl Try.underlying121 rfl rfl (by exact hS.cellL 0 rfl (off := 13) rfl)) ?_
            refine rhl_v 5 rfl (by kernel_rfl) rfl rfl rfl hS65 (fun _ hS => ov_move rfl rfl) ?_
            refine rhl_any1 6 (by kernel_rfl) ?_
            refine rcl_op rfl rfl (ow_call2 callable_59 rfl rfl rfl rfl rfl (months_any (A i) (L i) (C i) B (F i) _ w0 w63 hO64 (hrs.sub (.cons _ (.cons _ (.cons _ (.cons _ (.refl _)))))) (by omega)) (by intro e w' hp; obtain ⟨rfl, hOm⟩ := hp; exact ⟨_, rfl⟩)) ?_
            rintro _ w68 ⟨_, v66, he69, rfl, hp67⟩
            obtain ⟨rfl, hOm⟩ := hp67
            injection he69 with he69; subst he69
            have hS70 : Own B w0 w68 ([some (lch b63 124 (HR.l ⟨mon, cutM mon P, a, n, cp, rate, cap, 0, some ⟨ab, 0, none⟩, mem.toNat, mem.toNat, none, 0, 0⟩))]) := by first | exact hOm.sub (.cons_cons _ (List.nil_sublist _)) | exact hOm.sub (.cons _ (.cons_cons _ (List.nil_sublist _))) | exact hOm.sub (.cons _ (.cons _ (.cons_cons _ (List.nil_sublist _))))
            refine ⟨hS70, ?_⟩
            refine rhl_any1 7 (by kernel_rfl) ?_
            refine rcl_op rfl rfl (ow_build [_] rfl rfl rfl rfl rfl Try.underlying121 info_118 (by decide) hOm rfl rfl) ?_
            rintro _ w71 ⟨b80, rfl, hO72, hs73⟩
            have hS74 : Own B w0 w71 ([some (lch b63 124 (HR.l ⟨mon, cutM mon P, a, n, cp, rate, cap, 0, some ⟨ab, 0, none⟩, mem.toNat, mem.toNat, none, 0, 0⟩))]) := by first | exact hO72.sub (.cons_cons _ (List.nil_sublist _)) | exact hO72.sub (.cons _ (.cons_cons _ (List.nil_sublist _))) | exact hO72.sub (.cons _ (.cons _ (.cons_cons _ (List.nil_sublist _))))
            refine ⟨hS74, ?_⟩
            refine rhl_any1 8 (by kernel_rfl) ?_
            refine rcl_op rfl rfl (ow_appR1 rfl rfl rfl Try.underlying121 info_118 rfl rfl hO72 1 hrw rfl rfl rfl rfl rfl ⟨by omega, by omega⟩) ?_
            rintro _ w75 ⟨v81, c81, rfl, hO76, hr81, hs77⟩
            have hS78 : Own B w0 w75 ([some (lch b63 124 (HR.l ⟨mon, cutM mon P, a, n, cp, rate, cap, 0, some ⟨ab, 0, none⟩, mem.toNat, mem.toNat, none, 0, 0⟩))]) := by first | exact hO76.sub (.cons_cons _ (List.nil_sublist _)) | exact hO76.sub (.cons _ (.cons_cons _ (List.nil_sublist _))) | exact hO76.sub (.cons _ (.cons _ (.cons_cons _ (List.nil_sublist _))))
            refine ⟨hS78, ?_⟩
            obtain ⟨a81, p81, rfl⟩ := hr81.val
            refine rhl_any1 9 (by kernel_rfl) ?_
            refine rcl_op rfl rfl (ow_v rfl rfl (ov_nil rfl rfl)) ?_
            rintro _ _ ⟨rfl, hw79⟩
            replace hw79 := hw79.symm; subst hw79
            refine ⟨hS78, ?_⟩
            refine rhl_v 10 rfl (by kernel_rfl) rfl rfl rfl hS78 (fun _ hS => ov_fieldS rfl Try.underlying124 rfl (fo := 13) rfl (by kernel_rfl) rfl) ?_
            refine rhl_any1 11 (by kernel_rfl) ?_
            refine rcl_last rfl rfl (ow_storeL rfl rfl (by kernel_rfl) hO76 0 rfl rfl rfl rfl rfl) ?_
            rintro _ w80 ⟨rfl, hO81, hs82⟩
            have hO2 : Own B w0 w80 (some (lch b63 124 (HR.l ⟨mon, cutM mon P, a81, n + 1, p81, rate, cap, 0, some ⟨ab, 0, none⟩, mem.toNat, mem.toNat, none, 0, 0⟩)) :: c81 :: ca :: some (lch b1 40 (cfL mem mon pa pn pc ma mn mc rate cap)) :: H) := hO81
            refine rhl_done (by kernel_rfl) ?_
            refine run_inBlock <| run_region <| rl_v rfl rfl rfl (ov_add rfl rfl rfl (by omega)) ?_
            refine rl_v rfl rfl rfl (ov_move rfl rfl) <| rl_nil ?_
            refine Run.use (ih59 (i + 1) (n + 1) (a81) (p81) (c81) _ ?_ ?_) (And.intro (by exact slot_int rfl (by first | omega)) (And.intro rfl (And.intro rfl (And.intro rfl trivial))))
            ·first | omega | (dsimp only; omega)
            ·exact ⟨by omega, by omega, hr81.congr fun j j0 j1 => (by unfold upd; split; (rename_i e; rw [e, ← hi, hLi]); rfl), fun j j0 j1 => (by rcases Int.lt_or_eq_of_le (show j ≤ i by omega) with h | rfl; exact hok j j0 h; exact hok2), hO2⟩
          ·obtain rfl : mn = n := by omega
           have nD : ¬ BadD mn L F := fun ⟨j, j0, j1, m, m0, m1, h⟩ => h (hok j j0 (by omega) m m0 m1)
           have ee := e0 nA nB nC nD
           have hO3 := hO1.sub (.cons_cons _ (.cons_cons _ (.cons_cons _ (.cons _ (.refl _)))))
           have hO4 : Own B w0 w58 (houB b63 ((HM.new mem mon mn P F rate cap).r ⟨a, cp, ab, mem.toNat, none, 0, ca⟩) :: ca :: ([c] ++ H)) := hO3.perm (.cons _ (.swap _ _ _))
           refine run_exit rfl <| run_seq <| run_region <| rl_v rfl rfl rfl (ov_move rfl rfl) <| rl_v rfl rfl rfl (ov_assign rfl rfl) <| rl_v rfl rfl rfl (ov_assign rfl rfl) <| rl_nil <| run_ret Try.func17 (res2 Try.results17 rfl rfl) ?_
           exact .inr ⟨ee, b63, rfl, ⟨a, cp, ab, mem.toNat, none, 0, ca⟩, [c], hO4, ⟨hra2, fun B w0 w hO => hrw.reads hO 0 rfl, fun B w0 w hO => SAt.nil _ _ _ _ _, ⟨0, fun h => absurd h (Nat.lt_irrefl 0)⟩, Nat.le_refl 0⟩, List.nil_sublist _⟩
end Go.Proofs.Ytfbbagnpdfafjaa
