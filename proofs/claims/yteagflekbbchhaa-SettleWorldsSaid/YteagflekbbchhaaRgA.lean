import Derived.Test.YteagflekbbchhaaReZ
import Derived.Test.YteagflekbbchhaaReL
set_option maxRecDepth 100000
namespace Go.Proofs.Yteagflekbbchhaa
open Go.RowKit Go.Proofs
theorem SrcI.consR {H : List (Option Blk)} {x : Option Blk} {ao : Option Addr} {n : Nat} {g : Int → Int} (h : SrcI H ao n g) : SrcI (x :: H) ao n g := fun B w0 w hO => h B w0 w hO.tail
def cutI (G : Int → Int) (k : Nat) : List Int := (List.range k).map fun (j : Nat) => G (j : Int)
theorem cutI_len (G : Int → Int) (k : Nat) : (cutI G k).length = k := by simp [cutI]
theorem cutI_gl (G : Int → Int) (k : Nat) {i : Int} (h0 : 0 ≤ i) (h1 : i < k) : gl (cutI G k) i = G i := by
 have e : (i.toNat : Int) = i := by omega
 simp [gl, cutI, List.getD_eq_getElem?_getD, List.getElem?_map, List.getElem?_range (show i.toNat < k by omega), e]
theorem badP_of {l : List Int} (h : ¬ BadP (gl l) l.length) : ∀ x ∈ l, 0 ≤ x ∧ x ≤ 1000000000000 := by
 intro x hx
 obtain ⟨i, hi, rfl⟩ := List.mem_iff_getElem.1 hx
 have : gl l (i : Int) = l[i] := by simp [gl, List.getD_eq_getElem?_getD, List.getElem?_eq_getElem hi]
 rw [← this]
 have hb : ¬ (gl l (i : Int) < 0 ∨ 1000000000000 < gl l (i : Int)) := fun q => h ⟨i, by omega, by omega, q⟩
 omega
theorem valid_any (mem pat : Int) (f1 f2 : List Int) (s1 s2 : Option Addr) (z1 z2 B : Nat) (H : List (Option Blk)) (w0 w : World) (hO : Own B w0 w H) (h1 : SrcI H s1 f1.length (gl f1)) (h2 : SrcI H s2 f2.length (gl f2)) :
  Calls Try.prog 47 #[.agg #[iv mem, iv pat, .slice s1 f1.length z1, .slice s2 f2.length z2]] w fun e w' =>
   (CfgBad mem pat f1 f2 ∧ e = .returned (.bool false) ∧ Own B w0 w' H) ∨ (¬ CfgBad mem pat f1 f2 ∧ e = .returned (.bool true) ∧ Own B w0 w' H) := by
 refine calls_of_run (F := [(0, _)]) Try.func47 rfl Try.ntmps47 rfl rfl <| run_seq <| run_region <| rl_ow rfl (ow_box _ rfl rfl rfl rfl rfl hO) ?_
 rintro _ w1 ⟨b1, rfl, hO2, hs3⟩
 refine rl_v rfl rfl rfl (ov_assign rfl rfl) <| rl_nil <| run_seq <| run_seq <| run_region_join 37 (.bool (decide ((mem < 1 ∨ 1000 < mem ∨ pat < 1 ∨ 1000 < pat ∨ (f1.length : Int) ≠ mem ∨ (f2.length : Int) ≠ mem)))) [1] (fun hk4 => ?_) ?_
 ·refine rl_v rfl rfl rfl (ov_fieldS rfl Try.underlying24 rfl (fo := 0) rfl (by kernel_rfl) rfl) ?_
  refine rl_v rfl rfl rfl (ov_load rfl Try.underlying3 rfl rfl (by exact hO2.cellL 0 rfl rfl)) ?_
  refine rl_v rfl rfl rfl (ov_lss rfl rfl rfl) <| rl_v rfl rfl rfl (ov_move rfl rfl) ?_
  first | refine rl_split_dec 7 rfl (fun hg5 => ?_) (fun hg5 => ?_) | refine rl_split 7 rfl (fun hg5 => ?_) (fun hg5 => ?_)
  ·refine rl_gskip rfl rfl rfl rfl rfl rfl <| rl_gskip rfl rfl rfl rfl rfl rfl <| rl_gskip rfl rfl rfl rfl rfl rfl <| rl_v rfl rfl rfl (ov_pick_t rfl rfl rfl) <| rl_v rfl rfl rfl (ov_move rfl rfl) <| rl_gskip rfl rfl rfl rfl rfl rfl <| rl_gskip rfl rfl rfl rfl rfl rfl <| rl_gskip rfl rfl rfl rfl rfl rfl <| rl_v rfl rfl rfl (ov_pick_t rfl rfl rfl) <| rl_v rfl rfl rfl (ov_move rfl rfl) <| rl_gskip rfl rfl rfl rfl rfl rfl <| rl_gskip rfl rfl rfl rfl rfl rfl <| rl_gskip rfl rfl rfl rfl rfl rfl <| rl_v rfl rfl rfl (ov_pick_t rfl rfl rfl) <| rl_v rfl rfl rfl (ov_move rfl rfl) <| rl_gskip rfl rfl rfl rfl rfl rfl <| rl_gskip rfl rfl rfl rfl rfl rfl <| rl_gskip rfl rfl rfl rfl rfl rfl <| rl_gskip rfl rfl rfl rfl rfl rfl <| rl_gskip rfl rfl rfl rfl rfl rfl <| rl_gskip rfl rfl rfl rfl rfl rfl <| rl_v rfl rfl rfl (ov_pick_t rfl rfl rfl) <| rl_v rfl rfl rfl (ov_move rfl rfl) <| rl_gskip rfl rfl rfl rfl rfl rfl ?_
   refine rl_gskip rfl rfl rfl rfl rfl rfl <| rl_gskip rfl rfl rfl rfl rfl rfl <| rl_gskip rfl rfl rfl rfl rfl rfl <| rl_gskip rfl rfl rfl rfl rfl rfl <| rl_gskip rfl rfl rfl rfl rfl rfl <| rl_v rfl rfl rfl (ov_pick_t rfl rfl rfl) ?_
   refine rl_nil (hk4 _ (jbt rfl (by omega)) (And.intro rfl trivial))
  ·refine rl_gv rfl rfl rfl rfl rfl (ov_fieldS rfl Try.underlying24 rfl (fo := 0) rfl (by kernel_rfl) rfl) ?_
   refine rl_gv rfl rfl rfl rfl rfl (ov_load rfl Try.underlying3 rfl rfl (by exact hO2.cellL 0 rfl rfl)) ?_
   refine rl_gv rfl rfl rfl rfl rfl (ov_gtr rfl rfl rfl) <| rl_v rfl rfl rfl (ov_pick_f rfl rfl rfl) <| rl_v rfl rfl rfl (ov_move rfl rfl) ?_
   first | refine rl_split_dec 12 rfl (fun hg6 => ?_) (fun hg6 => ?_) | refine rl_split 12 rfl (fun hg6 => ?_) (fun hg6 => ?_)
   ·refine rl_gskip rfl rfl rfl rfl rfl rfl <| rl_gskip rfl rfl rfl rfl rfl rfl <| rl_gskip rfl rfl rfl rfl rfl rfl <| rl_v rfl rfl rfl (ov_pick_t rfl rfl rfl) <| rl_v rfl rfl rfl (ov_move rfl rfl) <| rl_gskip rfl rfl rfl rfl rfl rfl <| rl_gskip rfl rfl rfl rfl rfl rfl <| rl_gskip rfl rfl rfl rfl rfl rfl <| rl_v rfl rfl rfl (ov_pick_t rfl rfl rfl) <| rl_v rfl rfl rfl (ov_move rfl rfl) <| rl_gskip rfl rfl rfl rfl rfl rfl <| rl_gskip rfl rfl rfl rfl rfl rfl <| rl_gskip rfl rfl rfl rfl rfl rfl <| rl_gskip rfl rfl rfl rfl rfl rfl <| rl_gskip rfl rfl rfl rfl rfl rfl <| rl_gskip rfl rfl rfl rfl rfl rfl <| rl_v rfl rfl rfl (ov_pick_t rfl rfl rfl) <| rl_v rfl rfl rfl (ov_move rfl rfl) <| rl_gskip rfl rfl rfl rfl rfl rfl <| rl_gskip rfl rfl rfl rfl rfl rfl <| rl_gskip rfl rfl rfl rfl rfl rfl <| rl_gskip rfl rfl rfl rfl rfl rfl <| rl_gskip rfl rfl rfl rfl rfl rfl <| rl_gskip rfl rfl rfl rfl rfl rfl ?_
    refine rl_v rfl rfl rfl (ov_pick_t rfl rfl rfl) ?_
    refine rl_nil (hk4 _ (jbt rfl (by omega)) (And.intro rfl trivial))
   ·refine rl_gv rfl rfl rfl rfl rfl (ov_fieldS rfl Try.underlying24 rfl (fo := 1) rfl (by kernel_rfl) rfl) ?_
    refine rl_gv rfl rfl rfl rfl rfl (ov_load rfl Try.underlying3 rfl rfl (by exact hO2.cellL 0 rfl rfl)) ?_
    refine rl_gv rfl rfl rfl rfl rfl (ov_lss rfl rfl rfl) <| rl_v rfl rfl rfl (ov_pick_f rfl rfl rfl) <| rl_v rfl rfl rfl (ov_move rfl rfl) ?_
    first | refine rl_split_dec 17 rfl (fun hg7 => ?_) (fun hg7 => ?_) | refine rl_split 17 rfl (fun hg7 => ?_) (fun hg7 => ?_)
    ·refine rl_gskip rfl rfl rfl rfl rfl rfl <| rl_gskip rfl rfl rfl rfl rfl rfl <| rl_gskip rfl rfl rfl rfl rfl rfl <| rl_v rfl rfl rfl (ov_pick_t rfl rfl rfl) <| rl_v rfl rfl rfl (ov_move rfl rfl) <| rl_gskip rfl rfl rfl rfl rfl rfl <| rl_gskip rfl rfl rfl rfl rfl rfl <| rl_gskip rfl rfl rfl rfl rfl rfl <| rl_gskip rfl rfl rfl rfl rfl rfl <| rl_gskip rfl rfl rfl rfl rfl rfl <| rl_gskip rfl rfl rfl rfl rfl rfl <| rl_v rfl rfl rfl (ov_pick_t rfl rfl rfl) <| rl_v rfl rfl rfl (ov_move rfl rfl) <| rl_gskip rfl rfl rfl rfl rfl rfl <| rl_gskip rfl rfl rfl rfl rfl rfl <| rl_gskip rfl rfl rfl rfl rfl rfl <| rl_gskip rfl rfl rfl rfl rfl rfl <| rl_gskip rfl rfl rfl rfl rfl rfl <| rl_gskip rfl rfl rfl rfl rfl rfl <| rl_v rfl rfl rfl (ov_pick_t rfl rfl rfl) ?_
     refine rl_nil (hk4 _ (jbt rfl (by omega)) (And.intro rfl trivial))
    ·refine rl_gv rfl rfl rfl rfl rfl (ov_fieldS rfl Try.underlying24 rfl (fo := 1) rfl (by kernel_rfl) rfl) ?_
     refine rl_gv rfl rfl rfl rfl rfl (ov_load rfl Try.underlying3 rfl rfl (by exact hO2.cellL 0 rfl rfl)) ?_
     refine rl_gv rfl rfl rfl rfl rfl (ov_gtr rfl rfl rfl) <| rl_v rfl rfl rfl (ov_pick_f rfl rfl rfl) <| rl_v rfl rfl rfl (ov_move rfl rfl) ?_
     first | refine rl_split_dec 22 rfl (fun hg8 => ?_) (fun hg8 => ?_) | refine rl_split 22 rfl (fun hg8 => ?_) (fun hg8 => ?_)
     ·refine rl_gskip rfl rfl rfl rfl rfl rfl <| rl_gskip rfl rfl rfl rfl rfl rfl <| rl_gskip rfl rfl rfl rfl rfl rfl <| rl_gskip rfl rfl rfl rfl rfl rfl <| rl_gskip rfl rfl rfl rfl rfl rfl <| rl_gskip rfl rfl rfl rfl rfl rfl <| rl_v rfl rfl rfl (ov_pick_t rfl rfl rfl) <| rl_v rfl rfl rfl (ov_move rfl rfl) <| rl_gskip rfl rfl rfl rfl rfl rfl <| rl_gskip rfl rfl rfl rfl rfl rfl <| rl_gskip rfl rfl rfl rfl rfl rfl <| rl_gskip rfl rfl rfl rfl rfl rfl <| rl_gskip rfl rfl rfl rfl rfl rfl <| rl_gskip rfl rfl rfl rfl rfl rfl <| rl_v rfl rfl rfl (ov_pick_t rfl rfl rfl) ?_
      refine rl_nil (hk4 _ (jbt rfl (by omega)) (And.intro rfl trivial))
     ·refine rl_gv rfl rfl rfl rfl rfl (ov_fieldS rfl Try.underlying24 rfl (fo := 2) rfl (by kernel_rfl) rfl) ?_
      refine rl_gv rfl rfl rfl rfl rfl (ov_load rfl Try.underlying22 rfl rfl (by exact hO2.cellL 0 rfl rfl)) ?_
      refine rl_gv rfl rfl rfl rfl rfl (ov_len rfl Try.underlying22 rfl) <| rl_gv rfl rfl rfl rfl rfl (ov_fieldS rfl Try.underlying24 rfl (fo := 0) rfl (by kernel_rfl) rfl) ?_
      refine rl_gv rfl rfl rfl rfl rfl (ov_load rfl Try.underlying3 rfl rfl (by exact hO2.cellL 0 rfl rfl)) ?_
      refine rl_gv rfl rfl rfl rfl rfl (ov_neq rfl rfl rfl) <| rl_v rfl rfl rfl (ov_pick_f rfl rfl rfl) <| rl_v rfl rfl rfl (ov_move rfl rfl) ?_
      first | refine rl_split_dec 30 rfl (fun hg9 => ?_) (fun hg9 => ?_) | refine rl_split 30 rfl (fun hg9 => ?_) (fun hg9 => ?_)
      ·refine rl_gskip rfl rfl rfl rfl rfl rfl <| rl_gskip rfl rfl rfl rfl rfl rfl <| rl_gskip rfl rfl rfl rfl rfl rfl <| rl_gskip rfl rfl rfl rfl rfl rfl <| rl_gskip rfl rfl rfl rfl rfl rfl <| rl_gskip rfl rfl rfl rfl rfl rfl <| rl_v rfl rfl rfl (ov_pick_t rfl rfl rfl) ?_
       refine rl_nil (hk4 _ (jbt rfl (by omega)) (And.intro rfl trivial))
      ·refine rl_gv rfl rfl rfl rfl rfl (ov_fieldS rfl Try.underlying24 rfl (fo := 3) rfl (by kernel_rfl) rfl) ?_
       refine rl_gv rfl rfl rfl rfl rfl (ov_load rfl Try.underlying22 rfl rfl (by exact hO2.cellL 0 rfl rfl)) ?_
       refine rl_gv rfl rfl rfl rfl rfl (ov_len rfl Try.underlying22 rfl) <| rl_gv rfl rfl rfl rfl rfl (ov_fieldS rfl Try.underlying24 rfl (fo := 0) rfl (by kernel_rfl) rfl) ?_
       refine rl_gv rfl rfl rfl rfl rfl (ov_load rfl Try.underlying3 rfl rfl (by exact hO2.cellL 0 rfl rfl)) ?_
       refine rl_gv rfl rfl rfl rfl rfl (ov_neq rfl rfl rfl) <| rl_v rfl rfl rfl (ov_pick_f rfl rfl rfl) ?_
       refine rl_nil (hk4 _ (jbd rfl (by omega)) (And.intro rfl trivial))
 ·show Run _ _ _ _ [(37, _), (1, _)] _ _
  first | refine run_cond_dec rfl (fun bad => ?_) (fun ok => ?_) | refine run_cond rfl (fun bad => ?_) (fun ok => ?_)
  ·refine run_seq <| run_region <| rl_v rfl rfl rfl (ov_assign rfl rfl) <| rl_nil <| run_ret Try.func47 (res1 Try.results47 rfl) ?_
   exact .inl ⟨by unfold CfgBad; omega, rfl, hO2.tail⟩
  ·refine run_skip <| run_seq <| run_seq <| run_region <| rl_v rfl rfl rfl (ov_assign rfl rfl) <| rl_nil <| run_block <| Run.keep [1, 3] (F' := [(1, _), (3, _)]) rfl <| run_loop1 (fun (i : Int) => [(3, .int .i64 i)]) [1] (fun (i : Int) (w10 : World) => 0 ≤ i ∧ i ≤ mem ∧ (∀ j : Int, 0 ≤ j → j < i → (0 ≤ gl f1 j ∧ gl f1 j ≤ 1000000000000) ∧ 0 ≤ gl f2 j ∧ gl f2 j ≤ 1000000000000) ∧ Own B w0 w10 (some (lch b1 24 [iv mem, iv pat, .slice s1 f1.length z1, .slice s2 f2.length z2]) :: H)) (fun (i : Int) => (mem - i).toNat) (0) ?_ (And.intro (by exact slot_int rfl (by first | omega)) (And.intro rfl trivial)) ?_
   ·exact ⟨by omega, by omega, fun j h0 h1 => by omega, hO2⟩
   intro i w10 hIw10 ih11
   obtain ⟨hi0, hi1, hall, hOw⟩ := hIw10
   show Run _ _ _ _ [(3, _), (1, _)] _ _
   refine run_seq <| run_seq <| run_region <| rl_v rfl rfl rfl (ov_move rfl rfl) <| rl_v rfl rfl rfl (ov_fieldS rfl Try.underlying24 rfl (fo := 0) rfl (by kernel_rfl) rfl) ?_
   refine rl_v rfl rfl rfl (ov_load rfl Try.underlying3 rfl rfl (by exact hOw.cellL 0 rfl rfl)) ?_
   refine rl_v rfl rfl rfl (ov_lss rfl rfl rfl) <| rl_nil ?_
   first | refine run_cond_dec rfl (fun hq => ?_) (fun hq => ?_) | refine run_cond rfl (fun hq => ?_) (fun hq => ?_)
   ·obtain ⟨g1, o1, ha1, hr1⟩ := (h1.consR B w0 w10 hOw).open
    obtain ⟨g2, o2, ha2, hr2⟩ := (h2.consR B w0 w10 hOw).open
    refine run_skip <| run_seq <| run_block <| run_seq <| run_region_join 73 (.bool (decide ((gl f1 i < 0 ∨ 1000000000000 < gl f1 i ∨ gl f2 i < 0 ∨ 1000000000000 < gl f2 i)))) [1, 3] (fun hk12 => ?_) ?_
    ·refine rl_v rfl rfl rfl (ov_fieldS rfl Try.underlying24 rfl (fo := 2) rfl (by kernel_rfl) rfl) ?_
     refine rl_v rfl rfl rfl (ov_load rfl Try.underlying22 rfl rfl (by exact hOw.cellL 0 rfl rfl)) ?_
     refine rl_v rfl rfl rfl (ov_move rfl rfl) <| rl_v rfl rfl rfl (ov_index1 rfl Try.underlying22 (by kernel_rfl) rfl rfl ⟨by omega, by omega⟩ (by exact (ha1 (by omega)))) ?_
     refine rl_v rfl rfl rfl (ov_load rfl Try.underlying2 rfl rfl (by exact hr1 _ (Below.refl _ _) i (by omega) (by omega))) ?_
     refine rl_v rfl rfl rfl (ov_lss rfl rfl rfl) <| rl_v rfl rfl rfl (ov_move rfl rfl) ?_
     first | refine rl_split_dec 50 rfl (fun hg13 => ?_) (fun hg13 => ?_) | refine rl_split 50 rfl (fun hg13 => ?_) (fun hg13 => ?_)
     ·refine rl_gskip rfl rfl rfl rfl rfl rfl <| rl_gskip rfl rfl rfl rfl rfl rfl <| rl_gskip rfl rfl rfl rfl rfl rfl <| rl_gskip rfl rfl rfl rfl rfl rfl <| rl_gskip rfl rfl rfl rfl rfl rfl <| rl_gskip rfl rfl rfl rfl rfl rfl <| rl_v rfl rfl rfl (ov_pick_t rfl rfl rfl) <| rl_v rfl rfl rfl (ov_move rfl rfl) <| rl_gskip rfl rfl rfl rfl rfl rfl <| rl_gskip rfl rfl rfl rfl rfl rfl <| rl_gskip rfl rfl rfl rfl rfl rfl <| rl_gskip rfl rfl rfl rfl rfl rfl <| rl_gskip rfl rfl rfl rfl rfl rfl <| rl_gskip rfl rfl rfl rfl rfl rfl <| rl_v rfl rfl rfl (ov_pick_t rfl rfl rfl) <| rl_v rfl rfl rfl (ov_move rfl rfl) <| rl_gskip rfl rfl rfl rfl rfl rfl <| rl_gskip rfl rfl rfl rfl rfl rfl <| rl_gskip rfl rfl rfl rfl rfl rfl <| rl_gskip rfl rfl rfl rfl rfl rfl <| rl_gskip rfl rfl rfl rfl rfl rfl <| rl_gskip rfl rfl rfl rfl rfl rfl <| rl_v rfl rfl rfl (ov_pick_t rfl rfl rfl) ?_
      refine rl_nil (hk12 _ (jbt rfl (by omega)) (And.intro rfl (And.intro rfl trivial)))
     ·refine rl_gv rfl rfl rfl rfl rfl (ov_fieldS rfl Try.underlying24 rfl (fo := 2) rfl (by kernel_rfl) rfl) ?_
      refine rl_gv rfl rfl rfl rfl rfl (ov_load rfl Try.underlying22 rfl rfl (by exact hOw.cellL 0 rfl rfl)) ?_
      refine rl_gv rfl rfl rfl rfl rfl (ov_move rfl rfl) <| rl_gv rfl rfl rfl rfl rfl (ov_index1 rfl Try.underlying22 (by kernel_rfl) rfl rfl ⟨by omega, by omega⟩ (by exact (ha1 (by omega)))) ?_
      refine rl_gv rfl rfl rfl rfl rfl (ov_load rfl Try.underlying2 rfl rfl (by exact hr1 _ (Below.refl _ _) i (by omega) (by omega))) ?_
      refine rl_gv rfl rfl rfl rfl rfl (ov_gtr rfl rfl rfl) <| rl_v rfl rfl rfl (ov_pick_f rfl rfl rfl) <| rl_v rfl rfl rfl (ov_move rfl rfl) ?_
      first | refine rl_split_dec 58 rfl (fun hg14 => ?_) (fun hg14 => ?_) | refine rl_split 58 rfl (fun hg14 => ?_) (fun hg14 => ?_)
      ·refine rl_gskip rfl rfl rfl rfl rfl rfl <| rl_gskip rfl rfl rfl rfl rfl rfl <| rl_gskip rfl rfl rfl rfl rfl rfl <| rl_gskip rfl rfl rfl rfl rfl rfl <| rl_gskip rfl rfl rfl rfl rfl rfl <| rl_gskip rfl rfl rfl rfl rfl rfl <| rl_v rfl rfl rfl (ov_pick_t rfl rfl rfl) <| rl_v rfl rfl rfl (ov_move rfl rfl) <| rl_gskip rfl rfl rfl rfl rfl rfl <| rl_gskip rfl rfl rfl rfl rfl rfl <| rl_gskip rfl rfl rfl rfl rfl rfl <| rl_gskip rfl rfl rfl rfl rfl rfl <| rl_gskip rfl rfl rfl rfl rfl rfl <| rl_gskip rfl rfl rfl rfl rfl rfl <| rl_v rfl rfl rfl (ov_pick_t rfl rfl rfl) ?_
       refine rl_nil (hk12 _ (jbt rfl (by omega)) (And.intro rfl (And.intro rfl trivial)))
      ·refine rl_gv rfl rfl rfl rfl rfl (ov_fieldS rfl Try.underlying24 rfl (fo := 3) rfl (by kernel_rfl) rfl) ?_
       refine rl_gv rfl rfl rfl rfl rfl (ov_load rfl Try.underlying22 rfl rfl (by exact hOw.cellL 0 rfl rfl)) ?_
       refine rl_gv rfl rfl rfl rfl rfl (ov_move rfl rfl) <| rl_gv rfl rfl rfl rfl rfl (ov_index1 rfl Try.underlying22 (by kernel_rfl) rfl rfl ⟨by omega, by omega⟩ (by exact (ha2 (by omega)))) ?_
       refine rl_gv rfl rfl rfl rfl rfl (ov_load rfl Try.underlying2 rfl rfl (by exact hr2 _ (Below.refl _ _) i (by omega) (by omega))) ?_
       refine rl_gv rfl rfl rfl rfl rfl (ov_lss rfl rfl rfl) <| rl_v rfl rfl rfl (ov_pick_f rfl rfl rfl) <| rl_v rfl rfl rfl (ov_move rfl rfl) ?_
       first | refine rl_split_dec 66 rfl (fun hg15 => ?_) (fun hg15 => ?_) | refine rl_split 66 rfl (fun hg15 => ?_) (fun hg15 => ?_)
       ·refine rl_gskip rfl rfl rfl rfl rfl rfl <| rl_gskip rfl rfl rfl rfl rfl rfl <| rl_gskip rfl rfl rfl rfl rfl rfl <| rl_gskip rfl rfl rfl rfl rfl rfl <| rl_gskip rfl rfl rfl rfl rfl rfl <| rl_gskip rfl rfl rfl rfl rfl rfl <| rl_v rfl rfl rfl (ov_pick_t rfl rfl rfl) ?_
        refine rl_nil (hk12 _ (jbt rfl (by omega)) (And.intro rfl (And.intro rfl trivial)))
       ·refine rl_gv rfl rfl rfl rfl rfl (ov_fieldS rfl Try.underlying24 rfl (fo := 3) rfl (by kernel_rfl) rfl) ?_
        refine rl_gv rfl rfl rfl rfl rfl (ov_load rfl Try.underlying22 rfl rfl (by exact hOw.cellL 0 rfl rfl)) ?_
        refine rl_gv rfl rfl rfl rfl rfl (ov_move rfl rfl) <| rl_gv rfl rfl rfl rfl rfl (ov_index1 rfl Try.underlying22 (by kernel_rfl) rfl rfl ⟨by omega, by omega⟩ (by exact (ha2 (by omega)))) ?_
        refine rl_gv rfl rfl rfl rfl rfl (ov_load rfl Try.underlying2 rfl rfl (by exact hr2 _ (Below.refl _ _) i (by omega) (by omega))) ?_
        refine rl_gv rfl rfl rfl rfl rfl (ov_gtr rfl rfl rfl) <| rl_v rfl rfl rfl (ov_pick_f rfl rfl rfl) ?_
        refine rl_nil (hk12 _ (jbd rfl (by omega)) (And.intro rfl (And.intro rfl trivial)))
    ·show Run _ _ _ _ [(73, _), (1, _), (3, _)] _ _
     first | refine run_cond_dec rfl (fun bad => ?_) (fun ok2 => ?_) | refine run_cond rfl (fun bad => ?_) (fun ok2 => ?_)
     ·refine run_seq <| run_region <| rl_v rfl rfl rfl (ov_assign rfl rfl) <| rl_nil <| run_ret Try.func47 (res1 Try.results47 rfl) ?_
      exact .inl ⟨(by omega : (gl f1 i < 0 ∨ 1000000000000 < gl f1 i) ∨ gl f2 i < 0 ∨ 1000000000000 < gl f2 i).elim (fun h => .inr (.inr (.inr (.inr (.inr (.inr (.inl ⟨i, hi0, by omega, h⟩))))))) (fun h => .inr (.inr (.inr (.inr (.inr (.inr (.inr ⟨i, hi0, by omega, h⟩))))))), rfl, hOw.tail⟩
     ·refine run_skip <| run_inBlock <| run_region <| rl_v rfl rfl rfl (ov_move rfl rfl) <| rl_v rfl rfl rfl (ov_add rfl rfl rfl (by omega)) ?_
      refine rl_v rfl rfl rfl (ov_assign rfl rfl) <| rl_nil ?_
      refine Run.use (ih11 _ _ ?_ ?_) (And.intro (by rfl) (And.intro rfl trivial))
      ·first | omega | (dsimp only; omega)
      ·exact ⟨by omega, by omega, fun j h0 h1 => (by omega : j = i ∨ j < i).elim (fun e => by rw [e]; omega) (fun e => hall j h0 e), hOw⟩
   ·refine run_exit rfl <| run_seq <| run_region <| rl_v rfl rfl rfl (ov_assign rfl rfl) <| rl_nil <| run_ret Try.func47 (res1 Try.results47 rfl) ?_
    exact .inr ⟨fun h => by rcases h with h | h | h | h | h | h | ⟨j, j0, j1, h⟩ | ⟨j, j0, j1, h⟩ <;> first | omega | (have := hall j j0 (by omega); omega), rfl, hOw.tail⟩
end Go.Proofs.Yteagflekbbchhaa
