import Derived.Test.YtbepolognfdkeaaGbB
import Derived.Test.YtbepolognfdkeaaQui
import Derived.Shelf.SlSortCmp.NoneTotal
set_option maxRecDepth 100000
namespace Go.Proofs.Ytbepolognfdkeaa
open Go.RowKit Go.Proofs
theorem perm_psh {α : Type} {t5 t4 nb t3 lb t2 t1 wb c : α} {R : List α} : ([t5, t4, nb, t3, lb, t2, t1, wb, c] ++ R).Perm ([wb, c, t4, nb, t2, t1, t3, lb, t5] ++ R) := by
 classical
 rw [List.perm_iff_count]
 intro z
 simp only [List.count_append, List.count_cons, List.count_nil]
 omega
theorem perm_psh2 {α : Type} {t5 t4 nb t3 lb t2 t1 wb c : α} {R : List α} : ([wb, c, t4, nb, t2, t1, t3, lb, t5] ++ R).Perm ([t5, t4, nb, t3, lb, t2, t1, wb, c] ++ R) := perm_psh.symm
section
variable {B : Nat} {w0 : World} {G : Net} {R : List (Option Blk)} {oa la sa pa : Option Addr} {n lc m sc pc oc : Nat} {wb : Nat}
set_option maxHeartbeats 4000000 in
theorem fill_any (hG : G.Ok) (hs : G.Sm) (hT : TOwn R oa G.nn G.OL G.OE) (M : Int) (hM2 : M ≤ 1000000000000000) (hM : ∀ L fl, G.Flow L fl → fl ≤ M) (L : Int → Int) (fl : Int) (c : Option Blk) (w : World) (hF : G.Flow L fl) (f0 : 0 ≤ fl) (hr : SRow (.slice pa (2 * G.np) pc) 127 2 (2 * G.np) (pipF G L) c)
  (hO : Own B w0 w (some (lch wb 103 (wkL la n lc sa m sc pa (2 * G.np) pc oa G.nn oc fl)) :: c :: R)) :
  Calls Try.prog 71 #[ptr wb] w fun e w' => e = .returned (.tuple #[]) ∧ ∃ (L' : Int → Int) (fl' : Int) (c' : Option Blk) (LV : Int → Int), G.Flow L' fl' ∧ 0 ≤ fl' ∧ G.Lev L' LV ∧ LV (G.nn - 1) < 0 ∧ SRow (.slice pa (2 * G.np) pc) 127 2 (2 * G.np) (pipF G L') c' ∧ Own B w0 w' (some (lch wb 103 (wkL la n lc sa m sc pa (2 * G.np) pc oa G.nn oc fl')) :: c' :: R) := by
 have h2 := hG.n2
 have hnn := hs.nn
 have hnp := hs.np
 refine calls_of_run (F := [(0, _)]) Try.func71 rfl Try.ntmps71 rfl rfl <| run_seq <| run_region <| rl_ow rfl (ow_box _ rfl rfl rfl rfl rfl hO) ?_
 rintro _ w1 ⟨t1, rfl, hO2, hs3⟩
 refine rl_nil <| run_seq <| run_region <| rl_v rfl rfl rfl (ov_load rfl Try.underlying98 rfl rfl (by exact hO2.cellL 0 rfl (off := 0) rfl)) ?_
 refine rl_v rfl rfl rfl (ov_nil rfl rfl) <| rl_v rfl rfl rfl (ov_fieldS rfl Try.underlying103 rfl (fo := 3) rfl (by kernel_rfl) rfl) ?_
 refine rl_v rfl rfl rfl (ov_load rfl Try.underlying101 rfl rfl (by exact hO2.cellL 1 rfl (off := 3) rfl)) ?_
 refine rl_v rfl rfl rfl (ov_len rfl Try.underlying101 rfl) <| rl_v rfl rfl rfl (ov_sub rfl rfl rfl (by omega)) ?_
 refine rl_ow rfl (ow_alloc _ rfl rfl rfl zero_3 rfl hO2) ?_
 rintro _ w4 ⟨t2, rfl, hO5, hs6⟩
 refine rl_ow rfl (ow_storeL rfl rfl (by kernel_rfl) hO5 0 rfl rfl rfl rfl rfl) ?_
 rintro _ w7 ⟨rfl, hO8, hs9⟩
 refine rl_nil <| run_block <| Run.keep [1, 2] (F' := [(1, _), (2, _)]) rfl <| run_loop2 (fun (L1 : Int → Int) (fl1 : Int) => []) [1, 2] (fun (L1 : Int → Int) (fl1 : Int) (w10 : World) => ∃ c1 : Option Blk, G.Flow L1 fl1 ∧ 0 ≤ fl1 ∧ SRow (.slice pa (2 * G.np) pc) 127 2 (2 * G.np) (pipF G L1) c1 ∧ Own B w0 w10 ([some (lch t2 3 [iv ((G.nn : Int) - 1)]), some (lch t1 98 [ptr wb]), some (lch wb 103 (wkL la n lc sa m sc pa (2 * G.np) pc oa G.nn oc fl1)), c1] ++ R)) (fun (L1 : Int → Int) (fl1 : Int) => (M - fl1).toNat) (L) (fl) ?_ (And.intro rfl (And.intro rfl trivial)) ?_
 ·exact ⟨c, hF, f0, hr, hO8⟩
 intro L1 fl1 w10 hIw10 ih11
 obtain ⟨c1, hF1, hf1, hr1, hO1⟩ := hIw10
 show Run _ _ _ _ [(1, _), (2, _)] _ _
 refine run_block <| run_seq <| run_region <| rl_v rfl rfl rfl (ov_load rfl Try.underlying98 rfl rfl (by exact hO1.cellL 1 rfl (off := 0) rfl)) ?_
 refine rl_call callable_60 rfl rfl rfl rfl rfl rfl (reached_any wb G L1 la n lc sa m sc pa pc oa oc fl1 _ hG hs ⟨hO1.readsL 2 rfl, hr1.reads hO1 3 rfl, hT.itab (hO1.sub (List.sublist_append_right _ _))⟩) (fun e12 w13 hp14 => ?_)
 obtain ⟨lb, LV, rfl, hO2, hLV⟩ := hp14
 refine ⟨_, rfl, ?_⟩
 have hO15 := hO1.join hO2
 refine rl_ow rfl (ow_alloc _ rfl rfl rfl zero_47 rfl hO15) ?_
 rintro _ w16 ⟨t3, rfl, hO17, hs18⟩
 refine rl_ow rfl (ow_storeL rfl rfl (by kernel_rfl) hO17 0 rfl rfl rfl rfl rfl) ?_
 rintro _ w19 ⟨rfl, hO20, hs21⟩
 refine rl_nil <| run_seq <| run_seq <| run_region <| rl_v rfl rfl rfl (ov_load rfl Try.underlying47 rfl rfl (by exact hO20.cellL 0 rfl (off := 0) rfl)) ?_
 refine rl_v rfl rfl rfl (ov_load rfl Try.underlying3 rfl rfl (by exact hO20.cellL 2 rfl (off := 0) rfl)) ?_
 refine rl_v rfl rfl rfl (ov_index1 rfl Try.underlying47 (by kernel_rfl) rfl rfl ⟨by omega, by omega⟩ rfl) ?_
 refine rl_v rfl rfl rfl (ov_load rfl Try.underlying3 rfl rfl (by exact hO20.cellI 1 rfl ((G.nn : Int) - 1) (by omega) (by omega))) ?_
 refine rl_v rfl rfl rfl (ov_lss rfl rfl rfl) <| rl_nil ?_
 first | refine run_cond_dec rfl (fun c1' => ?_) (fun c1' => ?_) | refine run_cond rfl (fun c1' => ?_) (fun c1' => ?_)
 ·refine run_ret Try.func71 (res0 Try.results71) ?_
  exact ⟨rfl, L1, fl1, c1, LV, hF1, hf1, hLV, c1', hr1, hO20.sub (.cons _ (.cons _ (.cons _ (.cons _ (.refl _)))))⟩
 ·refine run_skip <| run_seq <| run_region <| rl_v rfl rfl rfl (ov_load rfl Try.underlying98 rfl rfl (by exact hO20.cellL 3 rfl (off := 0) rfl)) ?_
  refine rl_v rfl rfl rfl (ov_nil rfl rfl) <| rl_v rfl rfl rfl (ov_fieldS rfl Try.underlying103 rfl (fo := 3) rfl (by kernel_rfl) rfl) ?_
  refine rl_v rfl rfl rfl (ov_load rfl Try.underlying101 rfl rfl (by exact hO20.cellL 4 rfl (off := 3) rfl)) ?_
  refine rl_v rfl rfl rfl (ov_len rfl Try.underlying101 rfl) ?_
  refine rl_make (G.nn) rfl rfl rfl rfl Try.underlying47 info_3 rfl hO20 rfl rfl (by rfl) (by rfl) ⟨by omega, by omega⟩ (fun nb w22 hO23 hs24 => ?_)
  refine rl_ow rfl (ow_alloc _ rfl rfl rfl zero_47 rfl hO23) ?_
  rintro _ w25 ⟨t4, rfl, hO26, hs27⟩
  refine rl_ow rfl (ow_storeL rfl rfl (by kernel_rfl) hO26 0 rfl rfl rfl rfl rfl) ?_
  rintro _ w28 ⟨rfl, hO29, hs30⟩
  refine rl_nil <| run_seq <| run_region <| rl_ow rfl (ow_alloc _ rfl rfl rfl zero_111 rfl hO29) ?_
  rintro _ w31 ⟨t5, rfl, hO32, hs33⟩
  refine rl_nil <| run_seq <| run_region <| rl_v rfl rfl rfl (ov_func rfl rfl rfl) <| rl_ow rfl (ow_storeL rfl rfl (by kernel_rfl) hO32 0 rfl rfl rfl rfl rfl) ?_
  rintro _ w34 ⟨rfl, hO35, hs36⟩
  have hlv := hLV.rng
  have hOp := hO35.perm perm_psh
  refine rl_nil <| run_seq <| run_region <| rl_v rfl rfl rfl (ov_load rfl Try.underlying111 rfl rfl (by exact hOp.cellL 8 rfl (off := 0) rfl)) ?_
  refine rl_call callable_93 rfl rfl rfl rfl rfl rfl (push_any hG hs hT hlv _ 0 1152921504606846976 L1 (fun _ => 0) c1 _ rfl (by omega) (by omega) (by decide) (by decide) hF1.room (fun v v0 v1 => ⟨Int.le_refl _, by omega⟩) hr1 hOp) (fun e37 w38 hp39 => ?_)
  obtain ⟨got, L2, NX2, c2, rfl, hP, hr2, hO3⟩ := hp39
  refine ⟨_, rfl, ?_⟩
  have hg0 := hP.g0
  have hgp : 1 ≤ got := Classical.byContradiction fun hn => by
   obtain ⟨hL2, hD2, hN2, _⟩ := hP.none (by omega)
   exact c1' (Net.Dead.none hG hLV (hD2 (Net.Dead.init G L1 LV)) hN2)
  have hF2 := hF1.adds hP.room hP.adds
  refine rl_v rfl rfl rfl (ov_assign rfl rfl) <| rl_nil <| run_block <| Run.keep [1, 2, 5, 6] (F' := [(1, _), (2, _), (5, _), (6, _)]) rfl <| run_loop4 (fun (g3 : Int) (L3 : Int → Int) (fl3 : Int) (NX3 : Int → Int) => [(6, .int .i64 g3)]) [1, 2, 5] (fun (g3 : Int) (L3 : Int → Int) (fl3 : Int) (NX3 : Int → Int) (w40 : World) => ∃ c3 : Option Blk, G.Flow L3 (fl3 + g3) ∧ 0 ≤ g3 ∧ 0 ≤ fl3 ∧ fl1 + 1 ≤ fl3 + g3 ∧ (∀ v : Int, 0 ≤ v → v < G.nn → 0 ≤ NX3 v ∧ NX3 v ≤ G.OL v) ∧ SRow (.slice pa (2 * G.np) pc) 127 2 (2 * G.np) (pipF G L3) c3 ∧ Own B w0 w40 (pshL t2 t4 t1 t3 t5 nb lb wb c3 (wkL la n lc sa m sc pa (2 * G.np) pc oa G.nn oc fl3) G.nn NX3 LV ++ R)) (fun (g3 : Int) (L3 : Int → Int) (fl3 : Int) (NX3 : Int → Int) => (M - fl3).toNat) (got) (L2) (fl1) (NX2) ?_ (And.intro (by exact slot_int rfl (by first | omega)) (And.intro rfl (And.intro rfl (And.intro rfl trivial)))) ?_
  ·exact ⟨c2, hF2, hg0, hf1, by omega, hP.nx, hr2, hO3⟩
  intro g3 L3 fl3 NX3 w40 hIw40 ih41
  obtain ⟨c3, hF3, hg3, hf3, hpr, hnx3, hr3, hO4⟩ := hIw40
  show Run _ _ _ _ [(6, _), (1, _), (2, _), (5, _)] _ _
  have hMf := hM _ _ hF3
  refine run_seq <| run_seq <| run_region <| rl_v rfl rfl rfl (ov_move rfl rfl) <| rl_v rfl rfl rfl (ov_gtr rfl rfl rfl) <| rl_nil ?_
  first | refine run_cond_dec rfl (fun c2' => ?_) (fun c2' => ?_) | refine run_cond rfl (fun c2' => ?_) (fun c2' => ?_)
  ·refine run_skip <| run_seq <| run_block <| run_region <| rl_v rfl rfl rfl (ov_load rfl Try.underlying98 rfl rfl (by exact hO4.cellL 5 rfl (off := 0) rfl)) ?_
   refine rl_v rfl rfl rfl (ov_nil rfl rfl) <| rl_v rfl rfl rfl (ov_fieldS rfl Try.underlying103 rfl (fo := 4) rfl (by kernel_rfl) rfl) ?_
   refine rl_v rfl rfl rfl (ov_load rfl Try.underlying3 rfl rfl (by exact hO4.cellL 0 rfl (off := 4) rfl)) ?_
   refine rl_v rfl rfl rfl (ov_move rfl rfl) <| rl_v rfl rfl rfl (ov_add rfl rfl rfl (by omega)) ?_
   refine rl_v rfl rfl rfl (ov_nil rfl rfl) <| rl_v rfl rfl rfl (ov_fieldS rfl Try.underlying103 rfl (fo := 4) rfl (by kernel_rfl) rfl) ?_
   refine rl_ow rfl (ow_storeL rfl rfl (by kernel_rfl) hO4 0 rfl rfl rfl rfl rfl) ?_
   rintro _ w42 ⟨rfl, hO43, hs44⟩
   refine rl_nil <| run_inBlock <| run_region <| rl_v rfl rfl rfl (ov_load rfl Try.underlying111 rfl rfl (by exact hO43.cellL 8 rfl (off := 0) rfl)) ?_
   refine rl_call callable_93 rfl rfl rfl rfl rfl rfl (push_any hG hs hT hlv _ 0 1152921504606846976 L3 NX3 c3 _ rfl (by omega) (by omega) (by decide) (by decide) hF3.room hnx3 hr3 hO43) (fun e45 w46 hp47 => ?_)
   obtain ⟨got4, L4, NX4, c4, rfl, hP4, hr4, hO5⟩ := hp47
   refine ⟨_, rfl, ?_⟩
   refine rl_v rfl rfl rfl (ov_assign rfl rfl) <| rl_nil ?_
   refine Run.use (ih41 (got4) (L4) (fl3 + g3) (NX4) _ ?_ ?_) (And.intro (by exact slot_int rfl (by first | omega)) (And.intro rfl (And.intro rfl (And.intro rfl trivial))))
   ·first | omega | (dsimp only; omega)
   ·exact ⟨c4, hF3.adds hP4.room hP4.adds, hP4.g0, by omega, by have := hP4.g0; omega, hP4.nx, hr4, hO5⟩
  ·have hg30 : g3 = 0 := by omega
   subst hg30
   rw [Int.add_zero] at hF3
   refine run_exit rfl <| run_inBlock ?_
   refine Run.use (ih11 (L3) (fl3) _ ?_ ?_) (And.intro rfl (And.intro rfl trivial))
   ·(have := hM _ _ hF1; omega)
   ·exact ⟨c3, hF3, hf3, hr3, (hO4.perm perm_psh2).sub (.cons _ (.cons _ (.cons _ (.cons _ (.cons _ (.refl _))))))⟩
end
end Go.Proofs.Ytbepolognfdkeaa
set_option maxRecDepth 100000
namespace Go.Proofs.Ytbepolognfdkeaa
open Go.RowKit Go.Proofs
theorem heap_sort {α : Type} [Inhabited α] (enc : α → Value) (w : World) (ob n : Nat) (d : Array α) (os : Array Obj) {k : Nat} (hk : k < w.heap.size) (hne : k ≠ ob) : (sortWorld enc w ob 0 n d os).heap[k]? = w.heap[k]? := by
 unfold sortWorld
 rw [Sort.heap_grow_old _ _ (by rw [Sort.size_putRow]; exact hk)]
 unfold Sort.putRow Sort.mapBlock
 show (w.heap.modify ob _)[k]? = _
 rw [Array.getElem?_modify, if_neg (fun e => hne e.symm)]
theorem size_sort {α : Type} [Inhabited α] (enc : α → Value) (w : World) (ob n : Nat) (d : Array α) (os : Array Obj) : w.heap.size ≤ (sortWorld enc w ob 0 n d os).heap.size := by
 unfold sortWorld
 rw [Sort.size_grow, Sort.size_putRow]
 exact Nat.le_add_right _ _
theorem Own.sorted {α : Type} [Inhabited α] {enc : α → Value} {B : Nat} {w0 w : World} {H : List (Option Blk)} {ob cap nr : Nat} {E : TypeId} {G : Int → Value} (hO : Own B w0 w (some (vch ob E cap G) :: H)) (n : Nat) (d : Array α) (os : Array Obj) (hs : d.size = nr) (hc : nr ≤ cap) :
  Own B w0 (sortWorld enc w ob 0 n d os) (some (vch ob E cap (fun i => if i < nr then enc d[i.toNat]! else G i)) :: H) := by
 have hge : B ≤ ob := hO.ge _ (List.mem_cons_self ..)
 have hb := hO.get 0 rfl
 have hlt := hO.lt 0 rfl
 refine hO.updBB 0 rfl ⟨rfl, rfl, rfl, size_sort .., fun k hk => heap_sort enc w ob n d os (Nat.lt_trans (Nat.lt_of_lt_of_le hk hge) hlt) (by omega)⟩ (fun j hj hne => heap_sort enc w ob n d os hj hne) ?_ hge (.inl rfl)
 obtain ⟨c, h1, h2, h3⟩ := hb
 refine blkIs.of_row rfl ⟨Sort.putCells enc 0 d c, ?_, ?_, fun i hi => ?_⟩
 ·unfold sortWorld
  rw [Sort.heap_grow_old _ _ (by rw [Sort.size_putRow]; exact hlt)]
  unfold Sort.putRow Sort.mapBlock
  show (w.heap.modify ob _)[ob]? = _
  rw [Array.getElem?_modify, if_pos rfl]
  show (w.heap[ob]?).map _ = _
  have h1' : w.heap[ob]? = some (.cells c E (0, 0)) := h1
  rw [h1']
  rfl
 ·unfold Sort.putCells
  rw [Array.size_mapIdx]; exact h2
 ·have hi' : i < cap := hi
  have h4 : c[i]? = some (G i) := h3 i hi
  unfold Sort.putCells
  rw [Array.getElem?_mapIdx, h4]
  show some (if 0 ≤ i ∧ i < 0 + d.size then enc d[i - 0]! else G i) = some (if (i : Int) < nr then enc d[(i : Int).toNat]! else G i)
  by_cases e : i < nr
  ·rw [if_pos ⟨Nat.zero_le _, by omega⟩, if_pos (by omega)]; rfl
  ·rw [if_neg (by omega), if_neg (by omega)]
end Go.Proofs.Ytbepolognfdkeaa
