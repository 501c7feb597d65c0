import Derived.Test.YtlldeifbfpmbaaaGreatFiB
import Derived.Test.YtlldeifbfpmbaaaGreatFgC
import Derived.Test.YtlldeifbfpmbaaaGreatGow
set_option maxRecDepth 100000
namespace Go.Proofs.YtlldeifbfpmbaaaGreat
open Go.RowKit Go.Proofs Go.MapKept
theorem OTab.part {v : Value} {T1 T2 : TypeId} {n : Nat} {L : Int → Nat} {F : Int → Int → Value} {H : List (Option Blk)} (h : OTab v T1 T2 n L F H) (i : Nat) (hi : i < n) :
  ∃ (c cr : Option Blk) (rv : Int → Value) (ra : Option Addr) (rc : Nat) (M : List (Option Blk)), IRow v T1 n rv c ∧ rv i = .slice ra (L i) rc ∧ IRow (.slice ra (L i) rc) T2 (L i) (F i) cr ∧ H.Perm (cr :: c :: M) := by
 obtain ⟨c, rv, ch, rfl, h2, h3⟩ := h
 have h3i := h3 i hi
 obtain ⟨ra, rc, e⟩ := Row.val h3i
 rw [e] at h3i
 exact ⟨c, ch i, rv, ra, rc, _, h2, e, h3i, (((List.perm_cons_erase (List.mem_range.2 hi)).map ch).cons c).trans (List.Perm.swap _ _ _)⟩
theorem blk_likes {f : Fair} {l : Int → Int} {g b : Int} (hV : Valid5 f f.m) (hp : f.Poss l) (g0 : 0 ≤ g) (g1 : g < f.n) (hk : f.know g b) : (¬ (if l g < 0 then (f.m : Int) else f.rg g (l g)) ≤ f.rg g b) ↔ l g ≠ b ∧ ¬ (0 ≤ l g ∧ f.rg g (l g) < f.rg g b) := by
 have h1 := hk.1
 have h2 : f.gl g ≤ f.m := pigeon (fun k k0 k1 => hV.ok.gr g k g0 g1 k0 k1) (hV.ok.gd g g0 g1)
 have h3 := hp.at_ g g0 g1
 constructor
 ·intro h
  split at h
  ·exact ⟨fun e => by
    have hb : f.ge g (f.rg g b) = b := Fair.ge_rg h1
    have := hV.ok.gr g (f.rg g b) g0 g1 (Fair.rg_nonneg f g b) h1
    omega, by omega⟩
  ·exact ⟨fun e => by rw [e] at h; omega, by omega⟩
 ·rintro ⟨p1, p2⟩
  split
  ·omega
  ·intro hle
   have h4 : f.rg g (l g) ≠ f.rg g b := fun e => p1 (Fair.rg_inj h1 e.symm).symm
   omega
theorem blk_crew {f : Fair} {l : Int → Int} {g b : Int} : (∃ i : Int, (0 ≤ i ∧ i < f.n) ∧ l i = b ∧ f.rb b g < f.rb b i) ↔ ∃ j : Int, 0 ≤ j ∧ j < ((crw l b f.n).length : Nat) ∧ f.rb b g < f.rb b (enL (crw l b f.n) j) := by
 constructor
 ·rintro ⟨i, hi, e, h⟩
  obtain ⟨j, j0, j1, e2⟩ := enL_of_mem (crw_mem.2 ⟨hi, e⟩)
  exact ⟨j, j0, j1, by rw [e2]; exact h⟩
 ·rintro ⟨j, j0, j1, h⟩
  obtain ⟨p1, p2⟩ := crw_mem.1 (enL_mem j0 j1)
  exact ⟨_, p1, p2, h⟩
theorem crw_len' {f : Fair} (l : Int → Int) (b : Int) : ((crw l b f.n).length : Int) = f.cnt l b := crw_len l b f.n
set_option maxHeartbeats 4000000 in
theorem blocking5_any (tb : Nat) (la : Option Addr) (lc : Nat) (f : Fair) (l : Int → Int) (w : World) (hV : Valid5 f f.m) (hP : PT w.heap.size w tb f) (hl : IAt w.heap.size w la f.n (fun i => iv (l i))) (hp : f.Poss l) :
  Calls Tryz.prog 54 #[ptr tb, .slice la f.n lc] w fun e w' => ∃ v c, e = .returned v ∧ SRow v 48 2 (blkTo f l f.n).length (prG (blkTo f l f.n)) c ∧ Own w.heap.size w w' [c] := by
 have hs := hV.sm
 have hn := hs.n
 have hm := hs.m
 obtain ⟨ga, ba, qa, ma, na, gc, bc, qc, mc, nc, hL, hF, hM, hN⟩ := id hP
 have hT := hL.open
 obtain ⟨qb, qo, hqa, hqrow⟩ := hF.q.open
 obtain ⟨lb, lo, hla, hlrow⟩ := hl.open
 refine calls_of_run (F := [(0, _), (1, _)]) Tryz.func54 rfl Tryz.ntmps54 rfl rfl ?_
 have hO0 := Own.init w
 refine run_seq <| run_region <| rl_ow rfl (ow_box _ rfl rfl rfl rfl rfl hO0) ?_
 rintro _ w1 ⟨bt, rfl, hO2, hs3⟩
 refine rl_v rfl rfl rfl (ov_assign rfl rfl) <| rl_nil <| run_seq <| run_region <| rl_v rfl rfl rfl (ov_load rfl Tryz.underlying80 rfl rfl (by exact hO2.cellL 0 rfl (off := 0) rfl)) ?_
 refine rl_v rfl rfl rfl (ov_nil rfl rfl) <| rl_v rfl rfl rfl (ov_fieldS rfl Tryz.underlying100 rfl (fo := 0) rfl (by kernel_rfl) rfl) ?_
 refine rl_v rfl rfl rfl (ov_fieldS rfl Tryz.underlying27 rfl (fo := 1) rfl (by kernel_rfl) rfl) ?_
 refine rl_v rfl rfl rfl (ov_load rfl Tryz.underlying22 rfl rfl (by exact hT _ hO2.below rfl)) ?_
 refine rl_v rfl rfl rfl (ov_len rfl Tryz.underlying22 rfl) ?_
 refine rl_make (f.m) rfl rfl rfl rfl Tryz.underlying22 info_23 rfl hO2 rfl rfl (by rfl) (by rfl) ⟨by omega, by omega⟩ (fun cb w4 hO5 hs6 => ?_)
 have hOi : Own w.heap.size w w4 (some (lch bt 80 [ptr tb]) :: none :: ((some (vch cb 23 f.m (fun _ => .slice none 0 0)) :: (List.range f.m).map fun _ => none) ++ [])) := by
  have h := (hO5.nones f.m).perm List.perm_append_comm
  have h2 := h.nil_cons.perm ((List.perm_append_comm (l₁ := [none, some (vch cb 23 f.m (fun _ => .slice none 0 0))]) (l₂ := [some (lch bt 80 [ptr tb])])).append_right (List.replicate f.m none))
  rw [List.append_nil, List.map_const', List.length_range]
  exact h2
 refine rl_v rfl rfl rfl (ov_assign rfl rfl) <| rl_nil <| run_seq <| run_seq <| run_region <| rl_v rfl rfl rfl (ov_move rfl rfl) <| rl_v rfl rfl rfl (ov_len rfl Tryz.underlying23 rfl) <| rl_v rfl rfl rfl (ov_move rfl rfl) <| rl_nil <| run_block <| Run.keep [1, 2, 5, 19, 20, 21] (F' := [(1, _), (2, _), (5, _), (19, _), (20, _), (21, _)]) rfl <| run_loop1 (fun (k : Nat) => [(21, .int .i64 (k : Int))]) [1, 2, 5, 19, 20] (fun (k : Nat) (w7 : World) => k ≤ f.n ∧ ∃ H : List (Option Blk), OTab (.slice (some ⟨cb, 0, none⟩) f.m f.m) 23 3 f.m (fun b => (crw l b k).length) (fun b j => iv (enL (crw l b k) j)) H ∧ Own w.heap.size w w7 (some (lch bt 80 [ptr tb]) :: none :: (H ++ []))) (fun (k : Nat) => f.n - k) (0) ?_ (And.intro (by exact slot_int rfl (by first | omega)) (And.intro rfl (And.intro rfl (And.intro rfl (And.intro rfl (And.intro rfl trivial)))))) ?_
 ·exact ⟨Nat.zero_le _, _, OTab.nils cb _ _ _ _ _ (by show f.m ≤ 9223372036854775807; omega) (fun _ _ _ => rfl), hOi⟩
 intro k w7 hIw7 ih8
 obtain ⟨hk, H, hTb, hO⟩ := hIw7
 show Run _ _ _ _ [(21, _), (1, _), (2, _), (5, _), (19, _), (20, _)] _ _
 refine run_seq <| run_region <| rl_v rfl rfl rfl (ov_lss rfl rfl rfl) <| rl_nil <| run_seq ?_
 first | refine run_cond_dec rfl (fun h1 => ?_) (fun h1 => ?_) | refine run_cond rfl (fun h1 => ?_) (fun h1 => ?_)
 ·refine run_skip <| run_seq <| run_block <| run_seq <| run_region <| rl_v rfl rfl rfl (ov_move rfl rfl) <| rl_v rfl rfl rfl (ov_index1 rfl Tryz.underlying23 (by kernel_rfl) rfl rfl ⟨by omega, by omega⟩ (by exact hla (by omega))) ?_
  refine rl_v rfl rfl rfl (ov_load rfl Tryz.underlying3 rfl rfl (by exact hlrow _ hO.below _ (by omega) (by omega))) ?_
  refine rl_v rfl rfl rfl (ov_assign rfl rfl) <| rl_v rfl rfl rfl (ov_assign rfl rfl) <| rl_nil <| run_seq <| run_region <| rl_v rfl rfl rfl (ov_move rfl rfl) <| rl_v rfl rfl rfl (ov_geq rfl rfl rfl) <| rl_nil ?_
  first | refine run_cond_dec rfl (fun h2 => ?_) (fun h2 => ?_) | refine run_cond rfl (fun h2 => ?_) (fun h2 => ?_)
  ·have hat := hp.at_ k (by omega) (by omega)
   obtain ⟨q, hq⟩ : ∃ q : Nat, (q : Int) = l k := ⟨_, Int.toNat_of_nonneg h2⟩
   have hqm : q < f.m := by omega
   obtain ⟨co, rv, ch, hv, h3, hOt⟩ := tab_take hTb hO q hqm
   have h3q := h3 q hqm
   obtain ⟨ra, rc, erv⟩ := Row.val h3q
   rw [erv] at h3q
   have hlen := crw_len l q k
   have hlen2 := cnk_le (f := f) (l := l) (k := k) (b := q) (by omega) (by omega)
   have hlen3 := hp.cnt q (by omega) (by omega)
   have hlen4 := hs.q q (by omega) (by omega)
   rw [← hq]
   refine run_region <| rl_v rfl rfl rfl (ov_move rfl rfl) <| rl_v rfl rfl rfl (ov_move rfl rfl) <| rl_v rfl rfl rfl (ov_move rfl rfl) <| rl_v rfl rfl rfl (ov_move rfl rfl) <| rl_v rfl rfl rfl (ov_index1 rfl Tryz.underlying22 (by kernel_rfl) rfl rfl ⟨by omega, by omega⟩ (by rfl)) ?_
   refine rl_v rfl rfl rfl (ov_load rfl Tryz.underlying23 rfl rfl (by exact (IRow.cellA hv hOt 3 rfl rfl (i := q) (by omega) (by omega)).trans (congrArg some erv))) ?_
   refine rl_v rfl rfl rfl (ov_move rfl rfl) ?_
   refine rl_appI rfl rfl rfl rfl rfl rfl rfl rfl Tryz.underlying23 info_3 rfl hOt 2 h3q rfl rfl rfl ⟨by omega, by omega⟩ (fun v36 c36 w9 hO10 hr36 hs11 => ?_)
   obtain ⟨a36, cp36, rfl⟩ := Row.val hr36
   refine rl_v rfl rfl rfl (ov_index1 rfl Tryz.underlying22 (by kernel_rfl) rfl rfl ⟨by omega, by omega⟩ (by rfl)) ?_
   refine rl_ow rfl (ow_storeI1 rfl rfl (by kernel_rfl) hO10 3 hv rfl (fun _ => rfl) rfl ⟨by omega, by omega⟩ rfl rfl) ?_
   rintro _ w12 ⟨c9, rfl, hO13, hv9, hs14⟩
   obtain ⟨H2, hTb2, hO9⟩ := tab_put2 (L := fun b => (crw l b k).length) (F := fun b j => iv (enL (crw l b k) j)) q hqm hv9 h3 hr36 hO13
   have hcrq : crw l q (k + 1) = crw l q k ++ [(k : Int)] := if_pos hq.symm
   have hcrn : ∀ r : Int, r ≠ q → crw l r (k + 1) = crw l r k := fun r hr => if_neg fun e => hr (by omega)
   refine rl_nil <| run_inBlock <| run_region <| rl_v rfl rfl rfl (ov_add rfl rfl rfl (by omega)) ?_
   refine rl_v rfl rfl rfl (ov_move rfl rfl) <| rl_nil ?_
   refine Run.use (ih8 (k + 1) _ ?_ ?_) (And.intro (by exact slot_int rfl (by first | omega)) (And.intro rfl (And.intro rfl (And.intro rfl (And.intro rfl (And.intro rfl trivial))))))
   ·first | omega | (dsimp only; omega)
   ·exact ⟨by omega, H2, hTb2.congr2 (fun r r0 r1 => by by_cases e : r = q; (rw [e, upd_same, hcrq, List.length_append]; rfl); (rw [upd_ne _ _ e, hcrn r e])) (fun r c r0 r1 c0 c1 => by by_cases e : r = q; (rw [e, upd_same] at c1; rw [e, upd_same, hcrq]; exact congrArg iv (enL_snoc _ _ c c0 c1)); (rw [upd_ne _ _ e, hcrn r e])), hO9⟩
  ·have hcrn : ∀ r : Int, 0 ≤ r → crw l r (k + 1) = crw l r k := fun r hr => if_neg (by omega)
   refine run_skip <| run_inBlock <| run_region <| rl_v rfl rfl rfl (ov_add rfl rfl rfl (by omega)) ?_
   refine rl_v rfl rfl rfl (ov_move rfl rfl) <| rl_nil ?_
   refine Run.use (ih8 (k + 1) _ ?_ ?_) (And.intro (by exact slot_int rfl (by first | omega)) (And.intro rfl (And.intro rfl (And.intro rfl (And.intro rfl (And.intro rfl trivial))))))
   ·first | omega | (dsimp only; omega)
   ·exact ⟨by omega, H, hTb.congr2 (fun r r0 r1 => by rw [hcrn r r0]) (fun r c r0 r1 c0 c1 => by rw [hcrn r r0]), hO⟩
 ·obtain rfl : k = f.n := by omega
  refine run_exit rfl <| run_seq <| run_region <| rl_v rfl rfl rfl (ov_assign rfl rfl) <| rl_nil <| run_seq <| run_seq <| run_region <| rl_v rfl rfl rfl (ov_load rfl Tryz.underlying80 rfl rfl (by exact hO.cellL 0 rfl (off := 0) rfl)) ?_
  refine rl_v rfl rfl rfl (ov_nil rfl rfl) <| rl_v rfl rfl rfl (ov_fieldS rfl Tryz.underlying100 rfl (fo := 0) rfl (by kernel_rfl) rfl) ?_
  refine rl_v rfl rfl rfl (ov_fieldS rfl Tryz.underlying27 rfl (fo := 0) rfl (by kernel_rfl) rfl) ?_
  refine rl_v rfl rfl rfl (ov_load rfl Tryz.underlying22 rfl rfl (by exact hT _ hO.below rfl)) ?_
  refine rl_v rfl rfl rfl (ov_len rfl Tryz.underlying22 rfl) <| rl_v rfl rfl rfl (ov_move rfl rfl) <| rl_nil <| run_block <| Run.keep [1, 2, 5, 8, 44, 45] (F' := [(1, _), (2, _), (5, _), (8, _), (44, _), (45, _)]) rfl <| run_loop2 (fun (g : Nat) (v : Value) => [(45, .int .i64 (g : Int)), (8, v)]) [1, 2, 5, 44] (fun (g : Nat) (v : Value) (w15 : World) => ∃ c : Option Blk, g ≤ f.n ∧ SRow v 48 2 (blkTo f l g).length (prG (blkTo f l g)) c ∧ Own w.heap.size w w15 (c :: some (lch bt 80 [ptr tb]) :: none :: (H ++ []))) (fun (g : Nat) (v : Value) => f.n - g) (0) (.slice none 0 0) ?_ (And.intro (by exact slot_int rfl (by first | omega)) (And.intro rfl (And.intro rfl (And.intro rfl (And.intro rfl (And.intro rfl trivial)))))) ?_
  ·exact ⟨none, Nat.zero_le _, SRow.nil _ _ _, hO.nil_cons⟩
  intro g v w15 hIw15 ih16
  obtain ⟨c, hg1, hr, hO⟩ := hIw15
  show Run _ _ _ _ [(45, _), (8, _), (1, _), (2, _), (5, _), (44, _)] _ _
  refine run_seq <| run_region <| rl_v rfl rfl rfl (ov_lss rfl rfl rfl) <| rl_nil <| run_seq ?_
  first | refine run_cond_dec rfl (fun h3 => ?_) (fun h3 => ?_) | refine run_cond rfl (fun h3 => ?_) (fun h3 => ?_)
  ·refine run_skip <| run_seq <| run_block <| run_seq <| run_region <| rl_v rfl rfl rfl (ov_move rfl rfl) <| rl_ow rfl (ow_alloc _ rfl rfl rfl zero_3 rfl hO) ?_
   rintro _ w17 ⟨bg, rfl, hO18, hs19⟩
   refine rl_ow rfl (ow_storeL rfl rfl (by kernel_rfl) hO18 0 rfl rfl rfl rfl rfl) ?_
   rintro _ w20 ⟨rfl, hO21, hs22⟩
   have hlen1 := blkTo_len f l g
   have hgm : g * f.m ≤ 64 * 64 := Nat.mul_le_mul (by omega) hm
   have hOs := hO21.swap
   refine rl_nil <| run_seq <| run_region <| rl_v rfl rfl rfl (ov_load rfl Tryz.underlying80 rfl rfl (by exact hOs.cellL 2 rfl (off := 0) rfl)) ?_
   refine rl_v rfl rfl rfl (ov_nil rfl rfl) <| rl_v rfl rfl rfl (ov_fieldS rfl Tryz.underlying100 rfl (fo := 0) rfl (by kernel_rfl) rfl) ?_
   refine rl_v rfl rfl rfl (ov_fieldS rfl Tryz.underlying27 rfl (fo := 1) rfl (by kernel_rfl) rfl) ?_
   refine rl_v rfl rfl rfl (ov_load rfl Tryz.underlying22 rfl rfl (by exact hT _ hOs.below rfl)) ?_
   refine rl_v rfl rfl rfl (ov_len rfl Tryz.underlying22 rfl) <| rl_v rfl rfl rfl (ov_move rfl rfl) <| rl_nil <| run_block <| Run.keep [1, 2, 5, 8, 9, 44, 45, 53, 54] (F' := [(1, _), (2, _), (5, _), (8, _), (9, _), (44, _), (45, _), (53, _), (54, _)]) rfl <| run_loop2 (fun (b : Nat) (v : Value) => [(54, .int .i64 (b : Int)), (8, v)]) [1, 2, 5, 9, 44, 45, 53] (fun (b : Nat) (v : Value) (w23 : World) => ∃ c : Option Blk, b ≤ f.m ∧ SRow v 48 2 (blkTo f l g ++ rowTo f l g b).length (prG (blkTo f l g ++ rowTo f l g b)) c ∧ Own w.heap.size w w23 (c :: some (lch bg 3 [iv g]) :: some (lch bt 80 [ptr tb]) :: none :: (H ++ []))) (fun (b : Nat) (v : Value) => f.m - b) (0) (v) ?_ (And.intro (by exact slot_int rfl (by first | omega)) (And.intro rfl (And.intro rfl (And.intro rfl (And.intro rfl (And.intro rfl (And.intro rfl (And.intro rfl (And.intro rfl trivial))))))))) ?_
   ·exact ⟨c, Nat.zero_le _, by unfold rowTo; rw [List.append_nil]; exact hr, hOs⟩
   intro b v w23 hIw23 ih24
   obtain ⟨c, hb1, hr, hO⟩ := hIw23
   show Run _ _ _ _ [(54, _), (8, _), (1, _), (2, _), (5, _), (9, _), (44, _), (45, _), (53, _)] _ _
   refine run_seq <| run_region <| rl_v rfl rfl rfl (ov_lss rfl rfl rfl) <| rl_nil <| run_seq ?_
   first | refine run_cond_dec rfl (fun h4 => ?_) (fun h4 => ?_) | refine run_cond rfl (fun h4 => ?_) (fun h4 => ?_)
   ·have hlen2 := rowTo_len f l g b
    have hlen3 : (blkTo f l g ++ rowTo f l g b).length ≤ 5000 := by rw [List.length_append]; omega
    have hyes : f.Blk l g b → rowTo f l g (b + 1) = rowTo f l g b ++ [((g : Int), (b : Int))] := rowTo_yes
    have hno : ¬ f.Blk l g b → rowTo f l g (b + 1) = rowTo f l g b := rowTo_no
    refine run_skip <| run_seq <| run_block <| run_seq <| run_region <| rl_v rfl rfl rfl (ov_move rfl rfl) <| rl_ow rfl (ow_alloc _ rfl rfl rfl zero_3 rfl hO) ?_
    rintro _ w25 ⟨bb, rfl, hO26, hs27⟩
    refine rl_ow rfl (ow_storeL rfl rfl (by kernel_rfl) hO26 0 rfl rfl rfl rfl rfl) ?_
    rintro _ w28 ⟨rfl, hO29, hs30⟩
    refine rl_nil <| run_seq <| run_seq <| run_class (Cl5 w.heap.size w (some (lch bb 3 [iv b]) :: c :: some (lch bg 3 [iv g]) :: some (lch bt 80 [ptr tb]) :: none :: (H ++ []))) (⟨hO29.drew⟩) mixed (by kernel_rfl) ?_
    refine rk_v rfl rfl rfl (fun wq hQ => ov_load rfl Tryz.underlying80 rfl rfl (by exact (hQ.own).cellL 3 rfl (off := 0) rfl)) ?_
    refine rk_v rfl rfl rfl (fun wq hQ => ov_load rfl Tryz.underlying3 rfl rfl (by exact (hQ.own).cellL 2 rfl (off := 0) rfl)) ?_
    refine rk_v rfl rfl rfl (fun wq hQ => ov_load rfl Tryz.underlying3 rfl rfl (by exact (hQ.own).cellL 0 rfl (off := 0) rfl)) ?_
    refine rk_call callable_79 rfl rfl rfl rfl rfl rfl (fun wq hQ => (knows_any tb f _ g b hV.ok ((hQ.own).pt hP) (by omega) (by omega) (by omega) (by omega)).mono fun _ _ h => ⟨h.1, ⟨(hQ.own).past h.2⟩⟩) ?_
    refine rk_v rfl rfl rfl (fun wq hQ => ov_not rfl rfl) ?_
    refine rk_v rfl rfl rfl (fun wq hQ => ov_move rfl rfl) ?_
    first | refine rk_split_dec 62 rfl (fun a1 => ?_) (fun a1 => ?_) | refine rk_split 62 rfl (fun a1 => ?_) (fun a1 => ?_)
    ·refine rk_gskip rfl rfl rfl rfl rfl rfl <| rk_gskip rfl rfl rfl rfl rfl rfl <| rk_gskip rfl rfl rfl rfl rfl rfl <| rk_gskip rfl rfl rfl rfl rfl rfl <| rk_gskip rfl rfl rfl rfl rfl rfl <| rk_gskip rfl rfl rfl rfl rfl rfl <| rk_gskip rfl rfl rfl rfl rfl rfl <| rk_gskip rfl rfl rfl rfl rfl rfl <| rk_gskip rfl rfl rfl rfl rfl rfl <| rk_gskip rfl rfl rfl rfl rfl rfl <| rk_gskip rfl rfl rfl rfl rfl rfl <| rk_gskip rfl rfl rfl rfl rfl rfl <| rk_v rfl rfl rfl (fun wq hQ => ov_pick_t rfl rfl rfl) ?_
     refine rk_nil (fun w35 hQ => ?_)
     refine run_cond_t rfl ?_
     have hnk : ¬ f.know g b := by simpa using a1
     refine run_exit rfl <| run_region <| rl_v rfl rfl rfl (ov_add rfl rfl rfl (by omega)) ?_
     refine rl_v rfl rfl rfl (ov_move rfl rfl) <| rl_nil ?_
     refine Run.use (ih24 (b + 1) (v) _ ?_ ?_) (And.intro (by exact slot_int rfl (by first | omega)) (And.intro rfl (And.intro rfl (And.intro rfl (And.intro rfl (And.intro rfl (And.intro rfl (And.intro rfl (And.intro rfl trivial)))))))))
     ·first | omega | (dsimp only; omega)
     ·exact ⟨c, by omega, by rw [hno fun h => hnk h.2.1]; exact hr, (hQ.own).tail⟩
    ·have hk : f.know g b := by simpa using a1
     have hlg : l g < 0 ∨ f.rg g (l g) < f.gl g := by
      rcases hp.at_ g (by omega) (by omega) with e | e
      ·exact .inl (by omega)
      ·exact .inr e.2.1
     refine rk_gv rfl rfl rfl rfl rfl (fun wq hQ => ov_load rfl Tryz.underlying80 rfl rfl (by exact (hQ.own).cellL 3 rfl (off := 0) rfl)) ?_
     refine rk_gv rfl rfl rfl rfl rfl (fun wq hQ => ov_load rfl Tryz.underlying3 rfl rfl (by exact (hQ.own).cellL 2 rfl (off := 0) rfl)) ?_
     refine rk_gv rfl rfl rfl rfl rfl (fun wq hQ => ov_move rfl rfl) ?_
     refine rk_gv rfl rfl rfl rfl rfl (fun wq hQ => ov_load rfl Tryz.underlying3 rfl rfl (by exact (hQ.own).cellL 2 rfl (off := 0) rfl)) ?_
     refine rk_gv rfl rfl rfl rfl rfl (fun wq hQ => ov_index1 rfl Tryz.underlying23 (by kernel_rfl) rfl rfl ⟨by omega, by omega⟩ (by exact hla (by omega))) ?_
     refine rk_gv rfl rfl rfl rfl rfl (fun wq hQ => ov_load rfl Tryz.underlying3 rfl rfl (by exact hlrow _ (hQ.own).below _ (by omega) (by omega))) ?_
     refine rk_gcall callable_82 rfl rfl rfl rfl rfl rfl rfl rfl (fun wq hQ => (likes_any tb f _ g (l g) hV.ok ((hQ.own).pt hP) (by omega) (by omega) hlg).mono fun _ _ h => ⟨h.1, ⟨(hQ.own).past h.2⟩⟩) ?_
     refine rk_gv rfl rfl rfl rfl rfl (fun wq hQ => ov_load rfl Tryz.underlying80 rfl rfl (by exact (hQ.own).cellL 3 rfl (off := 0) rfl)) ?_
     refine rk_gv rfl rfl rfl rfl rfl (fun wq hQ => ov_load rfl Tryz.underlying3 rfl rfl (by exact (hQ.own).cellL 2 rfl (off := 0) rfl)) ?_
     refine rk_gv rfl rfl rfl rfl rfl (fun wq hQ => ov_load rfl Tryz.underlying3 rfl rfl (by exact (hQ.own).cellL 0 rfl (off := 0) rfl)) ?_
     refine rk_gcall callable_82 rfl rfl rfl rfl rfl rfl rfl rfl (fun wq hQ => (likes_any tb f _ g b hV.ok ((hQ.own).pt hP) (by omega) (by omega) (.inr hk.1)).mono fun _ _ h => ⟨h.1, ⟨(hQ.own).past h.2⟩⟩) ?_
     have hbl := blk_likes (g := g) hV hp (by omega) (by omega) hk
     rw [if_neg (show ¬ (b : Int) < 0 by omega)]
     refine rk_gv rfl rfl rfl rfl rfl (fun wq hQ => ov_leq rfl rfl rfl) ?_
     refine rk_v rfl rfl rfl (fun wq hQ => ov_pick_f rfl rfl rfl) ?_
     refine rk_nil (fun w42 hQ => ?_)
     first | refine run_cond_dec rfl (fun h5 => ?_) (fun h5 => ?_) | refine run_cond rfl (fun h5 => ?_) (fun h5 => ?_)
     ·refine run_exit rfl <| run_region <| rl_v rfl rfl rfl (ov_add rfl rfl rfl (by omega)) ?_
      refine rl_v rfl rfl rfl (ov_move rfl rfl) <| rl_nil ?_
      refine Run.use (ih24 (b + 1) (v) _ ?_ ?_) (And.intro (by exact slot_int rfl (by first | omega)) (And.intro rfl (And.intro rfl (And.intro rfl (And.intro rfl (And.intro rfl (And.intro rfl (And.intro rfl (And.intro rfl trivial)))))))))
      ·first | omega | (dsimp only; omega)
      ·exact ⟨c, by omega, by rw [hno fun h => hbl.2 ⟨h.1, h.2.2.1⟩ h5]; exact hr, (hQ.own).tail⟩
     ·obtain ⟨hl1, hl2⟩ := hbl.1 h5
      obtain ⟨co, cr, rv, ra, rc, M, hv, erv, hcr, hpm⟩ := hTb.part b (by omega)
      have hOp := (hQ.own).perm (((((hpm.append_right []).cons _).cons _).cons _).cons _ |>.cons _)
      have hlen := crw_len' (f := f) l b
      have hcq := hp.cnt b (by omega) (by omega)
      have hq64 := hs.q b (by omega) (by omega)
      have hkc : ∀ i : Int, 0 ≤ i → i < ((crw l b f.n).length : Nat) → f.rb b (enL (crw l b f.n) i) < f.bl b := fun i i0 i1 => by
       have hm := crw_mem.1 (enL_mem i0 i1)
       rcases hp.at_ _ hm.1.1 hm.1.2 with e | e
       ·omega
       ·rw [hm.2] at e; exact e.2.2
      refine run_skip <| run_seq <| run_region <| rl_v rfl rfl rfl (ov_func rfl rfl rfl) <| rl_v rfl rfl rfl (ov_assign rfl rfl) <| rl_nil <| run_seq <| run_class (Cl5 w.heap.size w (some (lch bb 3 [iv b]) :: c :: some (lch bg 3 [iv g]) :: some (lch bt 80 [ptr tb]) :: none :: ((cr :: co :: M) ++ []))) (⟨hOp.drew⟩) mixed (by kernel_rfl) ?_
      refine rk_v rfl rfl rfl (fun wq hQ => ov_move rfl rfl) ?_
      refine rk_v rfl rfl rfl (fun wq hQ => ov_load rfl Tryz.underlying3 rfl rfl (by exact (hQ.own).cellL 0 rfl (off := 0) rfl)) ?_
      refine rk_v rfl rfl rfl (fun wq hQ => ov_index1 rfl Tryz.underlying22 (by kernel_rfl) rfl rfl ⟨by omega, by omega⟩ (by rfl)) ?_
      refine rk_v rfl rfl rfl (fun wq hQ => ov_load rfl Tryz.underlying23 rfl rfl (by exact (IRow.cellA hv (hQ.own) 6 rfl rfl (i := b) (by omega) (by omega)).trans (congrArg some erv))) ?_
      refine rk_v rfl rfl rfl (fun wq hQ => ov_len rfl Tryz.underlying23 rfl) ?_
      refine rk_v rfl rfl rfl (fun wq hQ => ov_load rfl Tryz.underlying80 rfl rfl (by exact (hQ.own).cellL 3 rfl (off := 0) rfl)) ?_
      refine rk_v rfl rfl rfl (fun wq hQ => ov_nil rfl rfl) ?_
      refine rk_v rfl rfl rfl (fun wq hQ => ov_fieldS rfl Tryz.underlying100 rfl (fo := 0) rfl (by kernel_rfl) rfl) ?_
      refine rk_v rfl rfl rfl (fun wq hQ => ov_fieldS rfl Tryz.underlying27 rfl (fo := 2) rfl (by kernel_rfl) rfl) ?_
      refine rk_v rfl rfl rfl (fun wq hQ => ov_load rfl Tryz.underlying23 rfl rfl (by exact hT _ (hQ.own).below rfl)) ?_
      refine rk_v rfl rfl rfl (fun wq hQ => ov_load rfl Tryz.underlying3 rfl rfl (by exact (hQ.own).cellL 0 rfl (off := 0) rfl)) ?_
      refine rk_v rfl rfl rfl (fun wq hQ => ov_index1 rfl Tryz.underlying23 (by kernel_rfl) rfl rfl ⟨by omega, by omega⟩ (by exact hqa (by omega))) ?_
      refine rk_v rfl rfl rfl (fun wq hQ => ov_load rfl Tryz.underlying3 rfl rfl (by exact hqrow _ (hQ.own).below _ (by omega) (by omega))) ?_
      refine rk_v rfl rfl rfl (fun wq hQ => ov_lss rfl rfl rfl) ?_
      refine rk_v rfl rfl rfl (fun wq hQ => ov_move rfl rfl) ?_
      first | refine rk_split_dec 91 rfl (fun a2 => ?_) (fun a2 => ?_) | refine rk_split 91 rfl (fun a2 => ?_) (fun a2 => ?_)
      ·refine rk_gskip rfl rfl rfl rfl rfl rfl <| rk_gskip rfl rfl rfl rfl rfl rfl <| rk_gskip rfl rfl rfl rfl rfl rfl <| rk_gskip rfl rfl rfl rfl rfl rfl <| rk_gskip rfl rfl rfl rfl rfl rfl <| rk_gskip rfl rfl rfl rfl rfl rfl <| rk_v rfl rfl rfl (fun wq hQ => ov_pick_t rfl rfl rfl) ?_
       refine rk_nil (fun w44 hQ => ?_)
       refine run_cond_t rfl ?_
       have hblk : f.Blk l g b := ⟨hl1, hk, hl2, .inl (by omega)⟩
       have hOr := (hQ.own).perm (((((hpm.symm.append_right []).cons _).cons _).cons _).cons _ |>.cons _)
       refine run_region <| rl_v rfl rfl rfl (ov_move rfl rfl) <| rl_v rfl rfl rfl (ov_load rfl Tryz.underlying3 rfl rfl (by exact hOr.cellL 2 rfl (off := 0) rfl)) ?_
       refine rl_v rfl rfl rfl (ov_load rfl Tryz.underlying3 rfl rfl (by exact hOr.cellL 0 rfl (off := 0) rfl)) ?_
       refine rl_v rfl rfl rfl (ov_buildL rfl lay_48 rfl (us := [_, _]) rfl) <| rl_ow rfl (ow_build [_] rfl rfl rfl rfl rfl Tryz.underlying41 info_48 (by decide) hOr rfl rfl) ?_
       rintro _ w45 ⟨b5, rfl, hO46, hs47⟩
       refine rl_ow rfl (ow_appR1 rfl rfl rfl Tryz.underlying41 info_48 rfl rfl hO46 1 hr rfl rfl rfl rfl rfl ⟨by omega, by omega⟩) ?_
       rintro _ w48 ⟨v5, c5, rfl, hO49, hr5, hs50⟩
       refine rl_v rfl rfl rfl (ov_assign rfl rfl) <| rl_nil <| run_inBlock <| run_region <| rl_v rfl rfl rfl (ov_add rfl rfl rfl (by omega)) ?_
       refine rl_v rfl rfl rfl (ov_move rfl rfl) <| rl_nil ?_
       refine Run.use (ih24 (b + 1) (v5) _ ?_ ?_) (And.intro (by exact slot_int rfl (by first | omega)) (And.intro rfl (And.intro rfl (And.intro rfl (And.intro rfl (And.intro rfl (And.intro rfl (And.intro rfl (And.intro rfl trivial)))))))))
       ·first | omega | (dsimp only; omega)
       ·exact ⟨c5, by omega, by rw [hyes hblk, ← List.append_assoc, List.length_append]; exact hr5.congr fun k k0 k1 => prG_snoc _ ((g : Int), (b : Int)) k k0 k1, hO49.tail⟩
      ·refine rk_gv rfl rfl rfl rfl rfl (fun wq hQ => ov_move rfl rfl) ?_
       refine rk_gv rfl rfl rfl rfl rfl (fun wq hQ => ov_load rfl Tryz.underlying3 rfl rfl (by exact (hQ.own).cellL 0 rfl (off := 0) rfl)) ?_
       refine rk_gv rfl rfl rfl rfl rfl (fun wq hQ => ov_index1 rfl Tryz.underlying22 (by kernel_rfl) rfl rfl ⟨by omega, by omega⟩ (by rfl)) ?_
       refine rk_gv rfl rfl rfl rfl rfl (fun wq hQ => ov_load rfl Tryz.underlying23 rfl rfl (by exact (IRow.cellA hv (hQ.own) 6 rfl rfl (i := b) (by omega) (by omega)).trans (congrArg some erv))) ?_
       refine rk_gv rfl rfl rfl rfl rfl (fun wq hQ => ov_move rfl rfl) ?_
       refine rk_gcall callable_49 rfl rfl rfl rfl rfl rfl rfl rfl (fun wq hQ => (containsW_dec bt bb bg tb f g b _ hV ((hQ.own).pt hP) ((hQ.own).readsL 3 rfl) ((hQ.own).readsL 0 rfl) ((hQ.own).readsL 2 rfl) (by omega) (by omega) hk.2 ra _ rc (enL (crw l b f.n)) (by omega) (hcr.reads (hQ.own) 5 rfl) hkc).mono fun _ _ h => ⟨h.1, ⟨(hQ.own).past h.2⟩⟩) ?_
       refine rk_v rfl rfl rfl (fun wq hQ => ov_pick_f rfl rfl rfl) ?_
       refine rk_nil (fun w54 hQ => ?_)
       first | refine run_cond_dec rfl (fun h6 => ?_) (fun h6 => ?_) | refine run_cond rfl (fun h6 => ?_) (fun h6 => ?_)
       ·have hblk : f.Blk l g b := ⟨hl1, hk, hl2, .inr (blk_crew.2 (by simpa using h6))⟩
        have hOr := (hQ.own).perm (((((hpm.symm.append_right []).cons _).cons _).cons _).cons _ |>.cons _)
        refine run_region <| rl_v rfl rfl rfl (ov_move rfl rfl) <| rl_v rfl rfl rfl (ov_load rfl Tryz.underlying3 rfl rfl (by exact hOr.cellL 2 rfl (off := 0) rfl)) ?_
        refine rl_v rfl rfl rfl (ov_load rfl Tryz.underlying3 rfl rfl (by exact hOr.cellL 0 rfl (off := 0) rfl)) ?_
        refine rl_v rfl rfl rfl (ov_buildL rfl lay_48 rfl (us := [_, _]) rfl) <| rl_ow rfl (ow_build [_] rfl rfl rfl rfl rfl Tryz.underlying41 info_48 (by decide) hOr rfl rfl) ?_
        rintro _ w55 ⟨b5, rfl, hO56, hs57⟩
        refine rl_ow rfl (ow_appR1 rfl rfl rfl Tryz.underlying41 info_48 rfl rfl hO56 1 hr rfl rfl rfl rfl rfl ⟨by omega, by omega⟩) ?_
        rintro _ w58 ⟨v5, c5, rfl, hO59, hr5, hs60⟩
        refine rl_v rfl rfl rfl (ov_assign rfl rfl) <| rl_nil <| run_inBlock <| run_region <| rl_v rfl rfl rfl (ov_add rfl rfl rfl (by omega)) ?_
        refine rl_v rfl rfl rfl (ov_move rfl rfl) <| rl_nil ?_
        refine Run.use (ih24 (b + 1) (v5) _ ?_ ?_) (And.intro (by exact slot_int rfl (by first | omega)) (And.intro rfl (And.intro rfl (And.intro rfl (And.intro rfl (And.intro rfl (And.intro rfl (And.intro rfl (And.intro rfl trivial)))))))))
        ·first | omega | (dsimp only; omega)
        ·exact ⟨c5, by omega, by rw [hyes hblk, ← List.append_assoc, List.length_append]; exact hr5.congr fun k k0 k1 => prG_snoc _ ((g : Int), (b : Int)) k k0 k1, hO59.tail⟩
       ·have hnb : ¬ f.Blk l g b := fun h => h.2.2.2.elim (fun h => a2 (by omega)) fun h => h6 (by simpa using blk_crew.1 h)
        have hOr := (hQ.own).perm (((((hpm.symm.append_right []).cons _).cons _).cons _).cons _ |>.cons _)
        refine run_skip <| run_inBlock <| run_region <| rl_v rfl rfl rfl (ov_add rfl rfl rfl (by omega)) ?_
        refine rl_v rfl rfl rfl (ov_move rfl rfl) <| rl_nil ?_
        refine Run.use (ih24 (b + 1) (v) _ ?_ ?_) (And.intro (by exact slot_int rfl (by first | omega)) (And.intro rfl (And.intro rfl (And.intro rfl (And.intro rfl (And.intro rfl (And.intro rfl (And.intro rfl (And.intro rfl trivial)))))))))
        ·first | omega | (dsimp only; omega)
        ·exact ⟨c, by omega, by rw [hno hnb]; exact hr, hOr.tail⟩
   ·obtain rfl : b = f.m := by omega
    refine run_exit rfl <| run_inBlock <| run_region <| rl_v rfl rfl rfl (ov_add rfl rfl rfl (by omega)) ?_
    refine rl_v rfl rfl rfl (ov_move rfl rfl) <| rl_nil ?_
    refine Run.use (ih16 (g + 1) (v) _ ?_ ?_) (And.intro (by exact slot_int rfl (by first | omega)) (And.intro rfl (And.intro rfl (And.intro rfl (And.intro rfl (And.intro rfl trivial))))))
    ·first | omega | (dsimp only; omega)
    ·exact ⟨c, by omega, hr, hO.sub (.cons_cons _ (.cons _ (.refl _)))⟩
  ·obtain rfl : g = f.n := by omega
   refine run_exit rfl <| run_seq <| run_region <| rl_v rfl rfl rfl (ov_move rfl rfl) <| rl_v rfl rfl rfl (ov_assign rfl rfl) <| rl_nil <| run_ret Tryz.func54 (res1 Tryz.results54 rfl) ?_
   exact ⟨v, c, rfl, hr, hO.sub (.cons_cons _ (List.nil_sublist _))⟩
end Go.Proofs.YtlldeifbfpmbaaaGreat
