import Derived.Test.YtlldeifbfpmbaaaFgD
set_option maxRecDepth 100000
namespace Go.Proofs.Ytlldeifbfpmbaaa
open Go.RowKit Go.Proofs Go.MapKept
theorem rown_mem {H : List (Option Blk)} {ao : Option Addr} {m cap n : Nat} {T1 T2 : TypeId} {vv : Int → Value} {L : Int → Nat} {F : Int → Int → Int} {c : Option Blk} (hc : c ∈ H) (h2 : IRow (.slice ao m cap) T1 n vv c)
  (h3 : ∀ r : Nat, r < n → ∃ x ∈ H, IRow (vv r) T2 (L r) (fun c => iv (F r c)) x) : ROwn H ao n L F := by
 obtain ⟨k, hk⟩ := List.mem_iff_getElem?.1 hc
 refine rown_of (T1 := T1) (T2 := T2) k hk h2 fun r r0 r1 => ?_
 obtain ⟨q, rfl⟩ := Int.eq_ofNat_of_zero_le r0
 obtain ⟨x, hx, hr⟩ := h3 q (by omega)
 obtain ⟨j, hj⟩ := List.mem_iff_getElem?.1 hx
 exact ⟨j, x, hj, hr⟩
theorem mem_erase_map {n i r : Nat} (ch : Nat → Option Blk) {R : List (Option Blk)} (hr : r < n) (hne : r ≠ i) : ch r ∈ ((List.range n).erase i).map ch ++ R :=
 List.mem_append_left _ (List.mem_map.2 ⟨r, (List.mem_erase_of_ne hne).2 (List.mem_range.2 hr), rfl⟩)
theorem FSrc.mk {H : List (Option Blk)} {ga ba qa : Option Addr} {bc qc : Nat} {f : Fair} {Hb : List (Option Blk)} {cq : Option Blk} (hg : ROwn H ga f.n f.gl f.ge) (hb : OTab (.slice ba f.m bc) 23 3 f.m f.bl (fun r c => iv (f.be r c)) Hb) (hs : Hb.Sublist H) (hq : IRow (.slice qa f.m qc) 3 f.m (fun b => iv (f.q b)) cq) (hc : cq ∈ H) : FSrc H ga ba qa f := fun B w0 w hO => by
 obtain ⟨k, hk⟩ := List.mem_iff_getElem?.1 hc
 exact ⟨(hg.at hO).tab, hb.reads (H' := []) (by rw [List.append_nil]; exact hO.sub hs), hq.reads hO k hk⟩
theorem Valid5.lie {f : Fair} (h : Valid5 f f.m) (g : Int) {k : Nat} {X : Int → Int} (hk : k ≤ 12) (hX : IsL k X f.m) : Valid5 (f.lie g k X) (f.lie g k X).m :=
 ⟨Fair.lie_ok h.ok hX.1 hX.2, ⟨h.sm.n, h.sm.m, fun r r0 r1 => by unfold Fair.lie; dsimp only; split; omega; exact h.sm.gl r r0 r1, h.sm.bl, h.sm.q⟩, rfl⟩
set_option maxHeartbeats 2000000 in
theorem truth5_any (ga ba qa la : Option Addr) (n gc m bc nq qc ln lc : Nat) (GL BL : Int → Nat) (GE BE : Int → Int → Int) (q lie : Int → Int) (gr : Int) (w : World)
  (hG : RTab w.heap.size w ga n GL GE) (hB : RTab w.heap.size w ba m BL BE) (hQ : IAt w.heap.size w qa nq (fun i => iv (q i))) (hlc : ln ≤ lc) (hl : IAt w.heap.size w la ln (fun i => iv (lie i))) :
  Calls Try.prog 4 #[.agg (fairL ga ba qa n gc m bc nq qc).toArray, iv gr, .slice la ln lc] w fun e w' => e = .returned (.bool true) ∧ Below w.heap.size w w' := by
 refine calls_of_run (F := [(0, _), (1, _), (2, _)]) Try.func4 rfl Try.ntmps4 rfl rfl ?_
 have hO0 := Own.init w
 refine run_seq <| run_region <| rl_ow rfl (ow_box _ rfl rfl rfl rfl rfl hO0) ?_
 rintro _ w1 ⟨b1, rfl, hO2, hs3⟩
 refine rl_v rfl rfl rfl (ov_assign rfl rfl) <| rl_nil <| run_seq <| run_region <| rl_v rfl rfl rfl (ov_loadW rfl Try.underlying25 rfl (by kernel_rfl) rfl hO2 0 rfl) ?_
 refine rl_call callable_10 rfl rfl rfl rfl rfl rfl (tame5_any ga ba qa n gc m bc nq qc 8 7 GL BL GE BE q _ (by decide) (by decide) (hO2.rtab hG) (hO2.rtab hB) (hO2.iatF hQ)) (fun e4 w5 hp6 => ?_)
 obtain ⟨f, ga1, ba1, qa1, gc1, bc1, qc1, Hg, Hb, cq, rfl, hfn, hfm, hF, hO1⟩ := hp6
 refine ⟨_, rfl, ?_⟩
 have hO7 := hO2.join hO1
 have hV := hF.ok
 have hn1 := hV.sm.n
 refine rl_ow rfl (ow_alloc _ rfl rfl rfl zero_25 rfl hO7) ?_
 rintro _ w8 ⟨b7, rfl, hO9, hs10⟩
 refine rl_ow rfl (ow_storeW rfl rfl (by kernel_rfl) hO9 0 rfl rfl (by rfl) rfl (by rfl)) ?_
 rintro _ w11 ⟨rfl, hO12, hs13⟩
 have hOa : Own w.heap.size w w11 (some (lch b7 25 (fairL ga1 ba1 qa1 f.n gc1 f.m bc1 f.m qc1)) :: cq :: (Hg ++ (Hb ++ [some (lch b1 25 (fairL ga ba qa n gc m bc nq qc))]))) := by
  have h := hO12
  simp only [List.cons_append, List.append_assoc] at h
  exact h
 refine rl_nil <| run_seq <| run_seq <| run_region <| rl_v rfl rfl rfl (ov_fieldS rfl Try.underlying25 rfl (fo := 0) rfl (by kernel_rfl) rfl) ?_
 refine rl_v rfl rfl rfl (ov_load rfl Try.underlying22 rfl rfl (by exact hOa.cellL 0 rfl (off := 0) rfl)) ?_
 refine rl_v rfl rfl rfl (ov_len rfl Try.underlying22 rfl) <| rl_v rfl rfl rfl (ov_eql rfl rfl rfl) <| rl_nil ?_
 first | refine run_cond_dec rfl (fun c0 => ?_) (fun c0 => ?_) | refine run_cond rfl (fun c0 => ?_) (fun c0 => ?_)
 ·refine run_seq <| run_region ?_
  refine rl_call callable_17 rfl rfl rfl rfl rfl rfl (awake5_any sortRows_all _) (fun e14 w15 hp16 => ?_)
  obtain ⟨rfl, hb0⟩ := hp16
  refine ⟨_, rfl, ?_⟩
  have hO17 := hOa.past hb0
  refine rl_v rfl rfl rfl (ov_assign rfl rfl) <| rl_nil <| run_ret Try.func4 (res1 Try.results4 rfl) ?_
  exact ⟨rfl, hO17.below⟩
 ·have eN : IntKind.u64.wrap (f.n : Int) = f.n := IntWalk.u64_in _ (by omega)
  have hx1 := u64_nn5 gr
  have hx2 : IntKind.u64.wrap gr % IntKind.u64.wrap (f.n : Int) < f.n := by rw [eN]; exact Int.emod_lt_of_pos _ (by omega)
  have hx3 : 0 ≤ IntKind.u64.wrap gr % IntKind.u64.wrap (f.n : Int) := by rw [eN]; exact Int.emod_nonneg _ (by omega)
  have hx4 : IntKind.i64.wrap (IntKind.u64.wrap gr % IntKind.u64.wrap (f.n : Int)) = IntKind.u64.wrap gr % IntKind.u64.wrap (f.n : Int) := IntWalk.i64_in _ (by omega)
  obtain ⟨k, hk⟩ : ∃ k : Nat, (k : Int) = IntKind.i64.wrap (IntKind.u64.wrap gr % IntKind.u64.wrap (f.n : Int)) := ⟨_, Int.toNat_of_nonneg (by rw [hx4]; exact hx3)⟩
  have hkn : k < f.n := by omega
  obtain ⟨co, rv, ch, hv, h3, hOt⟩ := tab_take hF.g hOa k hkn
  obtain ⟨gb, hgb⟩ := hv.addr
  have hgb' := hgb (by omega)
  have h3k := h3 k hkn
  obtain ⟨ra, rc, erv⟩ := Row.val h3k
  rw [erv] at h3k
  have hS0 : FSrc (some (lch b7 25 (fairL ga1 ba1 qa1 f.n gc1 f.m bc1 f.m qc1)) :: cq :: ch k :: co :: (((List.range f.n).erase k).map ch ++ (Hb ++ [some (lch b1 25 (fairL ga ba qa n gc m bc nq qc))]))) ga1 ba1 qa1 f := FSrc.mk (rown_mem (T1 := 23) (T2 := 3) (.tail _ (.tail _ (.tail _ (.head _)))) hv fun r hr => by
   by_cases e : r = k
   ·exact ⟨ch r, by rw [e]; exact .tail _ (.tail _ (.head _)), h3 r hr⟩
   ·exact ⟨ch r, .tail _ (.tail _ (.tail _ (.tail _ (mem_erase_map ch hr e)))), h3 r hr⟩) hF.b (.cons _ (.cons _ (.cons _ (.cons _ ((List.sublist_append_left _ _).trans (List.sublist_append_right _ _)))))) hF.q (.tail _ (.head _))
  refine run_skip <| run_seq <| run_region <| rl_v rfl rfl rfl (ov_move rfl rfl) <| rl_v rfl rfl rfl (ov_conv rfl Try.underlying3 Try.underlying37 rfl) <| rl_v rfl rfl rfl (ov_fieldS rfl Try.underlying25 rfl (fo := 0) rfl (by kernel_rfl) rfl) ?_
  refine rl_v rfl rfl rfl (ov_load rfl Try.underlying22 rfl rfl (by exact hOt.cellL 0 rfl (off := 0) rfl)) ?_
  refine rl_v rfl rfl rfl (ov_len rfl Try.underlying22 rfl) <| rl_v rfl rfl rfl (ov_conv rfl Try.underlying3 Try.underlying37 rfl) <| rl_v rfl rfl rfl (ov_rem rfl rfl rfl hx1 (by omega)) ?_
  refine rl_v rfl rfl rfl (ov_conv rfl Try.underlying37 Try.underlying3 rfl) <| rl_v rfl rfl rfl (ov_assign rfl rfl) <| rl_nil <| run_seq ?_
  rw [← hk]
  refine run_region <| rl_v rfl rfl rfl (ov_fieldS rfl Try.underlying25 rfl (fo := 0) rfl (by kernel_rfl) rfl) ?_
  refine rl_v rfl rfl rfl (ov_load rfl Try.underlying22 rfl rfl (by exact hOt.cellL 0 rfl (off := 0) rfl)) ?_
  refine rl_v rfl rfl rfl (ov_move rfl rfl) <| rl_v rfl rfl rfl (ov_index1 rfl Try.underlying22 (by kernel_rfl) rfl rfl ⟨by omega, by omega⟩ (by exact (id hgb'))) ?_
  refine rl_v rfl rfl rfl (ov_load rfl Try.underlying23 rfl rfl (by exact (IRow.cellA hv hOt 3 rfl hgb' (i := k) (by omega) (by omega)).trans (congrArg some erv))) ?_
  refine rl_v rfl rfl rfl (ov_assign rfl rfl) <| rl_nil <| run_seq <| run_region <| rl_v rfl rfl rfl (ov_loadW rfl Try.underlying25 rfl (by kernel_rfl) rfl hOt 0 rfl) ?_
  refine rl_call callable_12 rfl rfl rfl rfl rfl rfl (give5_any ga1 ba1 qa1 f.n gc1 f.m bc1 f.m qc1 _) (fun e18 w19 hp20 => ?_)
  obtain ⟨rfl, hbl1⟩ := hp20
  refine ⟨_, rfl, ?_⟩
  have hO21 := hOt.past hbl1
  refine rl_call callable_11 rfl rfl rfl rfl rfl rfl (growers_any ga1 ba1 qa1 gc1 bc1 qc1 f _ hV (hS0.at hO21)) (fun e22 w23 hp24 => ?_)
  obtain ⟨oa, l, rfl, hO2, hbest⟩ := hp24
  refine ⟨_, rfl, ?_⟩
  have hO25 := hO21.join hO2
  refine rl_v rfl rfl rfl (ov_move rfl rfl) <| rl_v rfl rfl rfl (ov_extract rfl rfl (by rfl)) ?_
  refine rl_v rfl rfl rfl (ov_extract rfl rfl (by rfl)) ?_
  refine rl_v rfl rfl rfl (ov_assign rfl rfl) <| rl_v rfl rfl rfl (ov_assign rfl rfl) <| rl_nil <| run_seq <| run_late (fun w' => Own w.heap.size w w' (some (vch oa 3 f.n (fun g => iv (l g))) :: some (lch b7 25 (fairL ga1 ba1 qa1 f.n gc1 f.m bc1 f.m qc1)) :: cq :: ch k :: co :: (((List.range f.n).erase k).map ch ++ (Hb ++ [some (lch b1 25 (fairL ga ba qa n gc m bc nq qc))])))) 13 mixed ?_
  have hO27 := hO25.drew
  generalize World.drew w23 = w26 at hO27 ⊢
  have hS28 : Own w.heap.size w w26 (some (vch oa 3 f.n (fun g => iv (l g))) :: some (lch b7 25 (fairL ga1 ba1 qa1 f.n gc1 f.m bc1 f.m qc1)) :: cq :: ch k :: co :: (((List.range f.n).erase k).map ch ++ (Hb ++ [some (lch b1 25 (fairL ga ba qa n gc m bc nq qc))]))) := by first | exact hO27 | exact hO27.tail
  refine rhl_v 0 rfl (by kernel_rfl) rfl rfl rfl hS28 (fun _ hS => ov_fieldS rfl Try.underlying25 rfl (fo := 0) rfl (by kernel_rfl) rfl) ?_
  refine rhl_v 1 rfl (by kernel_rfl) rfl rfl rfl hS28 (fun _ hS => ov_load rfl Try.underlying22 rfl rfl (by exact hS.cellL 1 rfl (off := 0) rfl)) ?_
  refine rhl_v 2 rfl (by kernel_rfl) rfl rfl rfl hS28 (fun _ hS => ov_move rfl rfl) ?_
  refine rhl_v 3 rfl (by kernel_rfl) rfl rfl rfl hS28 (fun _ hS => ov_move rfl rfl) ?_
  refine rhl_v 4 rfl (by kernel_rfl) rfl rfl rfl hS28 (fun _ hS => ov_move rfl rfl) ?_
  refine rhl_v 5 rfl (by kernel_rfl) rfl rfl rfl hS28 (fun _ hS => ov_len rfl Try.underlying23 rfl) ?_
  refine rhl_v 6 rfl (by kernel_rfl) rfl rfl rfl hS28 (fun _ hS => ov_min rfl rfl rfl) ?_
  refine rhl_v 7 rfl (by kernel_rfl) rfl rfl rfl hS28 (fun _ hS => ov_sliceH (min ln 12) (s := 1) rfl Try.underlying23 (by kernel_rfl) rfl rfl (by omega) (by omega)) ?_
  refine rhl_v 8 rfl (by kernel_rfl) rfl rfl rfl hS28 (fun _ hS => ov_fieldS rfl Try.underlying25 rfl (fo := 1) rfl (by kernel_rfl) rfl) ?_
  refine rhl_v 9 rfl (by kernel_rfl) rfl rfl rfl hS28 (fun _ hS => ov_load rfl Try.underlying22 rfl rfl (by exact hS.cellL 1 rfl (off := 1) rfl)) ?_
  refine rhl_v 10 rfl (by kernel_rfl) rfl rfl rfl hS28 (fun _ hS => ov_len rfl Try.underlying22 rfl) ?_
  refine rhl_any1 11 (by kernel_rfl) ?_
  refine rcl_op rfl rfl (ow_call2 callable_18 rfl rfl rfl rfl rfl (tidy5_any la (min ln 12) lc f.m lie _ (by omega) (by have := hV.sm.m; omega) ((hO27.iatF hl).take (by omega))) (by intro e w' hp; obtain ⟨v5, k5, X5, c5, rfl, hk5, hX5, hr5, hO5⟩ := hp; exact ⟨_, rfl⟩)) ?_
  rintro _ w31 ⟨_, v29, he32, rfl, hp30⟩
  obtain ⟨v5, k5, X5, c5, rfl, hk5, hX5, hr5, hO5⟩ := hp30
  injection he32 with he32; subst he32
  have hO33 := hO27.join hO5
  have hS34 : Own w.heap.size w w31 (some (vch oa 3 f.n (fun g => iv (l g))) :: some (lch b7 25 (fairL ga1 ba1 qa1 f.n gc1 f.m bc1 f.m qc1)) :: cq :: ch k :: co :: (((List.range f.n).erase k).map ch ++ (Hb ++ [some (lch b1 25 (fairL ga ba qa n gc m bc nq qc))]))) := by first | exact hO33 | exact hO33.tail
  refine ⟨hS34, ?_⟩
  obtain ⟨a5, cp5, rfl⟩ := Row.val hr5
  refine rhl_v 12 rfl (by kernel_rfl) rfl rfl rfl hS34 (fun _ hS => ov_index1 rfl Try.underlying22 (by kernel_rfl) rfl rfl ⟨by omega, by omega⟩ (by exact (id hgb'))) ?_
  refine rhl_any1 13 (by kernel_rfl) ?_
  refine rcl_last rfl rfl (ow_storeI1 rfl rfl (by kernel_rfl) hO33 5 hv rfl hgb rfl ⟨by omega, by omega⟩ rfl rfl) ?_
  rintro _ w35 ⟨c9, rfl, hO36, hv9, hs37⟩
  have hV' := hV.lie k (k := k5) (X := X5) (by omega) hX5
  have hS1 : FSrc (c5 :: some (vch oa 3 f.n (fun g => iv (l g))) :: some (lch b7 25 (fairL ga1 ba1 qa1 f.n gc1 f.m bc1 f.m qc1)) :: cq :: ch k :: c9 :: (((List.range f.n).erase k).map ch ++ (Hb ++ [some (lch b1 25 (fairL ga ba qa n gc m bc nq qc))]))) ga1 ba1 qa1 (f.lie k k5 X5) := FSrc.mk (f := f.lie k k5 X5) (rown_mem (T1 := 23) (T2 := 3) (.tail _ (.tail _ (.tail _ (.tail _ (.tail _ (.head _)))))) hv9 fun r hr => by
   by_cases e : r = k
   ·refine ⟨c5, .head _, ?_⟩
    rw [e, upd_same]
    have e1 : (f.lie k k5 X5).gl k = k5 := if_pos rfl
    rw [e1]
    exact hr5.congr fun i _ _ => (congrArg iv (show (f.lie k k5 X5).ge k i = X5 i from by unfold Fair.lie; simp)).symm
   ·refine ⟨ch r, .tail _ (.tail _ (.tail _ (.tail _ (.tail _ (.tail _ (mem_erase_map ch hr e)))))), ?_⟩
    rw [upd_ne _ _ (by omega)]
    have hne : ¬ (r : Int) = k := by omega
    have e1 : (f.lie k k5 X5).gl r = f.gl r := if_neg hne
    rw [e1]
    exact (h3 r hr).congr fun i _ _ => (congrArg iv (show (f.lie k k5 X5).ge r i = f.ge r i from by unfold Fair.lie; simp only [if_neg hne])).symm) hF.b (.cons _ (.cons _ (.cons _ (.cons _ (.cons _ (.cons _ ((List.sublist_append_left _ _).trans (List.sublist_append_right _ _)))))))) hF.q (.tail _ (.tail _ (.tail _ (.head _))))
  refine rhl_done (by kernel_rfl) ?_
  refine run_seq <| run_region <| rl_v rfl rfl rfl (ov_loadW rfl Try.underlying25 rfl (by kernel_rfl) rfl hO36 2 rfl) ?_
  refine rl_call callable_12 rfl rfl rfl rfl rfl rfl (give5_any ga1 ba1 qa1 f.n gc1 f.m bc1 f.m qc1 _) (fun e38 w39 hp40 => ?_)
  obtain ⟨rfl, hbl2⟩ := hp40
  refine ⟨_, rfl, ?_⟩
  have hO41 := hO36.past hbl2
  refine rl_call callable_11 rfl rfl rfl rfl rfl rfl (growers_any ga1 ba1 qa1 gc1 bc1 qc1 (f.lie k k5 X5) _ hV' (hS1.at hO41)) (fun e42 w43 hp44 => ?_)
  obtain ⟨ob, l2, rfl, hO6, hbest2⟩ := hp44
  refine ⟨_, rfl, ?_⟩
  have hO45 := hO41.join hO6
  refine rl_v rfl rfl rfl (ov_move rfl rfl) <| rl_v rfl rfl rfl (ov_extract rfl rfl (by rfl)) ?_
  refine rl_v rfl rfl rfl (ov_extract rfl rfl (by rfl)) ?_
  refine rl_v rfl rfl rfl (ov_assign rfl rfl) <| rl_v rfl rfl rfl (ov_assign rfl rfl) <| rl_nil <| run_seq <| run_seq <| run_region <| rl_v rfl rfl rfl (ov_move rfl rfl) <| rl_v rfl rfl rfl (ov_neq rfl rfl rfl) <| rl_v rfl rfl rfl (ov_move rfl rfl) ?_
  first | refine rl_noD 64 rfl (fun h => h rfl) ?_ | refine rl_no 64 rfl (fun h => h rfl) ?_
  refine rl_gv rfl rfl rfl rfl rfl (ov_move rfl rfl) <| rl_gv rfl rfl rfl rfl rfl (ov_neq rfl rfl rfl) <| rl_v rfl rfl rfl (ov_pick_f rfl rfl rfl) <| rl_v rfl rfl rfl (ov_move rfl rfl) ?_
  first | refine rl_noD 68 rfl (fun h => h rfl) ?_ | refine rl_no 68 rfl (fun h => h rfl) ?_
  refine rl_gv rfl rfl rfl rfl rfl (ov_move rfl rfl) <| rl_gv rfl rfl rfl rfl rfl (ov_len rfl Try.underlying23 rfl) <| rl_gv rfl rfl rfl rfl rfl (ov_move rfl rfl) <| rl_gv rfl rfl rfl rfl rfl (ov_len rfl Try.underlying23 rfl) <| rl_gv rfl rfl rfl rfl rfl (ov_neq rfl rfl rfl) <| rl_v rfl rfl rfl (ov_pick_f rfl rfl rfl) <| rl_v rfl rfl rfl (ov_move rfl rfl) ?_
  first | refine rl_noD 75 rfl (fun h => h rfl) ?_ | refine rl_no 75 rfl (fun h => h rfl) ?_
  refine rl_gv rfl rfl rfl rfl rfl (ov_move rfl rfl) <| rl_gv rfl rfl rfl rfl rfl (ov_len rfl Try.underlying23 rfl) <| rl_gv rfl rfl rfl rfl rfl (ov_move rfl rfl) <| rl_gv rfl rfl rfl rfl rfl (ov_leq rfl rfl rfl) <| rl_v rfl rfl rfl (ov_pick_f rfl rfl rfl) <| rl_nil ?_
  first | refine run_cond_dec rfl (fun c1 => ?_) (fun c1 => ?_) | refine run_cond rfl (fun c1 => ?_) (fun c1 => ?_)
  ·exfalso; have h : (f.n : Int) ≤ (k : Int) := c1; omega
  ·have hglk := hV.sm.gl k (by omega) (by omega)
   refine run_skip <| run_seq <| run_region <| rl_v rfl rfl rfl (ov_move rfl rfl) <| rl_v rfl rfl rfl (ov_len rfl Try.underlying23 rfl) <| rl_v rfl rfl rfl (ov_assign rfl rfl) <| rl_nil <| run_seq <| run_region <| rl_v rfl rfl rfl (ov_move rfl rfl) <| rl_v rfl rfl rfl (ov_move rfl rfl) <| rl_v rfl rfl rfl (ov_add rfl rfl rfl (by omega)) ?_
   refine rl_v rfl rfl rfl (ov_assign rfl rfl) <| rl_v rfl rfl rfl (ov_assign rfl rfl) <| rl_nil <| run_seq <| run_seq <| run_region <| rl_v rfl rfl rfl (ov_move rfl rfl) <| rl_v rfl rfl rfl (ov_move rfl rfl) <| rl_v rfl rfl rfl (ov_index1 rfl Try.underlying23 (by kernel_rfl) rfl rfl ⟨by omega, by omega⟩ (by rfl)) ?_
   refine rl_v rfl rfl rfl (ov_load rfl Try.underlying3 rfl rfl (by exact hO45.cellI 2 rfl _ (by omega) (by omega))) ?_
   refine rl_v rfl rfl rfl (ov_geq rfl rfl rfl) <| rl_nil <| Run.keep [8, 9, 10, 12, 14, 15, 16, 90] (F' := [(8, _), (9, _), (10, _), (12, _), (14, _), (15, _), (16, _), (90, _)]) rfl <| run_join1 (fun (x : Int) => [(15, .int .i64 x)]) [8, 9, 12, 14, 16] (fun (x : Int) (w46 : World) => (0 ≤ l k ∧ x = f.rg k (l k) ∨ l k < 0 ∧ x = f.gl k) ∧ Own w.heap.size w w46 (some (vch ob 3 f.n (fun g => iv (l2 g))) :: c5 :: some (vch oa 3 f.n (fun g => iv (l g))) :: some (lch b7 25 (fairL ga1 ba1 qa1 f.n gc1 f.m bc1 f.m qc1)) :: cq :: ch k :: c9 :: (((List.range f.n).erase k).map ch ++ (Hb ++ [some (lch b1 25 (fairL ga ba qa n gc m bc nq qc))])))) (fun hk47 => ?_) ?_
   ·first | refine run_cond_dec rfl (fun c2 => ?_) (fun c2 => ?_) | refine run_cond rfl (fun c2 => ?_) (fun c2 => ?_)
    ·refine run_region <| rl_v rfl rfl rfl (ov_move rfl rfl) <| rl_v rfl rfl rfl (ov_move rfl rfl) <| rl_v rfl rfl rfl (ov_move rfl rfl) <| rl_v rfl rfl rfl (ov_index1 rfl Try.underlying23 (by kernel_rfl) rfl rfl ⟨by omega, by omega⟩ (by rfl)) ?_
     refine rl_v rfl rfl rfl (ov_load rfl Try.underlying3 rfl rfl (by exact hO45.cellI 2 rfl _ (by omega) (by omega))) ?_
     refine rl_call callable_19 rfl rfl rfl rfl rfl rfl (rank5_any ra (f.gl k) rc (f.ge k) (l k) _ (by omega) (h3k.reads hO45 5 rfl)) (fun e48 w49 hp50 => ?_)
     obtain ⟨rfl, hb3⟩ := hp50
     refine ⟨_, rfl, ?_⟩
     have hO51 := hO45.past hb3
     refine rl_v rfl rfl rfl (ov_assign rfl rfl) <| rl_nil ?_
     refine Run.use (hk47 (f.rg k (l k)) _ ?_) (And.intro (by rfl) (And.intro rfl (And.intro rfl (And.intro rfl (And.intro rfl (And.intro rfl trivial))))))
     exact ⟨.inl ⟨by omega, rfl⟩, hO51⟩
    ·refine run_skip ?_
     refine Run.use (hk47 (f.gl k) _ ?_) (And.intro (by exact slot_int rfl (by first | omega)) (And.intro rfl (And.intro rfl (And.intro rfl (And.intro rfl (And.intro rfl trivial))))))
     exact ⟨.inr ⟨by omega, rfl⟩, hO45⟩
   ·intro x w46 hJw46
    obtain ⟨hx, hO7⟩ := hJw46
    show Run _ _ _ _ [(15, _), (8, _), (9, _), (12, _), (14, _), (16, _)] _ _
    refine run_seq <| Run.keep [8, 9, 12, 14, 15, 16] (F' := [(8, _), (9, _), (12, _), (14, _), (15, _), (16, _)]) rfl <| run_join1 (fun (y : Int) => [(16, .int .i64 y)]) [15] (fun (y : Int) (w52 : World) => (y = f.gl k ∨ y = f.gl k + 1 ∨ 0 ≤ l2 k ∧ f.rg k (l2 k) < f.gl k ∧ y = f.rg k (l2 k)) ∧ Own w.heap.size w w52 (some (vch ob 3 f.n (fun g => iv (l2 g))) :: c5 :: some (vch oa 3 f.n (fun g => iv (l g))) :: some (lch b7 25 (fairL ga1 ba1 qa1 f.n gc1 f.m bc1 f.m qc1)) :: cq :: ch k :: c9 :: (((List.range f.n).erase k).map ch ++ (Hb ++ [some (lch b1 25 (fairL ga ba qa n gc m bc nq qc))])))) (fun hk53 => ?_) ?_
    ·refine run_block <| run_seq <| run_region <| rl_v rfl rfl rfl (ov_move rfl rfl) <| rl_v rfl rfl rfl (ov_move rfl rfl) <| rl_v rfl rfl rfl (ov_index1 rfl Try.underlying23 (by kernel_rfl) rfl rfl ⟨by omega, (show (k : Int) < f.n from by omega)⟩ (by rfl)) ?_
     refine rl_v rfl rfl rfl (ov_load rfl Try.underlying3 rfl rfl (by exact hO7.cellI 0 rfl _ (by omega) (show (k : Int) < f.n from by omega))) ?_
     refine rl_v rfl rfl rfl (ov_lss rfl rfl rfl) <| rl_v rfl rfl rfl (ov_assign rfl rfl) <| rl_nil ?_
     first | refine run_cond_dec rfl (fun c3 => ?_) (fun c3 => ?_) | refine run_cond rfl (fun c3 => ?_) (fun c3 => ?_)
     ·refine run_region <| rl_v rfl rfl rfl (ov_move rfl rfl) <| rl_v rfl rfl rfl (ov_assign rfl rfl) <| rl_nil <| run_inBlock ?_
      refine Run.use (hk53 (f.gl k) _ ?_) (And.intro (by exact slot_int rfl (by first | omega)) (And.intro rfl trivial))
      exact ⟨.inl rfl, hO7⟩
     ·refine run_seq <| run_region <| rl_v rfl rfl rfl (ov_move rfl rfl) <| rl_v rfl rfl rfl (ov_move rfl rfl) <| rl_v rfl rfl rfl (ov_move rfl rfl) <| rl_v rfl rfl rfl (ov_index1 rfl Try.underlying23 (by kernel_rfl) rfl rfl ⟨by omega, (show (k : Int) < f.n from by omega)⟩ (by rfl)) ?_
      refine rl_v rfl rfl rfl (ov_load rfl Try.underlying3 rfl rfl (by exact hO7.cellI 0 rfl _ (by omega) (show (k : Int) < f.n from by omega))) ?_
      refine rl_call callable_19 rfl rfl rfl rfl rfl rfl (rank5_any ra (f.gl k) rc (f.ge k) (l2 k) _ (by omega) (h3k.reads hO7 5 rfl)) (fun e54 w55 hp56 => ?_)
      obtain ⟨rfl, hb4⟩ := hp56
      refine ⟨_, rfl, ?_⟩
      have hO57 := hO7.past hb4
      refine rl_v rfl rfl rfl (ov_move rfl rfl) <| rl_v rfl rfl rfl (ov_lss rfl rfl rfl) <| rl_v rfl rfl rfl (ov_assign rfl rfl) <| rl_nil ?_
      first | refine run_cond_dec rfl (fun c4 => ?_) (fun c4 => ?_) | refine run_cond rfl (fun c4 => ?_) (fun c4 => ?_)
      ·refine run_region <| rl_v rfl rfl rfl (ov_move rfl rfl) <| rl_v rfl rfl rfl (ov_move rfl rfl) <| rl_v rfl rfl rfl (ov_move rfl rfl) <| rl_v rfl rfl rfl (ov_index1 rfl Try.underlying23 (by kernel_rfl) rfl rfl ⟨by omega, (show (k : Int) < f.n from by omega)⟩ (by rfl)) ?_
       refine rl_v rfl rfl rfl (ov_load rfl Try.underlying3 rfl rfl (by exact hO57.cellI 0 rfl _ (by omega) (show (k : Int) < f.n from by omega))) ?_
       refine rl_call callable_19 rfl rfl rfl rfl rfl rfl (rank5_any ra (f.gl k) rc (f.ge k) (l2 k) _ (by omega) (h3k.reads hO57 5 rfl)) (fun e58 w59 hp60 => ?_)
       obtain ⟨rfl, hb5⟩ := hp60
       refine ⟨_, rfl, ?_⟩
       have hO61 := hO57.past hb5
       refine rl_v rfl rfl rfl (ov_assign rfl rfl) <| rl_nil <| run_inBlock ?_
       refine Run.use (hk53 (f.rg k (l2 k)) _ ?_) (And.intro (by rfl) (And.intro rfl trivial))
       exact ⟨.inr (.inr ⟨by omega, c4, rfl⟩), hO61⟩
      ·refine run_skip <| run_inBlock ?_
       refine Run.use (hk53 (f.gl k + 1) _ ?_) (And.intro (by exact slot_int rfl (by first | omega)) (And.intro rfl trivial))
       exact ⟨.inr (.inl rfl), hO57⟩
    ·intro y w52 hJw52
     obtain ⟨hy, hO8⟩ := hJw52
     show Run _ _ _ _ [(16, _), (15, _)] _ _
     have hxy : x ≤ y := by
      have h1 := (rk_rng (f.ge k) (l k) (f.gl k)).2
      unfold Fair.rg at hx hy
      rcases hy with hy | hy | ⟨p1, p2, p3⟩
      ·omega
      ·omega
      ·obtain ⟨q1, q2⟩ := Fair.truth hV.ok (g := k) (by omega) (by omega) hbest hbest2 p1 p2
       have h2 := hbest.stab.rng k (by omega) (by omega)
       unfold Fair.rg at q2
       omega
     refine run_seq <| run_region <| rl_v rfl rfl rfl (ov_move rfl rfl) <| rl_v rfl rfl rfl (ov_move rfl rfl) <| rl_v rfl rfl rfl (ov_geq rfl rfl rfl) <| rl_v rfl rfl rfl (ov_move rfl rfl) <| rl_known 122 rfl (hxy) ?_
     refine rl_gcall callable_17 rfl rfl rfl rfl rfl rfl rfl rfl (awake5_any sortRows_all _) (fun e62 w63 hp64 => ?_)
     obtain ⟨rfl, hb9⟩ := hp64
     refine ⟨_, rfl, ?_⟩
     have hO65 := hO8.past hb9
     refine rl_v rfl rfl rfl (ov_pick_t rfl rfl rfl) <| rl_v rfl rfl rfl (ov_assign rfl rfl) <| rl_nil <| run_ret Try.func4 (res1 Try.results4 rfl) ?_
     exact ⟨rfl, hO65.below⟩
end Go.Proofs.Ytlldeifbfpmbaaa
