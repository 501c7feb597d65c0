import Derived.Test.YtbepolognfdkeaaGreatSri
import Derived.Test.YtbepolognfdkeaaGreatFbF
import Derived.Test.YtbepolognfdkeaaGreatGaF
set_option maxRecDepth 100000
namespace Go.Proofs.YtbepolognfdkeaaGreat
open Go.RowKit Go.Proofs
structure Net.Sm (G : Net) : Prop where
 nn : G.nn ≤ 100000
 np : G.np ≤ 1000000
 cp : ∀ j : Int, 0 ≤ j → j < G.np → G.CP j ≤ 1000000000000000
 ol : ∀ v : Int, 0 ≤ v → v < G.nn → G.OL v ≤ 2000000
def pipF (G : Net) (L : Int → Int) : Int → List Value := fun e => [iv (G.TO e), iv (L e)]
abbrev wkL (la : Option Addr) (n lc : Nat) (sa : Option Addr) (m sc : Nat) (pa : Option Addr) (np pc : Nat) (oa : Option Addr) (nn oc : Nat) (fl : Int) : List Value := [.slice la n lc, .slice sa m sc, .slice pa np pc, .slice oa nn oc, iv fl]
structure WkAt (B : Nat) (w : World) (wb : Nat) (G : Net) (L : Int → Int) (la : Option Addr) (n lc : Nat) (sa : Option Addr) (m sc : Nat) (pa : Option Addr) (pc : Nat) (oa : Option Addr) (oc : Nat) (fl : Int) : Prop where
 lat : LAt B w wb (wkL la n lc sa m sc pa (2 * G.np) pc oa G.nn oc fl)
 pip : SAt B w pa 2 (2 * G.np) (pipF G L)
 out : ITab B w oa G.nn G.OL (fun v k => iv (G.OE v k))
set_option maxHeartbeats 2000000 in
theorem reached_any (wb : Nat) (G : Net) (L : Int → Int) (la : Option Addr) (n lc : Nat) (sa : Option Addr) (m sc : Nat) (pa : Option Addr) (pc : Nat) (oa : Option Addr) (oc : Nat) (fl : Int) (w : World) (hG : G.Ok) (hs : G.Sm) (hW : WkAt w.heap.size w wb G L la n lc sa m sc pa pc oa oc fl) :
  Calls Tryz.prog 30 #[ptr wb] w fun e w' => ∃ (ob : Nat) (LV : Int → Int), e = .returned (.slice (some ⟨ob, 0, none⟩) G.nn G.nn) ∧ Own w.heap.size w w' [some (vch ob 3 G.nn (fun v => iv (LV v)))] ∧ G.Lev L LV := by
 have hll := hW.lat.open
 obtain ⟨pb, po, hpa, hpr⟩ := hW.pip.open (by decide)
 obtain ⟨A, C, RB, RO, gb, go, hga, hrow, hra, hel, hcan⟩ := hW.out.open
 have h2 := hG.n2
 have hnn := hs.nn
 have hnp := hs.np
 refine calls_of_run (F := [(0, _)]) Tryz.func30 rfl Tryz.ntmps30 rfl rfl ?_
 have hO0 := Own.init w
 refine run_seq <| run_region <| rl_v rfl rfl rfl (ov_assign rfl rfl) <| rl_nil <| run_seq <| run_region <| rl_ow rfl (ow_one rfl rfl rfl Tryz.underlying36 info_3 rfl hO0 rfl rfl) ?_
 rintro _ w1 ⟨b9, rfl, hO2, hs3⟩
 refine rl_v rfl rfl rfl (ov_move rfl rfl) <| rl_v rfl rfl rfl (ov_nil rfl rfl) <| rl_v rfl rfl rfl (ov_fieldS rfl Tryz.underlying71 rfl (fo := 3) rfl (by kernel_rfl) rfl) ?_
 refine rl_v rfl rfl rfl (ov_load rfl Tryz.underlying69 rfl rfl (by exact hll _ hO2.below rfl)) ?_
 refine rl_v rfl rfl rfl (ov_len rfl Tryz.underlying69 rfl) ?_
 refine rl_call callable_62 rfl rfl rfl rfl rfl rfl (repeatR'_any _ _ G.nn (-1) _ (by omega) (hO2.readsI 0 rfl)) (fun e4 w5 hp6 => ?_)
 obtain ⟨lb, rfl, hO1⟩ := hp6
 refine ⟨_, rfl, ?_⟩
 have hO7 := hO2.join hO1
 refine rl_v rfl rfl rfl (ov_assign rfl rfl) <| rl_nil <| run_seq <| run_region <| rl_v rfl rfl rfl (ov_move rfl rfl) <| rl_v rfl rfl rfl (ov_index1 rfl Tryz.underlying36 (by kernel_rfl) rfl rfl ⟨by omega, by omega⟩ rfl) ?_
 refine rl_ow rfl (ow_storeI rfl rfl (by kernel_rfl) hO7 0 rfl rfl ⟨by omega, by omega⟩ rfl) ?_
 rintro _ w8 ⟨rfl, hO9, hs10⟩
 refine rl_nil <| run_seq <| run_region <| rl_ow rfl (ow_one rfl rfl rfl Tryz.underlying36 info_3 rfl hO9 rfl rfl) ?_
 rintro _ w11 ⟨qb, rfl, hO12, hs13⟩
 refine rl_v rfl rfl rfl (ov_assign rfl rfl) <| rl_nil <| run_seq <| run_seq <| run_region <| rl_v rfl rfl rfl (ov_assign rfl rfl) <| rl_nil <| run_block <| Run.keep [0, 3, 4, 5] (F' := [(0, _), (3, _), (4, _), (5, _)]) rfl <| run_loop4 (fun (i : Int) (q : Nat) (qa : Option Addr) (qc : Nat) => [(5, .int .i64 i), (4, .slice qa q qc)]) [0, 3] (fun (i : Int) (q : Nat) (qa : Option Addr) (qc : Nat) (w14 : World) => 0 ≤ i ∧ i ≤ q ∧ ∃ (LV Q : Int → Int) (c : Option Blk), G.Bfs L LV Q q i 0 ∧ IRow (.slice qa q qc) 3 q (fun j => iv (Q j)) c ∧ Own w.heap.size w w14 [c, some (vch lb 3 G.nn (fun v => iv (LV v)))]) (fun (i : Int) (q : Nat) (qa : Option Addr) (qc : Nat) => ((G.nn : Int) - i).toNat) (0) (1) (some ⟨qb, 0, none⟩) (1) ?_ (And.intro (by exact slot_int rfl (by first | omega)) (And.intro rfl (And.intro rfl (And.intro rfl trivial)))) ?_
 ·exact ⟨Int.le_refl _, by omega, _, fun _ => 0, some (vch qb 3 1 (fun _ => iv 0)), Net.Bfs.init hG, IRow.ofV (Nat.le_refl _) (by decide) fun _ _ _ => rfl, (hO12.congrI 1 rfl (G' := fun v => iv (upd (fun _ => (-1 : Int)) 0 0 v)) fun v _ _ => by unfold upd; split <;> rfl).sub (.cons_cons _ (.cons_cons _ (List.nil_sublist _)))⟩
 intro i q qa qc w14 hIw14 ih15
 obtain ⟨hi0, hi1, LV, Q, c, hB, hr, hO⟩ := hIw14
 show Run _ _ _ _ [(5, _), (4, _), (0, _), (3, _)] _ _
 have hle := hB.le
 refine run_seq <| run_seq <| run_region <| rl_v rfl rfl rfl (ov_move rfl rfl) <| rl_v rfl rfl rfl (ov_move rfl rfl) <| rl_v rfl rfl rfl (ov_len rfl Tryz.underlying36 rfl) <| rl_v rfl rfl rfl (ov_lss rfl rfl rfl) <| rl_nil ?_
 first | refine run_cond_dec rfl (fun c1 => ?_) (fun c1 => ?_) | refine run_cond rfl (fun c1 => ?_) (fun c1 => ?_)
 ·obtain ⟨qb', hqa, hqr⟩ := hr.openS hO 0 rfl
  obtain ⟨v0, hv0⟩ : ∃ v0, v0 = Q i := ⟨_, rfl⟩
  have hqi := hB.qr i hi0 c1
  rw [← hv0] at hqi
  have holv := hs.ol v0 (by omega) (by omega)
  refine run_skip <| run_seq <| run_block <| run_seq <| run_quiet mixed (by kernel_rfl) ?_
  refine rq_v rfl rfl rfl (fun _ => ov_move rfl rfl) ?_
  refine rq_v rfl rfl rfl (fun _ => ov_nil rfl rfl) ?_
  refine rq_v rfl rfl rfl (fun _ => ov_fieldS rfl Tryz.underlying71 rfl (fo := 3) rfl (by kernel_rfl) rfl) ?_
  refine rq_v rfl rfl rfl (fun _ => ov_load rfl Tryz.underlying69 rfl rfl (by show World.cell? w14 _ = _; first | exact hll _ hO.below rfl | exact hO.cellI 0 rfl _ (by omega) (by omega) | exact hO.cellL 0 rfl rfl | exact hO.cellI 1 rfl _ (by omega) (by omega) | exact hO.cellL 1 rfl rfl | exact hO.cellI 2 rfl _ (by omega) (by omega) | exact hO.cellL 2 rfl rfl | exact hO.cellI 3 rfl _ (by omega) (by omega) | exact hO.cellL 3 rfl rfl | exact hO.cellI 4 rfl _ (by omega) (by omega) | exact hO.cellL 4 rfl rfl | exact hO.cellI 5 rfl _ (by omega) (by omega) | exact hO.cellL 5 rfl rfl)) ?_
  refine rq_v rfl rfl rfl (fun _ => ov_move rfl rfl) ?_
  refine rq_v rfl rfl rfl (fun _ => ov_move rfl rfl) ?_
  refine rq_v rfl rfl rfl (fun _ => ov_index1 rfl Tryz.underlying36 (by kernel_rfl) rfl rfl ⟨by omega, by omega⟩ (by exact hqa (by omega))) ?_
  refine rq_v rfl rfl rfl (fun _ => ov_load rfl Tryz.underlying3 rfl rfl (by show World.cell? w14 _ = _; first | exact (hqr i hi0 c1).trans (congrArg some (congrArg iv hv0.symm)))) ?_
  refine rq_v rfl rfl rfl (fun _ => ov_index1 rfl Tryz.underlying69 (by kernel_rfl) rfl rfl ⟨by omega, by omega⟩ (by exact hga (by omega))) ?_
  refine rq_v rfl rfl rfl (fun _ => ov_load rfl Tryz.underlying36 rfl rfl (by show World.cell? w14 _ = _; first | exact hrow _ hO.below v0 (by omega) (by omega))) ?_
  refine rq_v rfl rfl rfl (fun _ => ov_len rfl Tryz.underlying36 rfl) ?_
  refine rq_v rfl rfl rfl (fun _ => ov_move rfl rfl) ?_
  refine rq_nil (fun n16 => ?_)
  have hO18 := hO.drewN n16
  generalize World.drewN w14 n16 = w17 at hO18 ⊢
  refine run_block <| Run.keep [0, 3, 4, 5, 34, 35, 36] (F' := [(0, _), (3, _), (4, _), (5, _), (34, _), (35, _), (36, _)]) rfl <| run_loop4 (fun (k : Int) (q2 : Nat) (qa2 : Option Addr) (qc2 : Nat) => [(36, .int .i64 k), (4, .slice qa2 q2 qc2)]) [0, 3, 5, 34, 35] (fun (k : Int) (q2 : Nat) (qa2 : Option Addr) (qc2 : Nat) (w19 : World) => 0 ≤ k ∧ k ≤ G.OL v0 ∧ i < q2 ∧ ∃ (LV2 Q2 : Int → Int) (c2 : Option Blk), Q2 i = v0 ∧ G.Bfs L LV2 Q2 q2 i k ∧ IRow (.slice qa2 q2 qc2) 3 q2 (fun j => iv (Q2 j)) c2 ∧ Own w.heap.size w w19 [c2, some (vch lb 3 G.nn (fun v => iv (LV2 v)))]) (fun (k : Int) (q2 : Nat) (qa2 : Option Addr) (qc2 : Nat) => ((G.OL v0 : Int) - k).toNat) (0) (q) (qa) (qc) ?_ (And.intro (by exact slot_int rfl (by first | omega)) (And.intro rfl (And.intro rfl (And.intro rfl (And.intro rfl (And.intro rfl (And.intro rfl trivial))))))) ?_
  ·exact ⟨Int.le_refl _, by omega, c1, LV, Q, c, hv0.symm, hB, hr, hO18⟩
  intro k q2 qa2 qc2 w19 hIw19 ih20
  obtain ⟨hk0, hk1, hiq, LV2, Q2, c2, hQ2, hB2, hr2, hO2⟩ := hIw19
  show Run _ _ _ _ [(36, _), (4, _), (0, _), (3, _), (5, _), (34, _), (35, _)] _ _
  have hle2 := hB2.le
  refine run_seq <| run_region <| rl_v rfl rfl rfl (ov_lss rfl rfl rfl) <| rl_nil <| run_seq ?_
  first | refine run_cond_dec rfl (fun c3 => ?_) (fun c3 => ?_) | refine run_cond rfl (fun c3 => ?_) (fun c3 => ?_)
  ·have hout := hG.out v0 k hqi.1.1 hqi.1.2 hk0 c3
   obtain ⟨e0, he0⟩ : ∃ e0, e0 = G.OE v0 k := ⟨_, rfl⟩
   rw [← he0] at hout
   have hto := hG.to e0 hout.1.1 hout.1.2
   refine run_skip <| run_seq <| run_block <| run_seq <| run_region <| rl_v rfl rfl rfl (ov_index1 rfl Tryz.underlying36 (by kernel_rfl) rfl rfl ⟨by omega, by omega⟩ (by exact (hra v0 (by omega) (by omega) (by omega)))) ?_
   refine rl_v rfl rfl rfl (ov_load rfl Tryz.underlying3 rfl rfl (by exact (hel _ hO2.below v0 (by omega) (by omega) k hk0 c3).trans (congrArg some (congrArg iv he0.symm)))) ?_
   refine rl_v rfl rfl rfl (ov_assign rfl rfl) <| rl_nil <| run_seq <| run_region <| rl_v rfl rfl rfl (ov_move rfl rfl) <| rl_v rfl rfl rfl (ov_nil rfl rfl) <| rl_v rfl rfl rfl (ov_fieldS rfl Tryz.underlying71 rfl (fo := 2) rfl (by kernel_rfl) rfl) ?_
   refine rl_v rfl rfl rfl (ov_load rfl Tryz.underlying68 rfl rfl (by exact hll _ hO2.below rfl)) ?_
   refine rl_v rfl rfl rfl (ov_move rfl rfl) <| rl_v rfl rfl rfl (ov_index rfl Tryz.underlying68 (by kernel_rfl) (s := 2) rfl rfl ⟨by omega, by omega⟩ (by exact hpa (by omega))) ?_
   refine rl_v rfl rfl rfl (ov_loadE rfl Tryz.underlying118 rfl (by kernel_rfl) rfl ⟨by omega, by omega⟩ rfl (hpr _ hO2.below)) ?_
   refine rl_ow rfl (ow_alloc _ rfl rfl rfl zero_118 rfl hO2) ?_
   rintro _ w21 ⟨b8, rfl, hO22, hs23⟩
   refine rl_ow rfl (ow_storeW rfl rfl (by kernel_rfl) hO22 0 rfl rfl (by rfl) rfl (by rfl)) ?_
   rintro _ w24 ⟨rfl, hO25, hs26⟩
   refine rl_nil <| run_seq <| run_region_join 57 (.bool (decide (0 < L e0 ∧ LV2 (G.TO e0) < 0))) [0, 3, 4, 5, 8, 34, 35, 36] (fun hk27 => ?_) ?_
   ·refine rl_v rfl rfl rfl (ov_fieldS rfl Tryz.underlying118 rfl (fo := 1) rfl (by kernel_rfl) rfl) ?_
    refine rl_v rfl rfl rfl (ov_load rfl Tryz.underlying3 rfl rfl (by exact hO25.cellL 0 rfl (off := 1) rfl)) ?_
    refine rl_v rfl rfl rfl (ov_gtr rfl rfl rfl) <| rl_v rfl rfl rfl (ov_move rfl rfl) ?_
    first | refine rl_split_dec 50 rfl (fun hg28 => ?_) (fun hg28 => ?_) | refine rl_split 50 rfl (fun hg28 => ?_) (fun hg28 => ?_)
    ·refine rl_gv rfl rfl rfl rfl rfl (ov_move rfl rfl) <| rl_gv rfl rfl rfl rfl rfl (ov_fieldS rfl Tryz.underlying118 rfl (fo := 0) rfl (by kernel_rfl) rfl) ?_
     refine rl_gv rfl rfl rfl rfl rfl (ov_load rfl Tryz.underlying3 rfl rfl (by exact hO25.cellL 0 rfl (off := 0) rfl)) ?_
     refine rl_gv rfl rfl rfl rfl rfl (ov_index1 rfl Tryz.underlying36 (by kernel_rfl) rfl rfl ⟨by omega, by omega⟩ (by rfl)) ?_
     refine rl_gv rfl rfl rfl rfl rfl (ov_load rfl Tryz.underlying3 rfl rfl (by exact hO25.cellI 2 rfl (G.TO e0) hto.1 hto.2)) ?_
     refine rl_gv rfl rfl rfl rfl rfl (ov_lss rfl rfl rfl) <| rl_v rfl rfl rfl (ov_pick_t rfl rfl rfl) ?_
     refine rl_nil (hk27 _ (jbd rfl (by omega)) (And.intro rfl (And.intro rfl (And.intro rfl (And.intro rfl (And.intro rfl (And.intro rfl (And.intro rfl (And.intro rfl trivial)))))))))
    ·refine rl_gskip rfl rfl rfl rfl rfl rfl <| rl_gskip rfl rfl rfl rfl rfl rfl <| rl_gskip rfl rfl rfl rfl rfl rfl <| rl_gskip rfl rfl rfl rfl rfl rfl <| rl_gskip rfl rfl rfl rfl rfl rfl <| rl_gskip rfl rfl rfl rfl rfl rfl <| rl_v rfl rfl rfl (ov_pick_f rfl rfl rfl) ?_
     refine rl_nil (hk27 _ (jbf rfl (by omega)) (And.intro rfl (And.intro rfl (And.intro rfl (And.intro rfl (And.intro rfl (And.intro rfl (And.intro rfl (And.intro rfl trivial)))))))))
   ·show Run _ _ _ _ [(57, _), (0, _), (3, _), (4, _), (5, _), (8, _), (34, _), (35, _), (36, _)] _ _
    first | refine run_cond_dec rfl (fun c4 => ?_) (fun c4 => ?_) | refine run_cond rfl (fun c4 => ?_) (fun c4 => ?_)
    ·have hqi2 := hB2.qr i hi0 hiq
     rw [hQ2] at hqi2
     obtain ⟨qb2, hqa2⟩ := hr2.addr
     have hqa2' := hqa2 (by omega)
     refine run_seq <| run_tail 12 mixed (by kernel_rfl) ?_
     have hO30 := hO25.drew
     generalize World.drew w24 = w29 at hO30 ⊢
     refine rt_v rfl rfl rfl (ov_move rfl rfl) <| rt_v rfl rfl rfl (ov_fieldS rfl Tryz.underlying118 rfl (fo := 0) rfl (by kernel_rfl) rfl) ?_
     refine rt_v rfl rfl rfl (ov_load rfl Tryz.underlying3 rfl rfl (by exact hO30.cellL 0 rfl (off := 0) rfl)) ?_
     refine rt_v rfl rfl rfl (ov_move rfl rfl) <| rt_v rfl rfl rfl (ov_move rfl rfl) <| rt_v rfl rfl rfl (ov_move rfl rfl) <| rt_v rfl rfl rfl (ov_index1 rfl Tryz.underlying36 (by kernel_rfl) rfl rfl ⟨by omega, by omega⟩ (by exact (id hqa2'))) ?_
     refine rt_v rfl rfl rfl (ov_load rfl Tryz.underlying3 rfl rfl (by exact (hr2.cellU hO30 1 rfl hqa2' hi0 hiq).trans (congrArg some (congrArg iv hQ2)))) ?_
     refine rt_v rfl rfl rfl (ov_index1 rfl Tryz.underlying36 (by kernel_rfl) rfl rfl ⟨by omega, by omega⟩ (by rfl)) ?_
     refine rt_v rfl rfl rfl (ov_load rfl Tryz.underlying3 rfl rfl (by exact hO30.cellI 2 rfl v0 hqi.1.1 hqi.1.2)) ?_
     refine rt_v rfl rfl rfl (ov_add rfl rfl rfl (by omega)) ?_
     refine rt_v rfl rfl rfl (ov_index1 rfl Tryz.underlying36 (by kernel_rfl) rfl rfl ⟨by omega, by omega⟩ (by rfl)) ?_
     refine rt_nil <| rl_ow rfl (ow_storeI rfl rfl (by kernel_rfl) hO30 2 rfl rfl ⟨by omega, by omega⟩ rfl) ?_
     rintro _ w31 ⟨rfl, hO32, hs33⟩
     refine rl_nil <| run_region <| rl_v rfl rfl rfl (ov_move rfl rfl) <| rl_v rfl rfl rfl (ov_fieldS rfl Tryz.underlying118 rfl (fo := 0) rfl (by kernel_rfl) rfl) ?_
     refine rl_v rfl rfl rfl (ov_load rfl Tryz.underlying3 rfl rfl (by exact hO32.cellL 0 rfl (off := 0) rfl)) ?_
     refine rl_appI rfl rfl rfl rfl rfl rfl rfl rfl Tryz.underlying36 info_3 rfl hO32 1 hr2 rfl rfl rfl ⟨by omega, by omega⟩ (fun v7 c7 w34 hO35 hr7 hs36 => ?_)
     obtain ⟨qa7, qc7, rfl⟩ := Row.val hr7
     have hT := Net.Bfs.take hG hB2 hi0 hiq hk0 (by rw [hQ2]; exact c3) (by rw [hQ2, ← he0]; exact c4.1) (by rw [hQ2, ← he0]; exact c4.2)
     rw [hQ2, ← he0] at hT
     refine rl_v rfl rfl rfl (ov_assign rfl rfl) <| rl_nil <| run_inBlock <| run_region <| rl_v rfl rfl rfl (ov_add rfl rfl rfl (by omega)) ?_
     refine rl_v rfl rfl rfl (ov_move rfl rfl) <| rl_nil ?_
     refine Run.use (ih20 (k + 1) (q2 + 1) (qa7) (qc7) _ ?_ ?_) (And.intro (by exact slot_int rfl (by first | omega)) (And.intro rfl (And.intro rfl (And.intro rfl (And.intro rfl (And.intro rfl (And.intro rfl trivial)))))))
     ·first | omega | (dsimp only; omega)
     ·exact ⟨by omega, by omega, by omega, _, _, c7, (by rw [upd_ne _ _ (show i ≠ (q2 : Int) by omega)]; exact hQ2), hT, hr7.congr (fun j _ _ => by unfold upd; split <;> rfl), (hO35.tail.congrI 1 rfl (G' := fun v => iv (upd LV2 (G.TO e0) (LV2 v0 + 1) v)) fun v _ _ => by unfold upd; split <;> rfl)⟩
    ·have hS := hB2.skip (fun _ hL => by rw [hQ2, ← he0] at hL ⊢; omega)
     refine run_skip <| run_inBlock <| run_region <| rl_v rfl rfl rfl (ov_add rfl rfl rfl (by omega)) ?_
     refine rl_v rfl rfl rfl (ov_move rfl rfl) <| rl_nil ?_
     refine Run.use (ih20 (k + 1) (q2) (qa2) (qc2) _ ?_ ?_) (And.intro (by exact slot_int rfl (by first | omega)) (And.intro rfl (And.intro rfl (And.intro rfl (And.intro rfl (And.intro rfl (And.intro rfl trivial)))))))
     ·first | omega | (dsimp only; omega)
     ·exact ⟨by omega, by omega, hiq, LV2, Q2, c2, hQ2, hS, hr2, hO25.tail⟩
  ·have hN := hB2.next (by rw [hQ2]; omega) hiq
   refine run_exit rfl <| run_inBlock <| run_region <| rl_v rfl rfl rfl (ov_move rfl rfl) <| rl_v rfl rfl rfl (ov_add rfl rfl rfl (by omega)) ?_
   refine rl_v rfl rfl rfl (ov_assign rfl rfl) <| rl_nil ?_
   refine Run.use (ih15 (i + 1) (q2) (qa2) (qc2) _ ?_ ?_) (And.intro (by exact slot_int rfl (by first | omega)) (And.intro rfl (And.intro rfl (And.intro rfl trivial))))
   ·first | omega | (dsimp only; omega)
   ·exact ⟨by omega, by omega, LV2, Q2, c2, hN, hr2, hO2⟩
 ·refine run_exit rfl <| run_seq <| run_region <| rl_v rfl rfl rfl (ov_move rfl rfl) <| rl_v rfl rfl rfl (ov_assign rfl rfl) <| rl_nil <| run_ret Tryz.func30 (res1 Tryz.results30 rfl) ?_
  exact ⟨lb, LV, rfl, hO.tail, hB.done (by omega)⟩
end Go.Proofs.YtbepolognfdkeaaGreat
