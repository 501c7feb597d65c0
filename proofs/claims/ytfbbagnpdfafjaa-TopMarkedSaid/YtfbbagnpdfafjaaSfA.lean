import Derived.Test.YtfbbagnpdfafjaaSeZ
set_option maxRecDepth 100000
namespace Go.Proofs.Ytfbbagnpdfafjaa
open Go.RowKit Go.Proofs
def wakeTo (X : MW) (i : Int) : MW := if i = 0 then X else if i = 1 then X.wake1 0 else if i = 2 then (X.wake1 0).wake1 1 else X.wake
def tickTo (X : MW) (i : Int) : MW := if i = 0 then X else if i = 1 then X.tick0 0 else if i = 2 then (X.tick0 0).tick0 1 else ((X.tick0 0).tick0 1).tick0 2
theorem wakeTo_step (X : MW) {i : Int} (hi : N3 i) : wakeTo X (i + 1) = (wakeTo X i).wake1 i := by rcases hi with rfl | rfl | rfl <;> rfl
theorem tickTo_step (X : MW) {i : Int} (hi : N3 i) : tickTo X (i + 1) = (tickTo X i).tick0 i := by rcases hi with rfl | rfl | rfl <;> rfl
theorem Good.wakeTo {X : MW} (h : Good X) (i : Int) : Good (wakeTo X i) := by
 unfold Proofs.Ytfbbagnpdfafjaa.wakeTo
 split
 ·exact h
 ·split
  ·exact h.wake1 (.inl rfl)
  ·split
   ·exact (h.wake1 (.inl rfl)).wake1 (.inr (.inl rfl))
   ·exact h.wake
theorem tickTo_good {X : MW} (h : Good X) (i : Int) : Good (tickTo X i) ∧ phi (tickTo X i) ≤ phi X + 6 * X.deals.length ∧ (tickTo X i).deals = X.deals := by
 have h1 := phi_tick0 X 0
 have h2 := phi_tick0 (X.tick0 0) 1
 have h3 := phi_tick0 ((X.tick0 0).tick0 1) 2
 have e1 := cfg_deals (cfg_tick0 X 0)
 have e2 := cfg_deals (cfg_tick0 (X.tick0 0) 1)
 have e3 := cfg_deals (cfg_tick0 ((X.tick0 0).tick0 1) 2)
 rw [e2] at h3 e3
 rw [e1] at h2 h3 e2 e3
 unfold tickTo
 split
 ·exact ⟨h, by omega, rfl⟩
 ·split
  ·exact ⟨h.tick0 (.inl rfl), by omega, e1⟩
  ·split
   ·exact ⟨(h.tick0 (.inl rfl)).tick0 (.inr (.inl rfl)), by omega, e2⟩
   ·exact ⟨((h.tick0 (.inl rfl)).tick0 (.inr (.inl rfl))).tick0 (.inr (.inr rfl)), by omega, e3⟩
theorem bringAll_snoc : ∀ (l : List Ms) (X : MW) (m : Ms), X.bringAll (l ++ [m]) = (X.bringAll l).bring m
 | [], _, _ => rfl
 | a :: l, X, m => bringAll_snoc l (X.bring a) m
theorem bringTake {X Y : MW} {i : Int} (h0 : 0 ≤ i) (h1 : i < X.bag.length) : Y.bringAll (X.bag.take (i + 1).toNat) = (Y.bringAll (X.bag.take i.toNat)).bring (X.bag.getD i.toNat Ms.z) := by
 rw [show (i + 1).toNat = i.toNat + 1 by omega, take_snoc X.bag Ms.z (by omega), bringAll_snoc]
theorem unbag {B : Nat} {w0 w : World} {A : WA} {X : MW} {K : WC} {N R Pl : List (Option Blk)} (hO : Own B w0 w ((K.M A X ++ (N ++ R)).set 0 (some (lch A.W 184 [iv X.mem, iv X.pat, .slice none 0 0, .slice none 0 0, K.dv, nodeV A 0, nodeV A 1, nodeV A 2, .slice none 0 0])))) (hK : WOk X K N) (hPl : ∀ x ∈ Pl, x ∈ N) :
  WAt B w0 w A { X with bag := [] } Pl (K.cb :: R) := by
 refine ⟨{ K with bv := .slice none 0 0, cb := none }, N, ?_, ⟨hK.dv, SRow.nil _ _ _, hK.rc, hK.r1, hK.r2, hK.v1, hK.v2, hK.mp⟩, hPl⟩
 have h1 : Own B w0 w ([_, _, _, _, _] ++ (K.cb :: (N ++ R))) := hO
 have h2 := h1.perm (List.perm_middle (l₁ := [_, _, _, _, _]))
 have h3 := h2.perm (perm_mid2 K.cb [_, _, _, _, _] N R)
 exact (h3.nil_cons).perm (List.perm_middle (a := none) (l₁ := [_, _, _, _, _])).symm
theorem nodeIx (A : WA) {i : Int} (hi : N3 i) : #[nodeV A 0, nodeV A 1, nodeV A 2][i.toNat]? = some (nodeV A i) := by rcases hi with rfl | rfl | rfl <;> rfl
theorem bringTo {Y : MW} (h : Good Y) (j : Nat) : Good (({ Y with bag := [] } : MW).bringAll (Y.bag.take j)) ∧ phi (({ Y with bag := [] } : MW).bringAll (Y.bag.take j)) ≤ phi Y ∧ (({ Y with bag := [] } : MW).bringAll (Y.bag.take j)).deals = Y.deals := by
 have h1 := phi_bringAll (Y.bag.take j) { Y with bag := [] } fun m hm => (h.bg m (List.mem_of_mem_take hm)).2
 have e1 : phi { Y with bag := [] } + Y.bag.length = phi Y := by unfold phi; simp; omega
 have e2 : (Y.bag.take j).length ≤ Y.bag.length := by simp; omega
 exact ⟨(h.sub (l := []) (fun _ h => nomatch h)).bringAll fun m hm => h.bg m (List.mem_of_mem_take hm), by omega, cfg_deals (cfg_bringAll _ _)⟩
theorem heal_any (A : WA) (X : MW) (k : Int) (B : Nat) (Pl R : List (Option Blk)) (w0 w : World) (hk : 0 ≤ k ∧ k ≤ 1000) (hG : Good X) (hb : phi X + 12000000 < 4000000000000) (h : WAt B w0 w A X Pl R) :
  Calls Try.prog 52 #[ptr A.W, iv k] w fun e w' => e = .returned (.tuple #[iv (X.heal k.toNat).bag.length, iv 0]) ∧ WAt B w0 w' A (X.heal k.toNat) Pl R := by
 have hdn := hG.dn
 obtain ⟨K, N, hO, hK, hPl⟩ := h
 refine calls_of_run (F := [(0, _), (1, _)]) Try.func52 rfl Try.ntmps52 rfl rfl <| run_seq <| run_region <| rl_v rfl rfl rfl (ov_assign rfl rfl) <| rl_v rfl rfl rfl (ov_assign rfl rfl) <| rl_nil <| run_seq <| run_seq <| run_region <| rl_v rfl rfl rfl (ov_move rfl rfl) <| rl_v rfl rfl rfl (ov_ptrnil rfl Try.underlying100 rfl) <| rl_nil <| run_cond_f rfl <| run_skip <| run_seq <| run_seq <| run_region <| rl_v rfl rfl rfl (ov_move rfl rfl) <| rl_v rfl rfl rfl (ov_lss rfl rfl rfl) <| rl_v rfl rfl rfl (ov_move rfl rfl) ?_
 first | refine rl_split_dec 16 rfl (fun g1 => ?_) (fun g1 => ?_) | refine rl_split 16 rfl (fun g1 => ?_) (fun g1 => ?_)
 ·refine rl_gskip rfl rfl rfl rfl rfl rfl <| rl_gskip rfl rfl rfl rfl rfl rfl <| rl_v rfl rfl rfl (ov_pick_t rfl rfl rfl) <| rl_nil ?_
  exfalso; omega
 ·refine rl_gv rfl rfl rfl rfl rfl (ov_move rfl rfl) <| rl_gv rfl rfl rfl rfl rfl (ov_gtr rfl rfl rfl) <| rl_v rfl rfl rfl (ov_pick_f rfl rfl rfl) <| rl_nil ?_
  first | refine run_cond_dec rfl (fun g2 => ?_) (fun g2n => ?_) | refine run_cond rfl (fun g2 => ?_) (fun g2n => ?_)
  ·exfalso; omega
  ·refine run_skip <| run_seq <| run_seq <| run_region <| rl_v rfl rfl rfl (ov_move rfl rfl) <| rl_v rfl rfl rfl (ov_nil rfl rfl) <| rl_v rfl rfl rfl (ov_fieldS rfl Try.underlying184 rfl (fo := 5) rfl (by kernel_rfl) rfl) ?_
   refine rl_v rfl rfl rfl (ov_loadN rfl Try.underlying181 rfl (by kernel_rfl) rfl ((hO.rangeT 0 rfl 5 (cs := [nodeV A 0, nodeV A 1, nodeV A 2]) rfl))) ?_
   refine rl_v rfl rfl rfl (ov_move rfl rfl) <| rl_nil <| run_block <| Run.keep [0, 1, 23, 24] (F' := [(0, _), (1, _), (23, _), (24, _)]) rfl <| run_loop1 (fun (i : Int) => [(24, .int .i64 i)]) [0, 1, 23] (fun (i : Int) (w2 : World) => 0 ≤ i ∧ i ≤ 3 ∧ WAt B w0 w2 A (wakeTo X i) Pl R) (fun (i : Int) => (3 - i).toNat) (0) ?_ (And.intro (by exact slot_int rfl (by first | omega)) (And.intro rfl (And.intro rfl (And.intro rfl trivial)))) ?_
   ·exact ⟨by omega, by omega, K, N, hO, hK, hPl⟩
   intro i w2 hIw2 ih3
   obtain ⟨hi0, hi1, hW⟩ := hIw2
   show Run _ _ _ _ [(24, _), (0, _), (1, _), (23, _)] _ _
   refine run_seq <| run_region <| rl_v rfl rfl rfl (ov_lss rfl rfl rfl) <| rl_nil <| run_seq ?_
   first | refine run_cond_dec rfl (fun hq => ?_) (fun hq => ?_) | refine run_cond rfl (fun hq => ?_) (fun hq => ?_)
   ·have hn : N3 i := by unfold N3; omega
    refine run_skip <| run_seq <| run_block <| run_seq <| run_region <| rl_v rfl rfl rfl (ov_move rfl rfl) <| rl_v rfl rfl rfl (ov_indexV rfl Try.underlying181 Try.underlying180 rfl (by kernel_rfl) rfl rfl ⟨by omega, by omega⟩ (nodeIx A hn)) ?_
    refine rl_v rfl rfl rfl (ov_assign rfl rfl) <| rl_v rfl rfl rfl (ov_assign rfl rfl) <| rl_nil <| run_seq <| run_region <| rl_v rfl rfl rfl (ov_move rfl rfl) <| rl_v rfl rfl rfl (ov_move rfl rfl) ?_
    refine rl_call callable_103 rfl rfl rfl rfl rfl rfl (restart_any A (wakeTo X i) i B Pl R w0 w2 hn (hG.wakeTo i) hW) (fun e4 w5 hp6 => ?_)
    obtain ⟨rfl, hW2⟩ := hp6
    refine ⟨_, rfl, ?_⟩
    obtain ⟨K2, N2, hO2, hK2, hPl2⟩ := hW2
    obtain ⟨kk, t, rv, rest, hk4, hkk, hr, hset, hw2⟩ := hK2.node A hn
    have hlen : kk < (K2.M A ((wakeTo X i).restart i) ++ (N2 ++ R)).length := (List.getElem?_eq_some_iff.1 (hkk (N2 ++ R))).1
    refine rl_nil <| run_region <| rl_v rfl rfl rfl (ov_move rfl rfl) ?_
    refine rl_invoke (cStore i) rfl rfl rfl rfl rfl (mStore i _ _) rfl (storeO i (A.node i) hO2) (fun e7 w8 hp9 => ?_)
    obtain ⟨rfl, hO3⟩ := hp9
    refine ⟨_, rfl, ?_⟩
    have hF := hO3.perm (perm_front (hkk (N2 ++ R)))
    refine rl_v rfl rfl rfl (ov_nil rfl rfl) <| rl_v rfl rfl rfl (ov_fieldS rfl Try.underlying189 rfl (fo := 2) rfl (by kernel_rfl) rfl) ?_
    refine rl_ow rfl (ow_storeL rfl rfl (by kernel_rfl) hF 0 rfl rfl rfl rfl rfl) ?_
    rintro _ w10 ⟨rfl, hO11, hs12⟩
    refine rl_nil <| run_inBlock <| run_region <| rl_v rfl rfl rfl (ov_add rfl rfl rfl (by omega)) ?_
    refine rl_v rfl rfl rfl (ov_move rfl rfl) <| rl_nil ?_
    refine Run.use (ih3 (i + 1) _ ?_ ?_) (And.intro (by exact slot_int rfl (by first | omega)) (And.intro rfl (And.intro rfl (And.intro rfl trivial))))
    ·first | omega | (dsimp only; omega)
    ·exact ⟨by omega, by omega, by rw [wakeTo_step X hn]; exact relog (rv' := rv) hlen hset (hw2 N2 rv { ((wakeTo X i).restart i).lg i with fuse := 0 } (fun _ h => h) hr) hPl2 hO11⟩
   ·obtain rfl : i = 3 := by omega
    refine run_exit rfl <| run_seq <| run_seq <| run_region <| rl_v rfl rfl rfl (ov_move rfl rfl) <| rl_v rfl rfl rfl (ov_move rfl rfl) <| rl_nil <| run_block <| Run.keep [0, 36, 37] (F' := [(0, _), (36, _), (37, _)]) rfl <| run_loop1 (fun (q : Int) => [(37, .int .i64 q)]) [0, 36] (fun (q : Int) (w13 : World) => 0 ≤ q ∧ q ≤ k ∧ WAt B w0 w13 A (X.wake.rounds q.toNat) Pl R) (fun (q : Int) => (k - q).toNat) (0) ?_ (And.intro (by exact slot_int rfl (by first | omega)) (And.intro rfl (And.intro rfl trivial))) ?_
    ·exact ⟨by omega, by omega, hW⟩
    intro q w13 hIw13 ih14
    obtain ⟨hq0, hq1, hWq⟩ := hIw13
    show Run _ _ _ _ [(37, _), (0, _), (36, _)] _ _
    refine run_seq <| run_region <| rl_v rfl rfl rfl (ov_lss rfl rfl rfl) <| rl_nil <| run_seq ?_
    first | refine run_cond_dec rfl (fun hqk => ?_) (fun hqk => ?_) | refine run_cond rfl (fun hqk => ?_) (fun hqk => ?_)
    ·have hGY : Good (X.wake.rounds q.toNat) := hG.wake.rounds _
     have hph := phi_rounds hG.wake q.toNat
     have hph2 := phi_wake X
     rw [cfg_deals (cfg_wake X)] at hph
     have hmul : 6 * X.deals.length * q.toNat ≤ 6 * 1000 * 1000 := Nat.mul_le_mul (by omega) (by omega)
     have eY := cfg_deals ((cfg_rounds X.wake q.toNat).trans (cfg_wake X))
     have erd : X.wake.rounds (q + 1).toNat = (X.wake.rounds q.toNat).round := by rw [show (q + 1).toNat = q.toNat + 1 by omega]; rfl
     generalize X.wake.rounds q.toNat = Y at *
     have hbt := bringTo hGY
     have hbY : Y.bag.length ≤ phi Y := Nat.le_add_right _ _
     obtain ⟨K4, N4, hO4, hK4, hPl4⟩ := hWq
     obtain ⟨ao, cap, hbv, hcap, gb, hga, hrow⟩ := bagRow hK4
     refine run_skip <| run_seq <| run_block <| run_seq <| run_region <| rl_v rfl rfl rfl (ov_move rfl rfl) <| rl_v rfl rfl rfl (ov_nil rfl rfl) <| rl_v rfl rfl rfl (ov_fieldS rfl Try.underlying184 rfl (fo := 8) rfl (by kernel_rfl) rfl) ?_
     refine rl_v rfl rfl rfl (ov_load rfl Try.underlying182 rfl rfl (by exact hO4.cellL 0 rfl (off := 8) (congrArg some hbv))) ?_
     refine rl_v rfl rfl rfl (ov_assign rfl rfl) <| rl_nil <| run_seq <| run_region <| rl_v rfl rfl rfl (ov_move rfl rfl) <| rl_v rfl rfl rfl (ov_nil rfl rfl) <| rl_v rfl rfl rfl (ov_fieldS rfl Try.underlying184 rfl (fo := 8) rfl (by kernel_rfl) rfl) ?_
     refine rl_ow rfl (ow_storeL rfl rfl (by kernel_rfl) hO4 0 rfl rfl rfl rfl rfl) ?_
     rintro _ w15 ⟨rfl, hO16, hs17⟩
     have hW0 : WAt B w0 w15 A { Y with bag := [] } Pl (K4.cb :: R) := unbag hO16 hK4 hPl4
     refine rl_nil <| run_seq <| run_seq <| run_region <| rl_v rfl rfl rfl (ov_move rfl rfl) <| rl_v rfl rfl rfl (ov_len rfl Try.underlying182 rfl) <| rl_v rfl rfl rfl (ov_move rfl rfl) <| rl_nil <| run_block <| Run.keep [0, 36, 37, 46, 47, 48] (F' := [(0, _), (36, _), (37, _), (46, _), (47, _), (48, _)]) rfl <| run_loop1 (fun (j : Int) => [(48, .int .i64 j)]) [0, 36, 37, 46, 47] (fun (j : Int) (w18 : World) => 0 ≤ j ∧ j ≤ Y.bag.length ∧ WAt B w0 w18 A (({ Y with bag := [] } : MW).bringAll (Y.bag.take j.toNat)) Pl (K4.cb :: R)) (fun (j : Int) => ((Y.bag.length : Int) - j).toNat) (0) ?_ (And.intro (by exact slot_int rfl (by first | omega)) (And.intro rfl (And.intro rfl (And.intro rfl (And.intro rfl (And.intro rfl trivial)))))) ?_
     ·exact ⟨by omega, by omega, hW0⟩
     intro j w18 hIw18 ih19
     obtain ⟨hj0, hj1, hWj⟩ := hIw18
     show Run _ _ _ _ [(48, _), (0, _), (36, _), (37, _), (46, _), (47, _)] _ _
     refine run_seq <| run_region <| rl_v rfl rfl rfl (ov_lss rfl rfl rfl) <| rl_nil <| run_seq ?_
     first | refine run_cond_dec rfl (fun hjl => ?_) (fun hjl => ?_) | refine run_cond rfl (fun hjl => ?_) (fun hjl => ?_)
     ·have hbj := hbt j.toNat
      have hmj := hGY.bg _ (getD_bag ⟨hj0, hjl⟩)
      have hle : (({ Y with bag := [] } : MW).bringAll (Y.bag.take j.toNat)).bag.length ≤ phi (({ Y with bag := [] } : MW).bringAll (Y.bag.take j.toNat)) := Nat.le_add_right _ _
      obtain ⟨K5, N5, hO5, hK5, hPl5⟩ := hWj.pull
      refine run_skip <| run_seq <| run_block <| run_seq <| run_region <| rl_v rfl rfl rfl (ov_index rfl Try.underlying182 (by kernel_rfl) (s := 4) rfl rfl ⟨by omega, by omega⟩ (by exact (hga (by omega)))) ?_
      refine rl_v rfl rfl rfl (ov_loadE rfl Try.underlying201 rfl (by kernel_rfl) rfl ⟨by omega, by omega⟩ rfl (hrow hO5 (List.mem_cons_self ..))) ?_
      refine rl_ow rfl (ow_alloc _ rfl rfl rfl zero_201 rfl hO5) ?_
      rintro _ w20 ⟨b10, rfl, hO21, hs22⟩
      refine rl_ow rfl (ow_storeW rfl rfl (by kernel_rfl) hO21 0 rfl rfl (by rfl) rfl (by rfl)) ?_
      rintro _ w23 ⟨rfl, hO24, hs25⟩
      refine rl_nil <| run_region <| rl_v rfl rfl rfl (ov_move rfl rfl) <| rl_v rfl rfl rfl (ov_loadW rfl Try.underlying201 rfl (by kernel_rfl) rfl hO24 0 rfl) ?_
      refine rl_call callable_104 rfl rfl rfl rfl rfl rfl (bring_any A (({ Y with bag := [] } : MW).bringAll (Y.bag.take j.toNat)) (Y.bag.getD j.toNat Ms.z) B Pl _ w0 w23 hbj.1 ⟨hmj.1, by rw [hbj.2.2]; exact hmj.2⟩ (by omega) (WAt.push2 hO24 hK5 hPl5)) (fun e26 w27 hp28 => ?_)
      obtain ⟨rfl, hW6⟩ := hp28
      refine ⟨_, rfl, ?_⟩
      refine rl_nil <| run_inBlock <| run_region <| rl_v rfl rfl rfl (ov_add rfl rfl rfl (by omega)) ?_
      refine rl_v rfl rfl rfl (ov_move rfl rfl) <| rl_nil ?_
      refine Run.use (ih19 (j + 1) _ ?_ ?_) (And.intro (by exact slot_int rfl (by first | omega)) (And.intro rfl (And.intro rfl (And.intro rfl (And.intro rfl (And.intro rfl trivial))))))
      ·first | omega | (dsimp only; omega)
      ·exact ⟨by omega, by omega, by rw [bringTake hj0 hjl]; exact hW6.drop⟩
     ·obtain rfl : j = Y.bag.length := by omega
      have hbj := hbt Y.bag.length
      rw [Int.toNat_natCast] at hWj
      rw [List.take_length] at hWj hbj
      refine run_exit rfl <| run_seq <| run_region <| rl_v rfl rfl rfl (ov_move rfl rfl) <| rl_nil <| run_block <| Run.keep [0, 36, 37, 56] (F' := [(0, _), (36, _), (37, _), (56, _)]) rfl <| run_loop1 (fun (i : Int) => [(56, .int .i64 i)]) [0, 36, 37] (fun (i : Int) (w29 : World) => 0 ≤ i ∧ i ≤ 3 ∧ WAt B w0 w29 A (tickTo (({ Y with bag := [] } : MW).bringAll Y.bag) i) Pl (K4.cb :: R)) (fun (i : Int) => (3 - i).toNat) (0) ?_ (And.intro (by exact slot_int rfl (by first | omega)) (And.intro rfl (And.intro rfl (And.intro rfl trivial)))) ?_
      ·exact ⟨by omega, by omega, hWj⟩
      intro i w29 hIw29 ih30
      obtain ⟨hi0, hi1, hWi⟩ := hIw29
      show Run _ _ _ _ [(56, _), (0, _), (36, _), (37, _)] _ _
      refine run_seq <| run_region <| rl_v rfl rfl rfl (ov_lss rfl rfl rfl) <| rl_nil <| run_seq ?_
      first | refine run_cond_dec rfl (fun hti => ?_) (fun hti => ?_) | refine run_cond rfl (fun hti => ?_) (fun hti => ?_)
      ·have hn : N3 i := by unfold N3; omega
       have htg := tickTo_good hbj.1 i
       have hle : (tickTo (({ Y with bag := [] } : MW).bringAll Y.bag) i).bag.length ≤ phi (tickTo (({ Y with bag := [] } : MW).bringAll Y.bag) i) := Nat.le_add_right _ _
       have e9 : (({ Y with bag := [] } : MW).bringAll Y.bag).deals.length = X.deals.length := by rw [hbj.2.2, eY]
       refine run_skip <| run_seq <| run_block <| run_seq <| run_region <| rl_v rfl rfl rfl (ov_move rfl rfl) <| rl_v rfl rfl rfl (ov_assign rfl rfl) <| rl_nil <| run_region <| rl_v rfl rfl rfl (ov_move rfl rfl) <| rl_v rfl rfl rfl (ov_move rfl rfl) ?_
       refine rl_call callable_105 rfl rfl rfl rfl rfl rfl (tick_any A (tickTo (({ Y with bag := [] } : MW).bringAll Y.bag) i) i B Pl _ w0 w29 hn htg.1 (by omega) hWi) (fun e31 w32 hp33 => ?_)
       obtain ⟨rfl, hW7⟩ := hp33
       refine ⟨_, rfl, ?_⟩
       refine rl_nil <| run_inBlock <| run_region <| rl_v rfl rfl rfl (ov_add rfl rfl rfl (by omega)) ?_
       refine rl_v rfl rfl rfl (ov_move rfl rfl) <| rl_nil ?_
       refine Run.use (ih30 (i + 1) _ ?_ ?_) (And.intro (by exact slot_int rfl (by first | omega)) (And.intro rfl (And.intro rfl (And.intro rfl trivial))))
       ·first | omega | (dsimp only; omega)
       ·exact ⟨by omega, by omega, by rw [tickTo_step _ hn]; exact hW7⟩
      ·obtain rfl : i = 3 := by omega
       refine run_exit rfl <| run_inBlock <| run_region <| rl_v rfl rfl rfl (ov_add rfl rfl rfl (by omega)) ?_
       refine rl_v rfl rfl rfl (ov_move rfl rfl) <| rl_nil ?_
       refine Run.use (ih14 (q + 1) _ ?_ ?_) (And.intro (by exact slot_int rfl (by first | omega)) (And.intro rfl (And.intro rfl trivial)))
       ·first | omega | (dsimp only; omega)
       ·exact ⟨by omega, by omega, by rw [erd]; exact hWi.drop⟩
    ·obtain rfl : q = k := by omega
     obtain ⟨K6, N6, hO6, hK6, hPl6⟩ := hWq
     obtain ⟨ao, cap, hbv, hcap, gb, hga, hrow⟩ := bagRow hK6
     refine run_exit rfl <| run_seq <| run_region <| rl_v rfl rfl rfl (ov_move rfl rfl) <| rl_v rfl rfl rfl (ov_nil rfl rfl) <| rl_v rfl rfl rfl (ov_fieldS rfl Try.underlying184 rfl (fo := 8) rfl (by kernel_rfl) rfl) ?_
     refine rl_v rfl rfl rfl (ov_load rfl Try.underlying182 rfl rfl (by exact hO6.cellL 0 rfl (off := 8) (congrArg some hbv))) ?_
     refine rl_v rfl rfl rfl (ov_len rfl Try.underlying182 rfl) <| rl_v rfl rfl rfl (ov_assign rfl rfl) <| rl_v rfl rfl rfl (ov_assign rfl rfl) <| rl_nil <| run_ret Try.func52 (res2 Try.results52 rfl rfl) ?_
     exact ⟨rfl, K6, N6, hO6, hK6, hPl6⟩
def BadP (g : Int → Int) (n : Nat) : Prop := ∃ i : Int, 0 ≤ i ∧ i < n ∧ (g i < 0 ∨ 1000000000000 < g i)
noncomputable instance (g : Int → Int) (n : Nat) : Decidable (BadP g n) := Classical.propDecidable _
theorem wrong_any (x : Int) (w : World) : Calls Try.prog 99 #[iv x] w fun e w' => e = .returned (.bool (decide (x < 0 ∨ 1000000000000 < x))) ∧ w' = w := by
 refine calls_of_run (F := [(0, _)]) Try.func99 rfl Try.ntmps99 rfl rfl ?_
 have hO0 := Own.init w
 refine run_seq <| run_region <| rl_v rfl rfl rfl (ov_assign rfl rfl) <| rl_nil <| run_seq <| run_region_join 2 (.bool (decide (x < 0 ∨ 1000000000000 < x))) [] (fun hk1 => ?_) ?_
 ·refine rl_v rfl rfl rfl (ov_move rfl rfl) <| rl_v rfl rfl rfl (ov_lss rfl rfl rfl) <| rl_v rfl rfl rfl (ov_move rfl rfl) ?_
  first | refine rl_split_dec 5 rfl (fun g1 => ?_) (fun g1 => ?_) | refine rl_split 5 rfl (fun g1 => ?_) (fun g1 => ?_)
  ·refine rl_gskip rfl rfl rfl rfl rfl rfl <| rl_gskip rfl rfl rfl rfl rfl rfl <| rl_v rfl rfl rfl (ov_pick_t rfl rfl rfl) <| rl_v rfl rfl rfl (ov_assign rfl rfl) ?_
   refine rl_nil (hk1 _ (jbt rfl (by omega)) trivial)
  ·refine rl_gv rfl rfl rfl rfl rfl (ov_move rfl rfl) <| rl_gv rfl rfl rfl rfl rfl (ov_gtr rfl rfl rfl) <| rl_v rfl rfl rfl (ov_pick_f rfl rfl rfl) <| rl_v rfl rfl rfl (ov_assign rfl rfl) ?_
   refine rl_nil (hk1 _ (jbd rfl (by omega)) trivial)
 ·show Run _ _ _ _ [(2, _)] _ _
  refine run_ret Try.func99 (res1 Try.results99 rfl) ?_
  exact ⟨rfl, rfl⟩
theorem indexFuncL_any (ao : Option Addr) (n c B : Nat) (g : Int → Int) (H : List (Option Blk)) (w0 w : World) (hO : Own B w0 w H) (hs : SrcI H ao n g) (hn : n ≤ 4000000000000) :
  Calls Try.prog 109 #[.slice ao n c, .func (.func 99) #[] #[]] w fun e w' => ∃ r : Int, e = .returned (iv r) ∧ (0 ≤ r ↔ BadP g n) ∧ w' = w := by
 obtain ⟨gb, go, hga, hrow⟩ := (hs B w0 w hO).open
 refine calls_of_run (F := [(0, _), (1, _)]) Try.func109 rfl Try.ntmps109 rfl rfl ?_
 have hO0 := Own.init w
 refine run_seq <| run_region <| rl_v rfl rfl rfl (ov_assign rfl rfl) <| rl_nil <| run_seq <| run_seq <| run_region <| rl_v rfl rfl rfl (ov_move rfl rfl) <| rl_v rfl rfl rfl (ov_len rfl Try.underlying22 rfl) <| rl_v rfl rfl rfl (ov_move rfl rfl) <| rl_nil <| run_block <| Run.keep [0, 1, 7, 8] (F' := [(0, _), (1, _), (7, _), (8, _)]) rfl <| run_loop1 (fun (k : Int) => [(8, .int .i64 k)]) [0, 1, 7] (fun (k : Int) (w1 : World) => 0 ≤ k ∧ k ≤ n ∧ (∀ i : Int, 0 ≤ i → i < k → ¬ (g i < 0 ∨ 1000000000000 < g i)) ∧ w1 = w) (fun (k : Int) => ((n : Int) - k).toNat) (0) ?_ (And.intro (by exact slot_int rfl (by first | omega)) (And.intro rfl (And.intro rfl (And.intro rfl trivial)))) ?_
 ·exact ⟨by omega, by omega, fun i h0 h1 => by omega, rfl⟩
 intro k w1 hIw1 ih2
 obtain ⟨hk0, hk1, hall, hw⟩ := hIw1
 show Run _ _ _ _ [(8, _), (0, _), (1, _), (7, _)] _ _
 subst hw
 refine run_seq <| run_region <| rl_v rfl rfl rfl (ov_lss rfl rfl rfl) <| rl_nil <| run_seq ?_
 first | refine run_cond_dec rfl (fun h1 => ?_) (fun h1 => ?_) | refine run_cond rfl (fun h1 => ?_) (fun h1 => ?_)
 ·refine run_skip <| run_seq <| run_block <| run_seq <| run_region <| rl_v rfl rfl rfl (ov_move rfl rfl) <| rl_v rfl rfl rfl (ov_assign rfl rfl) <| rl_nil <| run_seq <| run_region <| rl_v rfl rfl rfl (ov_move rfl rfl) <| rl_v rfl rfl rfl (ov_move rfl rfl) <| rl_v rfl rfl rfl (ov_move rfl rfl) <| rl_v rfl rfl rfl (ov_index1 rfl Try.underlying22 (by kernel_rfl) rfl rfl ⟨by omega, by omega⟩ (by exact (hga (by omega)))) ?_
  refine rl_v rfl rfl rfl (ov_load rfl Try.underlying2 rfl rfl (by exact hrow _ (Below.refl _ _) k (by omega) (by omega))) ?_
  refine rl_call callable_99 rfl rfl rfl rfl rfl rfl (wrong_any (g k) w1) (fun e3 w4 hp5 => ?_)
  obtain ⟨rfl, hw2⟩ := hp5
  refine ⟨_, rfl, ?_⟩
  subst hw2
  refine rl_nil ?_
  first | refine run_cond_dec rfl (fun h2 => ?_) (fun h2 => ?_) | refine run_cond rfl (fun h2 => ?_) (fun h2 => ?_)
  ·refine run_seq <| run_region <| rl_v rfl rfl rfl (ov_move rfl rfl) <| rl_v rfl rfl rfl (ov_assign rfl rfl) <| rl_nil <| run_ret Try.func109 (res1 Try.results109 rfl) ?_
   exact ⟨k, rfl, ⟨fun _ => ⟨k, hk0, h1, h2⟩, fun _ => hk0⟩, rfl⟩
  ·refine run_skip <| run_inBlock <| run_region <| rl_v rfl rfl rfl (ov_add rfl rfl rfl (by omega)) ?_
   refine rl_v rfl rfl rfl (ov_move rfl rfl) <| rl_nil ?_
   refine Run.use (ih2 _ _ ?_ ?_) (And.intro (by rfl) (And.intro rfl (And.intro rfl (And.intro rfl trivial))))
   ·first | omega | (dsimp only; omega)
   ·exact ⟨by omega, by omega, fun i h0 h1' => (by omega : i = k ∨ i < k).elim (fun e => by rw [e]; exact h2) (fun e => hall i h0 e), rfl⟩
 ·refine run_exit rfl <| run_seq <| run_region <| rl_v rfl rfl rfl (ov_assign rfl rfl) <| rl_nil <| run_ret Try.func109 (res1 Try.results109 rfl) ?_
  exact ⟨-1, rfl, ⟨fun h => by omega, fun ⟨i, h0, h1', h2⟩ => absurd h2 (hall i h0 (by omega))⟩, rfl⟩
theorem containsFuncL_any (ao : Option Addr) (n c B : Nat) (g : Int → Int) (H : List (Option Blk)) (w0 w : World) (hO : Own B w0 w H) (hs : SrcI H ao n g) (hn : n ≤ 4000000000000) :
  Calls Try.prog 57 #[.slice ao n c, .func (.func 99) #[] #[]] w fun e w' => e = .returned (.bool (decide (BadP g n))) ∧ w' = w := by
 refine calls_of_run (F := [(0, _), (1, _)]) Try.func57 rfl Try.ntmps57 rfl rfl ?_
 have hO0 := Own.init w
 refine run_seq <| run_region <| rl_v rfl rfl rfl (ov_assign rfl rfl) <| rl_nil <| run_seq <| run_region <| rl_v rfl rfl rfl (ov_move rfl rfl) <| rl_v rfl rfl rfl (ov_move rfl rfl) ?_
 refine rl_call callable_109 rfl rfl rfl rfl rfl rfl (indexFuncL_any ao n c B g H w0 w hO hs hn) (fun e1 w2 hp3 => ?_)
 obtain ⟨r, rfl, hr, hw2⟩ := hp3
 refine ⟨_, rfl, ?_⟩
 refine rl_v rfl rfl rfl (ov_geq rfl rfl rfl) <| rl_v rfl rfl rfl (ov_assign rfl rfl) <| rl_nil <| run_ret Try.func57 (res1 Try.results57 rfl) ?_
 exact ⟨by congr 2; exact decide_eq_decide.2 hr, hw2⟩
theorem cloneI_any (ao : Option Addr) (m cp B : Nat) (g : Int → Int) (H : List (Option Blk)) (w0 w : World) (hO : Own B w0 w H) (hs : SrcI H ao m g) (hm : m ≤ 4000000000000) :
  Calls Try.prog 72 #[.slice ao m cp] w fun e w' => ∃ v c, e = .returned v ∧ IRow v 2 m (fun i => iv (g i)) c ∧ Own B w0 w' (c :: H) := by
 refine calls_of_run (F := [(0, _)]) Try.func72 rfl Try.ntmps72 rfl rfl <| run_seq <| run_region <| rl_v rfl rfl rfl (ov_assign rfl rfl) <| rl_nil <| run_seq <| run_seq <| run_region <| rl_v rfl rfl rfl (ov_move rfl rfl) <| rl_v rfl rfl rfl (ov_isnil rfl Try.underlying22 rfl) <| rl_nil ?_
 first | refine run_cond_dec rfl (fun g1 => ?_) (fun g1n => ?_) | refine run_cond rfl (fun g1 => ?_) (fun g1n => ?_)
 ·have hm0 : m = 0 := by
   rcases Nat.eq_zero_or_pos m with h | h
   ·exact h
   ·obtain ⟨b, off, h2, _⟩ := hs B w0 w hO
    rw [h2 (by omega)] at g1
    exact absurd g1 Bool.noConfusion
  subst hm0
  refine run_seq <| run_region <| rl_v rfl rfl rfl (ov_assign rfl rfl) <| rl_nil <| run_ret Try.func72 (res1 Try.results72 rfl) ?_
  exact ⟨_, none, rfl, IRow.nil _ _, hO.nil_cons⟩
 ·refine run_skip <| run_seq <| run_region <| rl_ow rfl (ow_empty rfl rfl rfl Try.underlying22 info_2 hO) ?_
  rintro _ w1 ⟨v5, c5, rfl, hO2, hR5, hs3⟩
  have hr5 : IRow v5 2 0 (fun _ => .int .i64 0) c5 := hR5 _
  refine rl_v rfl rfl rfl (ov_move rfl rfl) <| rl_ow rfl (ow_appS rfl rfl rfl Try.underlying22 info_2 rfl hO2 0 hr5 rfl rfl rfl ((hs B w0 _ hO2.tail)) (fun _ => rfl) ⟨by omega, by omega⟩) ?_
  rintro _ w4 ⟨v7, c7, rfl, hO5, hr7, hs6⟩
  refine rl_v rfl rfl rfl (ov_assign rfl rfl) <| rl_nil <| run_ret Try.func72 (res1 Try.results72 rfl) ?_
  exact ⟨v7, c7, rfl, by rw [Nat.zero_add] at hr7; exact hr7.congr fun i h0 h1 => by unfold joinF; rw [if_neg (by omega)]; exact congrArg (fun j => iv (g j)) (by omega), hO5⟩
theorem ow_storeP {P : Program} {N : Nat} {o : Oper} {F : Fr} {w : World} {B : Nat} {w0 : World} {H : List (Option Blk)} {T : TypeId} {p x : Operand} {b off : Nat} {t : TypeId} {vs us vs2 : List Value} (hd : o.dst = none) (ho : o.op = .store T p x) (hi : (P.info? T).map (·.size) = some us.length)
    (hO : Own B w0 w H) (kk : Nat) (hk : H[kk]? = some (some (lch b t vs))) (hp : Fr.ev F p = some (.pointer (some ⟨b, off, none⟩))) (hl : Nat.ble (off + us.length) vs.length = true) (hx : Fr.ev F x = some (.agg us.toArray)) (h1 : us.all (·.oneCell') = true) (h2 : vs.take off ++ us ++ vs.drop (off + us.length) = vs2) :
    OpW P N o F w (fun F' w' => F' = F ∧ Own B w0 w' (H.set kk (some (lch b t vs2))) ∧ w'.heap.size = w.heap.size) := by
  have hl' := Nat.le_of_ble_eq_true hl
  refine (ow_u (w' := w.setCells b off us) hd (fun a ha => ?_)).mono fun F' w' ⟨e1, e2⟩ => ⟨e1, ?_, by rw [e2]; exact size_setCells _ _ _ _⟩
  · have hrun := run_storeAt_mid (P := P) w b off T us.toArray (fun j hj => by
      have hj' : off + j < vs.length := by have : j < us.length := by simpa using hj
                                           omega
      exact ⟨Option.isSome_iff_exists.2 ⟨_, hO.cell kk hk (off + j) hj'⟩, (hO.get kk hk).frozen (off + j)⟩) (by simpa using hi) (by simpa using h1)
    unfold execOp
    simp only [ho, ha.ev hp, ha.ev hx, Sem.run_bind, hrun, Result.andThen_ok, Sem.run_pure]
  · rw [e2]
    have hkl : kk < H.length := (List.getElem?_eq_some_iff.1 hk).1
    have hlen : vs2.length = vs.length := by rw [← h2]; simp; omega
    have h3 := (hO.storeN us kk hk off).congr kk (x := { (lch b t vs) with f := fun j => if off ≤ j ∧ j < off + us.length then us.getD (j - off) undef else (lch b t vs).f j }) (by simp [hkl]) (fun j => vs2.getD j undef) (fun j hj => by
      have hj2 : j < vs.length := hj
      rw [← h2]
      show (if off ≤ j ∧ j < off + us.length then us.getD (j - off) undef else vs.getD j undef) = _
      by_cases c1 : off ≤ j
      · by_cases c2 : j < off + us.length
        · rw [if_pos ⟨c1, c2⟩]
          simp [List.getD_eq_getElem?_getD, List.getElem?_append, List.length_take, show ¬ j < off by omega, show min off vs.length = off by omega, show j - off < us.length by omega]
        · rw [if_neg (by omega)]
          simp [List.getD_eq_getElem?_getD, List.getElem?_append, List.length_take, List.getElem?_drop, show min off vs.length = off by omega, show ¬ j < off by omega, show ¬ j - off < us.length by omega, show off + us.length + (j - off - us.length) = j by omega]
      · rw [if_neg (by omega)]
        simp [List.getD_eq_getElem?_getD, List.getElem?_append, show min off vs.length = off by omega, show j < off by omega, List.getElem?_eq_getElem hj2])
    rw [List.set_set] at h3
    have e3 : (lch b t vs2) = { (lch b t vs) with f := fun j => vs2.getD j undef } := by unfold lch; rw [hlen]
    rw [e3]
    exact h3
theorem built_nodes (a b c : TypeId) (u v t : Value) : Try.prog.built 181 [(0, .iface a u), (1, .iface b v), (2, .iface c t)] = some #[.iface a u, .iface b v, .iface c t] := by kernel_rfl
theorem ov_buildNodes {N : Nat} {o : Oper} {F : Fr} {w : World} {x y z : Operand} {a b c : TypeId} {u v t : Value} (ho : o.op = .build 181 #[(0, x), (1, y), (2, z)]) (hx : Fr.ev F x = some (.iface a u)) (hy : Fr.ev F y = some (.iface b v)) (hz : Fr.ev F z = some (.iface c t)) :
  OpV Try.prog N o F w (.agg #[.iface a u, .iface b v, .iface c t]) := by
 intro st ha
 have := run_build (P := Try.prog) w 181 #[(0, st.eval x), (1, st.eval y), (2, st.eval z)] _ (by rw [ha.ev hx, ha.ev hy, ha.ev hz]; exact built_nodes a b c u v t)
 unfold execOp
 rw [ho]
 simp [this, Result.andThen]
theorem built_world (mem pat : Int) : Try.prog.built 184 [(0, .agg #[iv mem, iv pat, .slice none 0 0, .slice none 0 0])] = some #[iv mem, iv pat, .slice none 0 0, .slice none 0 0, .slice none 0 0, .nilIface, .nilIface, .nilIface, .slice none 0 0] := by kernel_rfl
theorem ov_buildWorld {N : Nat} {o : Oper} {F : Fr} {w : World} {x : Operand} {mem pat : Int} (ho : o.op = .build 184 #[(0, x)]) (hx : Fr.ev F x = some (.agg #[iv mem, iv pat, .slice none 0 0, .slice none 0 0])) :
  OpV Try.prog N o F w (.agg #[iv mem, iv pat, .slice none 0 0, .slice none 0 0, .slice none 0 0, .nilIface, .nilIface, .nilIface, .slice none 0 0]) := by
 intro st ha
 have := run_build (P := Try.prog) w 184 #[(0, st.eval x)] _ (by rw [ha.ev hx]; exact built_world mem pat)
 unfold execOp
 rw [ho]
 simp [this, Result.andThen]
def MW.init (mem pat : Int) (f1 f2 : List Int) : MW := ⟨mem, pat, [], [], Lg.z, Lg.z, Lg.z, fun _ => Ds.z, f1, f2⟩
def gl (l : List Int) : Int → Int := fun i => l.getD i.toNat 0
def CfgBad (mem pat : Int) (f1 f2 : List Int) : Prop := mem < 1 ∨ 1000 < mem ∨ pat < 1 ∨ 1000 < pat ∨ (f1.length : Int) ≠ mem ∨ (f2.length : Int) ≠ mem ∨ BadP (gl f1) f1.length ∨ BadP (gl f2) f2.length
noncomputable instance (mem pat : Int) (f1 f2 : List Int) : Decidable (CfgBad mem pat f1 f2) := Classical.propDecidable _
theorem freshWorld {B : Nat} {w0 w : World} {H : List (Option Blk)} {bw bc b1 b2 bm : Nat} {mem pat : Int} {f1 f2 : List Int} {v1 v2 : Value} {c1 c2 cfgb : Option Blk} {E : TypeId} (h1 : IRow v1 E f1.length (fun i => iv (gl f1 i)) c1) (h2 : IRow v2 E f2.length (fun i => iv (gl f2 i)) c2)
  (hO : Own B w0 w (some (lch bw 184 [iv mem, iv pat, .slice none 0 0, .slice none 0 0, .slice none 0 0, .iface 185 (ptr bc), .iface 192 (ptr b1), .iface 192 (ptr b2), .slice none 0 0]) ::
   some (lch bc 191 [.slice none 0 0, iv 0, iv 0, .bool false, ptr bw, .map (some bm)]) :: some (lch b1 194 [.slice none 0 0, iv 0, iv 0, .bool false, ptr bw, iv 1, v1]) ::
   some (lch b2 194 [.slice none 0 0, iv 0, iv 0, .bool false, ptr bw, iv 2, v2]) :: some (mch bm []) :: c1 :: c2 :: cfgb :: H)) :
  WAt B w0 w ⟨bw, bc, b1, b2⟩ (MW.init mem pat f1 f2) [] H := by
 refine ⟨⟨.slice none 0 0, .slice none 0 0, .slice none 0 0, .slice none 0 0, .slice none 0 0, v1, v2, [], bm, none⟩, [c1, c2], ?_, ⟨PRow.nil _ _ _, SRow.nil _ _ _, PRow.nil _ _ _, PRow.nil _ _ _, PRow.nil _ _ _, ?_, ?_, MapIs.nil⟩, fun x hx => nomatch hx⟩
 ·have h3 := hO.sub (H' := _ :: _ :: _ :: _ :: _ :: c1 :: c2 :: H) (.cons_cons _ (.cons_cons _ (.cons_cons _ (.cons_cons _ (.cons_cons _ (.cons_cons _ (.cons_cons _ (.cons _ (.refl _)))))))))
  exact h3.nil_cons.perm (List.perm_middle (a := none) (l₁ := [_, _, _, _, _])).symm
 ·exact PRow.of_irow h1 (List.mem_cons_self ..)
 ·exact PRow.of_irow h2 (List.mem_cons_of_mem _ (List.mem_cons_self ..))
end Go.Proofs.Ytfbbagnpdfafjaa
