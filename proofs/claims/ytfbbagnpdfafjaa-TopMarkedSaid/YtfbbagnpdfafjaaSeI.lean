import Derived.Test.YtfbbagnpdfafjaaSeF
import Derived.Recover
set_option maxRecDepth 100000
namespace Go.Proofs.Ytfbbagnpdfafjaa
open Go.RowKit Go.Proofs
theorem ov_know {N : Nat} {o : Oper} {F : Fr} {w : World} {x ix : Operand} {b : Nat} {i : Int} {L : List (Int × Value)} {g : Int → Ds} (ho : o.op = .lookup 186 x ix false) (hx : Fr.ev F x = some (.map (some b))) (hi : Fr.ev F ix = some (.int .i64 i))
  (hm : w.heap[b]? = some (.map (ents L 0).toArray L.length)) (h : MapIs L g) : OpV Try.prog N o F w (dsv (g i)) := by
 have := ov_lookup (P := Try.prog) (N := N) ho Try.underlying186 Try.underlying3 zero_239 hx hi hm
 rw [← h.get i]
 exact this
theorem ow_hear {N : Nat} {o : Oper} {F : Fr} {w w0 : World} {B : Nat} {H : List (Option Blk)} {p x : Operand} {b q : Nat} {t : TypeId} {s : Ds} {f : Int} (hd : o.dst = none) (ho : o.op = .store 4 p x) (hO : Own B w0 w H) (kk : Nat) (hk : H[kk]? = some (some (lch b t (dsl s))))
  (hp : Fr.ev F p = some (.pointer (some ⟨b, q, none⟩))) (hq : q = 2 + f.toNat) (hx : Fr.ev F x = some (.bool true)) (hf : f = 1 ∨ f = 2) : OpW Try.prog N o F w (fun F' w' => F' = F ∧ Own B w0 w' (H.set kk (some (lch b t (dsl (s.hear f))))) ∧ w'.heap.size = w.heap.size) := by
 rcases hf with rfl | rfl
 ·obtain rfl : q = 3 := hq
  exact ow_storeL hd ho (by kernel_rfl) hO kk hk hp rfl hx rfl
 ·obtain rfl : q = 4 := hq
  exact ow_storeL hd ho (by kernel_rfl) hO kk hk hp rfl hx rfl
theorem WAt.push2 {B : Nat} {w0 w : World} {A : WA} {X : MW} {K : WC} {N R Pl : List (Option Blk)} {x y : Option Blk} (hO : Own B w0 w (x :: y :: (K.M A X ++ (N ++ R)))) (hK : WOk X K N) (hPl : ∀ z ∈ Pl, z ∈ N) : WAt B w0 w A X Pl (x :: y :: R) :=
 ⟨K, N, hO.perm ((List.Perm.cons x (perm_mid2 y _ _ _)).trans (perm_mid2 x _ _ _)), hK, hPl⟩
theorem WAt.pull2 {B : Nat} {w0 w : World} {A : WA} {X : MW} {R Pl : List (Option Blk)} {x y : Option Blk} (h : WAt B w0 w A X Pl (x :: y :: R)) : ∃ K N, Own B w0 w (x :: y :: (K.M A X ++ (N ++ R))) ∧ WOk X K N ∧ ∀ z ∈ Pl, z ∈ N := by
 obtain ⟨K, N, hO, hK, hPl⟩ := h
 exact ⟨K, N, hO.perm ((List.Perm.cons x (perm_mid2 y _ _ _)).trans (perm_mid2 x _ _ _)).symm, hK, hPl⟩
theorem WAt.know2 {B : Nat} {w0 w : World} {A : WA} {X : MW} {K : WC} {N R Pl : List (Option Blk)} {x y : Option Blk} {d : Int} {s : Ds} (hO : Own B w0 w ((x :: y :: (K.M A X ++ (N ++ R))).set 6 (some (mch K.mb (mput K.L d (dsv s)))))) (hK : WOk X K N) (hPl : ∀ y ∈ Pl, y ∈ N) : WAt B w0 w A (X.know d s) Pl (x :: y :: R) :=
 WAt.push2 (K := { K with L := mput K.L d (dsv s) }) hO { hK with mp := hK.mp.put d s } hPl
theorem coTake_any (A : WA) (X : MW) (m : Ms) (B : Nat) (Pl R : List (Option Blk)) (w0 w : World) (hG : Good X) (hb : X.bag.length + 2 < 4000000000000) (hf : m.f = 1 ∨ m.f = 2) (h : WAt B w0 w A X Pl R) :
  Calls Try.prog 175 #[ptr A.C, .agg (msl m).toArray] w fun e w' => Burns (X.cTake m).2 e (WAt B w0 w' A (X.cTake m).1 Pl R) := by
 obtain ⟨K, N, hO, hK, hPl⟩ := h
 have hlen := hG.len (n := 0) (by omega)
 have hfu := (hG.fu 0 (by omega)).2
 refine calls_of_run (F := [(0, _), (1, _)]) Try.func175 rfl Try.ntmps175 rfl rfl <| run_seq <| run_region <| rl_ow rfl (ow_box _ rfl rfl rfl rfl rfl hO) ?_
 rintro _ w1 ⟨b3, rfl, hO2, hs3⟩
 refine rl_nil <| run_seq <| run_held (fun w' => Own B w0 w' (some (lch b3 201 (msl m)) :: (K.M A X ++ (N ++ R)))) mixed ?_
 have hO5 := hO2.drew
 generalize World.drew w1 = w4 at hO5 ⊢
 have hS6 : Own B w0 w4 (some (lch b3 201 (msl m)) :: (K.M A X ++ (N ++ R))) := by first | exact hO5 | exact hO5.tail
 refine rh_v 0 rfl (by kernel_rfl) rfl rfl rfl hS6 (fun _ hS => ov_move rfl rfl) ?_
 refine rh_v 1 rfl (by kernel_rfl) rfl rfl rfl hS6 (fun _ hS => ov_nil rfl rfl) ?_
 refine rh_v 2 rfl (by kernel_rfl) rfl rfl rfl hS6 (fun _ hS => ov_fieldS rfl Try.underlying191 rfl (fo := 5) rfl (by kernel_rfl) rfl) ?_
 refine rh_v 3 rfl (by kernel_rfl) rfl rfl rfl hS6 (fun _ hS => ov_load rfl Try.underlying186 rfl rfl (by exact hS.cellL 2 rfl rfl)) ?_
 refine rh_v 4 rfl (by kernel_rfl) rfl rfl rfl hS6 (fun _ hS => ov_fieldS rfl Try.underlying201 rfl (fo := 3) rfl (by kernel_rfl) rfl) ?_
 refine rh_v 5 rfl (by kernel_rfl) rfl rfl rfl hS6 (fun _ hS => ov_load rfl Try.underlying3 rfl rfl (by exact hS.cellL 0 rfl rfl)) ?_
 refine rh_v 6 rfl (by kernel_rfl) rfl rfl rfl hS6 (fun _ hS => ov_know rfl rfl rfl (hS.mapAt 5 rfl) hK.mp) ?_
 refine rh_any1 7 (by kernel_rfl) ?_
 refine rc_op rfl rfl (ow_alloc _ rfl rfl rfl zero_239 rfl hO5) ?_
 rintro _ w7 ⟨b4, rfl, hO8, hs9⟩
 have hS10 : Own B w0 w7 (some (lch b3 201 (msl m)) :: (K.M A X ++ (N ++ R))) := by first | exact hO8 | exact hO8.tail
 refine ⟨hS10, ?_⟩
 refine rh_any1 8 (by kernel_rfl) ?_
 refine rc_op rfl rfl (ow_storeW rfl rfl (by kernel_rfl) hO8 0 rfl rfl (by rfl) rfl (by rfl)) ?_
 rintro _ w11 ⟨rfl, hO12, hs13⟩
 have hS14 : Own B w0 w11 (some (lch b3 201 (msl m)) :: (K.M A X ++ (N ++ R))) := by first | exact hO12 | exact hO12.tail
 refine ⟨hS14, ?_⟩
 generalize hs0 : X.kn m.d = s at *
 refine rh_done (by kernel_rfl) ?_
 refine run_block <| run_seq <| run_region <| rl_v rfl rfl rfl (ov_fieldS rfl Try.underlying201 rfl (fo := 2) rfl (by kernel_rfl) rfl) ?_
 refine rl_v rfl rfl rfl (ov_load rfl Try.underlying3 rfl rfl (by exact hO12.cellL 1 rfl rfl)) ?_
 refine rl_v rfl rfl rfl (ov_eql rfl rfl rfl) <| rl_v rfl rfl rfl (ov_move rfl rfl) ?_
 first | refine rl_split_dec 16 rfl (fun g1 => ?_) (fun g1 => ?_) | refine rl_split 16 rfl (fun g1 => ?_) (fun g1 => ?_)
 ·refine rl_gv rfl rfl rfl rfl rfl (ov_fieldS rfl Try.underlying239 rfl (fo := 0) rfl (by kernel_rfl) rfl) ?_
  refine rl_gv rfl rfl rfl rfl rfl (ov_load rfl Try.underlying3 rfl rfl (by exact hO12.cellL 0 rfl rfl)) ?_
  refine rl_gv rfl rfl rfl rfl rfl (ov_eql rfl rfl rfl) <| rl_v rfl rfl rfl (ov_pick_t rfl rfl rfl) <| rl_v rfl rfl rfl (ov_assign rfl rfl) <| rl_nil ?_
  first | refine run_cond_dec rfl (fun h1 => ?_) (fun h1n => ?_) | refine run_cond rfl (fun h1 => ?_) (fun h1n => ?_)
  ·refine run_seq <| run_region <| rl_v rfl rfl rfl (ov_fieldS rfl Try.underlying201 rfl (fo := 0) rfl (by kernel_rfl) rfl) ?_
   refine rl_v rfl rfl rfl (ov_load rfl Try.underlying3 rfl rfl (by exact hO12.cellL 1 rfl rfl)) ?_
   refine rl_v rfl rfl rfl (ov_fieldS rfl Try.underlying239 rfl (fo := 2) rfl (by kernel_rfl) rfl) ?_
   refine rl_v rfl rfl rfl (ov_indexA1 rfl Try.underlying237 (by kernel_rfl) rfl rfl ⟨by omega, by omega⟩) ?_
   refine rl_ow rfl (ow_hear rfl rfl hO12 0 rfl rfl (by omega) rfl hf) ?_
   rintro _ w16 ⟨rfl, hO17, hs18⟩
   refine rl_nil <| run_seq <| run_tail 7 mixed (by kernel_rfl) ?_
   have hO20 := hO17.drew
   generalize World.drew w16 = w19 at hO20 ⊢
   refine rt_v rfl rfl rfl (ov_move rfl rfl) <| rt_v rfl rfl rfl (ov_nil rfl rfl) <| rt_v rfl rfl rfl (ov_fieldS rfl Try.underlying191 rfl (fo := 5) rfl (by kernel_rfl) rfl) ?_
   refine rt_v rfl rfl rfl (ov_load rfl Try.underlying186 rfl rfl (by exact hO20.cellL 3 rfl rfl)) ?_
   refine rt_v rfl rfl rfl (ov_fieldS rfl Try.underlying201 rfl (fo := 3) rfl (by kernel_rfl) rfl) ?_
   refine rt_v rfl rfl rfl (ov_load rfl Try.underlying3 rfl rfl (by exact hO20.cellL 1 rfl rfl)) ?_
   refine rt_v rfl rfl rfl (ov_loadW rfl Try.underlying239 rfl (by kernel_rfl) rfl hO20 0 rfl) ?_
   refine rt_nil <| rl_ow rfl (ow_mapput rfl rfl Try.underlying186 Try.underlying3 hO20 6 rfl rfl rfl rfl) ?_
   rintro _ w21 ⟨rfl, hO22, hs23⟩
   refine rl_nil <| run_seq <| run_region <| rl_v rfl rfl rfl (ov_fieldS rfl Try.underlying239 rfl (fo := 2) rfl (by kernel_rfl) rfl) ?_
   refine rl_v rfl rfl rfl (ov_indexA1 rfl Try.underlying237 (by kernel_rfl) rfl rfl ⟨by omega, by omega⟩) ?_
   refine rl_v rfl rfl rfl (ov_load rfl Try.underlying4 rfl rfl (by exact hO22.cellL 0 rfl rfl)) ?_
   refine rl_v rfl rfl rfl (ov_move rfl rfl) ?_
   first | refine rl_split_dec 35 rfl (fun g2 => ?_) (fun g2 => ?_) | refine rl_split 35 rfl (fun g2 => ?_) (fun g2 => ?_)
   ·refine rl_gv rfl rfl rfl rfl rfl (ov_fieldS rfl Try.underlying239 rfl (fo := 2) rfl (by kernel_rfl) rfl) ?_
    refine rl_gv rfl rfl rfl rfl rfl (ov_indexA1 rfl Try.underlying237 (by kernel_rfl) rfl rfl ⟨by omega, by omega⟩) ?_
    refine rl_gv rfl rfl rfl rfl rfl (ov_load rfl Try.underlying4 rfl rfl (by exact hO22.cellL 0 rfl rfl)) ?_
    refine rl_v rfl rfl rfl (ov_pick_t rfl rfl rfl) <| rl_nil ?_
    first | refine run_cond_dec rfl (fun g3 => ?_) (fun g3n => ?_) | refine run_cond rfl (fun g3 => ?_) (fun g3n => ?_)
    ·refine run_seq <| run_tail 5 mixed (by kernel_rfl) ?_
     have hO26 := hO22.drew
     generalize World.drew w21 = w25 at hO26 ⊢
     refine rt_v rfl rfl rfl (ov_move rfl rfl) <| rt_v rfl rfl rfl (ov_nil rfl rfl) <| rt_v rfl rfl rfl (ov_fieldS rfl Try.underlying191 rfl (fo := 0) rfl (by kernel_rfl) rfl) ?_
     refine rt_v rfl rfl rfl (ov_fieldS rfl Try.underlying201 rfl (fo := 3) rfl (by kernel_rfl) rfl) ?_
     refine rt_v rfl rfl rfl (ov_load rfl Try.underlying3 rfl rfl (by exact hO26.cellL 1 rfl rfl)) ?_
     refine rt_nil ?_
     refine rl_callP callable_177 rfl rfl rfl rfl rfl rfl ⟨_, Try.func175⟩ (write_any A (X.know m.d (s.hear m.f)) 0 (4, m.d) B Pl _ w0 w25 (.inl rfl) (show (X.lg 0).recs.length ≤ _ by omega) hfu (WAt.know2 (s := s.hear m.f) hO26 hK hPl)) (fun e27 w28 hp29 => ?_)
     rcases hp29 with ⟨rfl, ⟨hok, hW2⟩⟩ | ⟨rfl, ⟨hok, hW2⟩⟩
     case inr => exact .inr ⟨_, rfl, by unfold MW.cTake; dsimp only; rw [hs0, if_pos ⟨g1, h1⟩, if_pos ⟨g2, g3⟩, if_neg (by rw [hok]; exact Bool.noConfusion)]; exact .inr ⟨rfl, rfl, hW2.drop.drop⟩⟩
     refine .inl ⟨_, rfl, ?_⟩
     obtain ⟨K4, N4, hO4, hK4, hPl4⟩ := hW2.pull2
     refine rl_nil <| run_region <| rl_v rfl rfl rfl (ov_move rfl rfl) <| rl_v rfl rfl rfl (ov_fieldS rfl Try.underlying201 rfl (fo := 3) rfl (by kernel_rfl) rfl) ?_
     refine rl_v rfl rfl rfl (ov_load rfl Try.underlying3 rfl rfl (by exact hO4.cellL 1 rfl rfl)) ?_
     refine rl_call callable_102 rfl rfl rfl rfl rfl rfl (turn_any A ((X.know m.d (s.hear m.f)).wr 0 (4, m.d)) m.d 2 4 B Pl R w0 w28 (by rw [MW.wr_bag]; show X.bag.length + 2 ≤ _; omega) hW2.drop.drop) (fun e30 w31 hp32 => ?_)
     obtain ⟨rfl, hW3⟩ := hp32
     refine ⟨_, rfl, ?_⟩
     refine rl_nil <| run_inBlock <| run_end Try.func175 (res0 Try.results175) ?_
     exact by unfold MW.cTake; dsimp only; rw [hs0, if_pos ⟨g1, h1⟩, if_pos ⟨g2, g3⟩, if_pos hok]; exact .inl ⟨rfl, rfl, hW3⟩
    ·refine run_skip <| run_inBlock <| run_end Try.func175 (res0 Try.results175) ?_
     exact by unfold MW.cTake; dsimp only; rw [hs0, if_pos ⟨g1, h1⟩, if_neg (fun h => by rw [g3n] at h; exact absurd h.2 Bool.noConfusion)]; exact .inl ⟨rfl, rfl, (WAt.know2 (s := s.hear m.f) hO22 hK hPl).drop.drop⟩
   ·refine rl_gskip rfl rfl rfl rfl rfl rfl <| rl_gskip rfl rfl rfl rfl rfl rfl <| rl_gskip rfl rfl rfl rfl rfl rfl <| rl_v rfl rfl rfl (ov_pick_f rfl rfl rfl) <| rl_nil <| run_cond_f rfl <| run_skip <| run_inBlock <| run_end Try.func175 (res0 Try.results175) ?_
    exact by unfold MW.cTake; dsimp only; rw [hs0, if_pos ⟨g1, h1⟩, if_neg (fun h => by rw [g2] at h; exact absurd h.1 Bool.noConfusion)]; exact .inl ⟨rfl, rfl, (WAt.know2 (s := s.hear m.f) hO22 hK hPl).drop.drop⟩
  ·refine run_seq <| run_region <| rl_v rfl rfl rfl (ov_fieldS rfl Try.underlying201 rfl (fo := 2) rfl (by kernel_rfl) rfl) ?_
   refine rl_v rfl rfl rfl (ov_load rfl Try.underlying3 rfl rfl (by exact hO12.cellL 1 rfl rfl)) ?_
   refine rl_v rfl rfl rfl (ov_eql rfl rfl rfl) <| rl_v rfl rfl rfl (ov_move rfl rfl) ?_
   first | refine rl_split_dec 54 rfl (fun k2 => ?_) (fun k2 => ?_) | refine rl_split 54 rfl (fun k2 => ?_) (fun k2 => ?_)
   ·refine rl_gv rfl rfl rfl rfl rfl (ov_fieldS rfl Try.underlying239 rfl (fo := 0) rfl (by kernel_rfl) rfl) ?_
    refine rl_gv rfl rfl rfl rfl rfl (ov_load rfl Try.underlying3 rfl rfl (by exact hO12.cellL 0 rfl rfl)) ?_
    refine rl_gv rfl rfl rfl rfl rfl (ov_eql rfl rfl rfl) <| rl_v rfl rfl rfl (ov_pick_t rfl rfl rfl) <| rl_v rfl rfl rfl (ov_assign rfl rfl) <| rl_nil ?_
    first | refine run_cond_dec rfl (fun s2 => ?_) (fun s2n => ?_) | refine run_cond rfl (fun s2 => ?_) (fun s2n => ?_)
    ·refine run_tail 9 mixed (by kernel_rfl) ?_
     have hO35 := hO12.drew
     generalize World.drew w11 = w34 at hO35 ⊢
     refine rt_v rfl rfl rfl (ov_move rfl rfl) <| rt_v rfl rfl rfl (ov_nil rfl rfl) <| rt_v rfl rfl rfl (ov_fieldS rfl Try.underlying191 rfl (fo := 4) rfl (by kernel_rfl) rfl) ?_
     refine rt_v rfl rfl rfl (ov_load rfl Try.underlying100 rfl rfl (by exact hO35.cellL 3 rfl rfl)) ?_
     refine rt_v rfl rfl rfl (ov_fieldS rfl Try.underlying201 rfl (fo := 0) rfl (by kernel_rfl) rfl) ?_
     refine rt_v rfl rfl rfl (ov_load rfl Try.underlying3 rfl rfl (by exact hO35.cellL 1 rfl rfl)) ?_
     refine rt_v rfl rfl rfl (ov_fieldS rfl Try.underlying201 rfl (fo := 3) rfl (by kernel_rfl) rfl) ?_
     refine rt_v rfl rfl rfl (ov_load rfl Try.underlying3 rfl rfl (by exact hO35.cellL 1 rfl rfl)) ?_
     refine rt_v rfl rfl rfl (ov_buildL rfl lay_201 rfl (us := [_, _, _, _]) rfl) <| rt_nil ?_
     refine rl_call callable_144 rfl rfl rfl rfl rfl rfl (send_any A X ⟨0, m.f, 4, m.d⟩ B Pl _ w0 w34 (WAt.push2 hO35 hK hPl) (by omega)) (fun e36 w37 hp38 => ?_)
     obtain ⟨rfl, hW3⟩ := hp38
     refine ⟨_, rfl, ?_⟩
     refine rl_nil <| run_inBlock <| run_end Try.func175 (res0 Try.results175) ?_
     exact by unfold MW.cTake; dsimp only; rw [hs0, if_neg fun h => h1n h.2, if_pos ⟨g1, s2⟩]; exact .inl ⟨rfl, rfl, hW3.drop.drop⟩
    ·refine run_seq <| run_region <| rl_v rfl rfl rfl (ov_fieldS rfl Try.underlying201 rfl (fo := 2) rfl (by kernel_rfl) rfl) ?_
     refine rl_v rfl rfl rfl (ov_load rfl Try.underlying3 rfl rfl (by exact hO12.cellL 1 rfl rfl)) ?_
     refine rl_v rfl rfl rfl (ov_eql rfl rfl rfl) <| rl_v rfl rfl rfl (ov_assign rfl rfl) <| rl_nil ?_
     first | refine run_cond_dec rfl (fun q => ?_) (fun qn => ?_) | refine run_cond rfl (fun q => ?_) (fun qn => ?_)
     ·refine run_tail 9 mixed (by kernel_rfl) ?_
      have hO40 := hO12.drew
      generalize World.drew w11 = w39 at hO40 ⊢
      refine rt_v rfl rfl rfl (ov_move rfl rfl) <| rt_v rfl rfl rfl (ov_nil rfl rfl) <| rt_v rfl rfl rfl (ov_fieldS rfl Try.underlying191 rfl (fo := 4) rfl (by kernel_rfl) rfl) ?_
      refine rt_v rfl rfl rfl (ov_load rfl Try.underlying100 rfl rfl (by exact hO40.cellL 3 rfl rfl)) ?_
      refine rt_v rfl rfl rfl (ov_fieldS rfl Try.underlying201 rfl (fo := 0) rfl (by kernel_rfl) rfl) ?_
      refine rt_v rfl rfl rfl (ov_load rfl Try.underlying3 rfl rfl (by exact hO40.cellL 1 rfl rfl)) ?_
      refine rt_v rfl rfl rfl (ov_fieldS rfl Try.underlying201 rfl (fo := 3) rfl (by kernel_rfl) rfl) ?_
      refine rt_v rfl rfl rfl (ov_load rfl Try.underlying3 rfl rfl (by exact hO40.cellL 1 rfl rfl)) ?_
      refine rt_v rfl rfl rfl (ov_buildL rfl lay_201 rfl (us := [_, _, _, _]) rfl) <| rt_nil ?_
      refine rl_call callable_144 rfl rfl rfl rfl rfl rfl (send_any A X ⟨0, m.f, 5, m.d⟩ B Pl _ w0 w39 (WAt.push2 hO40 hK hPl) (by omega)) (fun e41 w42 hp43 => ?_)
      obtain ⟨rfl, hW3⟩ := hp43
      refine ⟨_, rfl, ?_⟩
      refine rl_nil <| run_inBlock <| run_end Try.func175 (res0 Try.results175) ?_
      exact by unfold MW.cTake; dsimp only; rw [hs0, if_neg fun h => h1n h.2, if_neg fun h => s2n h.2, if_pos g1]; exact .inl ⟨rfl, rfl, hW3.drop.drop⟩
     ·exfalso; exact qn g1
   ·exfalso; exact k2 g1
 ·refine rl_gskip rfl rfl rfl rfl rfl rfl <| rl_gskip rfl rfl rfl rfl rfl rfl <| rl_gskip rfl rfl rfl rfl rfl rfl <| rl_v rfl rfl rfl (ov_pick_f rfl rfl rfl) <| rl_v rfl rfl rfl (ov_assign rfl rfl) <| rl_nil <| run_cond_f rfl <| run_seq <| run_region <| rl_v rfl rfl rfl (ov_fieldS rfl Try.underlying201 rfl (fo := 2) rfl (by kernel_rfl) rfl) ?_
  refine rl_v rfl rfl rfl (ov_load rfl Try.underlying3 rfl rfl (by exact hO12.cellL 1 rfl rfl)) ?_
  refine rl_v rfl rfl rfl (ov_eql rfl rfl rfl) <| rl_v rfl rfl rfl (ov_move rfl rfl) ?_
  first | refine rl_split_dec 54 rfl (fun k2 => ?_) (fun k2 => ?_) | refine rl_split 54 rfl (fun k2 => ?_) (fun k2 => ?_)
  ·refine rl_gv rfl rfl rfl rfl rfl (ov_fieldS rfl Try.underlying239 rfl (fo := 0) rfl (by kernel_rfl) rfl) ?_
   refine rl_gv rfl rfl rfl rfl rfl (ov_load rfl Try.underlying3 rfl rfl (by exact hO12.cellL 0 rfl rfl)) ?_
   refine rl_gv rfl rfl rfl rfl rfl (ov_eql rfl rfl rfl) <| rl_v rfl rfl rfl (ov_pick_t rfl rfl rfl) <| rl_v rfl rfl rfl (ov_assign rfl rfl) <| rl_nil ?_
   exfalso; exact g1 k2
  ·refine rl_gskip rfl rfl rfl rfl rfl rfl <| rl_gskip rfl rfl rfl rfl rfl rfl <| rl_gskip rfl rfl rfl rfl rfl rfl <| rl_v rfl rfl rfl (ov_pick_f rfl rfl rfl) <| rl_v rfl rfl rfl (ov_assign rfl rfl) <| rl_nil <| run_cond_f rfl <| run_seq <| run_region <| rl_v rfl rfl rfl (ov_fieldS rfl Try.underlying201 rfl (fo := 2) rfl (by kernel_rfl) rfl) ?_
   refine rl_v rfl rfl rfl (ov_load rfl Try.underlying3 rfl rfl (by exact hO12.cellL 1 rfl rfl)) ?_
   refine rl_v rfl rfl rfl (ov_eql rfl rfl rfl) <| rl_v rfl rfl rfl (ov_assign rfl rfl) <| rl_nil ?_
   first | refine run_cond_dec rfl (fun q => ?_) (fun qn => ?_) | refine run_cond rfl (fun q => ?_) (fun qn => ?_)
   ·exfalso; exact g1 q
   ·refine run_seq <| run_region <| rl_v rfl rfl rfl (ov_fieldS rfl Try.underlying201 rfl (fo := 2) rfl (by kernel_rfl) rfl) ?_
    refine rl_v rfl rfl rfl (ov_load rfl Try.underlying3 rfl rfl (by exact hO12.cellL 1 rfl rfl)) ?_
    refine rl_v rfl rfl rfl (ov_eql rfl rfl rfl) <| rl_v rfl rfl rfl (ov_move rfl rfl) ?_
    first | refine rl_split_dec 87 rfl (fun k3 => ?_) (fun k3 => ?_) | refine rl_split 87 rfl (fun k3 => ?_) (fun k3 => ?_)
    ·refine rl_gv rfl rfl rfl rfl rfl (ov_fieldS rfl Try.underlying239 rfl (fo := 0) rfl (by kernel_rfl) rfl) ?_
     refine rl_gv rfl rfl rfl rfl rfl (ov_load rfl Try.underlying3 rfl rfl (by exact hO12.cellL 0 rfl rfl)) ?_
     refine rl_gv rfl rfl rfl rfl rfl (ov_eql rfl rfl rfl) <| rl_v rfl rfl rfl (ov_pick_t rfl rfl rfl) <| rl_v rfl rfl rfl (ov_assign rfl rfl) <| rl_nil ?_
     first | refine run_cond_dec rfl (fun s1 => ?_) (fun s1n => ?_) | refine run_cond rfl (fun s1 => ?_) (fun s1n => ?_)
     ·refine run_region <| rl_v rfl rfl rfl (ov_move rfl rfl) <| rl_v rfl rfl rfl (ov_fieldS rfl Try.underlying201 rfl (fo := 3) rfl (by kernel_rfl) rfl) ?_
      refine rl_v rfl rfl rfl (ov_load rfl Try.underlying3 rfl rfl (by exact hO12.cellL 1 rfl rfl)) ?_
      refine rl_call callable_102 rfl rfl rfl rfl rfl rfl (turn_any A X m.d 3 5 B Pl _ w0 w11 (by omega) (WAt.push2 hO12 hK hPl)) (fun e46 w47 hp48 => ?_)
      obtain ⟨rfl, hW3⟩ := hp48
      refine ⟨_, rfl, ?_⟩
      refine rl_nil <| run_inBlock <| run_end Try.func175 (res0 Try.results175) ?_
      exact by unfold MW.cTake; dsimp only; rw [hs0, if_neg fun h => g1 h.1, if_neg fun h => g1 h.1, if_neg g1, if_pos ⟨k3, s1⟩]; exact .inl ⟨rfl, rfl, hW3.drop.drop⟩
     ·refine run_seq <| run_region <| rl_v rfl rfl rfl (ov_fieldS rfl Try.underlying201 rfl (fo := 2) rfl (by kernel_rfl) rfl) ?_
      refine rl_v rfl rfl rfl (ov_load rfl Try.underlying3 rfl rfl (by exact hO12.cellL 1 rfl rfl)) ?_
      refine rl_v rfl rfl rfl (ov_eql rfl rfl rfl) <| rl_v rfl rfl rfl (ov_move rfl rfl) ?_
      first | refine rl_split_dec 100 rfl (fun k6 => ?_) (fun k6 => ?_) | refine rl_split 100 rfl (fun k6 => ?_) (fun k6 => ?_)
      ·refine rl_gv rfl rfl rfl rfl rfl (ov_fieldS rfl Try.underlying239 rfl (fo := 0) rfl (by kernel_rfl) rfl) ?_
       refine rl_gv rfl rfl rfl rfl rfl (ov_load rfl Try.underlying3 rfl rfl (by exact hO12.cellL 0 rfl rfl)) ?_
       refine rl_gv rfl rfl rfl rfl rfl (ov_eql rfl rfl rfl) <| rl_gv rfl rfl rfl rfl rfl (ov_move rfl rfl) ?_
       first | refine rl_split_dec 104 rfl (fun hg50 => ?_) (fun hg50 => ?_) | refine rl_split 104 rfl (fun hg50 => ?_) (fun hg50 => ?_)
       ·refine rl_gskip rfl rfl rfl rfl rfl rfl <| rl_gskip rfl rfl rfl rfl rfl rfl <| rl_gskip rfl rfl rfl rfl rfl rfl <| rl_gv rfl rfl rfl rfl rfl (ov_pick_t rfl rfl rfl) <| rl_v rfl rfl rfl (ov_pick_t rfl rfl rfl) <| rl_v rfl rfl rfl (ov_assign rfl rfl) <| rl_nil ?_
        exfalso; exact absurd (k3.symm.trans k6) (by decide)
       ·exfalso; exact absurd (k3.symm.trans k6) (by decide)
      ·refine rl_gskip rfl rfl rfl rfl rfl rfl <| rl_gskip rfl rfl rfl rfl rfl rfl <| rl_gskip rfl rfl rfl rfl rfl rfl <| rl_gskip rfl rfl rfl rfl rfl rfl <| rl_gundef rfl rfl rfl rfl rfl <| rl_gundef rfl rfl rfl rfl rfl <| rl_gundef rfl rfl rfl rfl rfl <| rl_gskip rfl rfl rfl rfl rfl rfl <| rl_v rfl rfl rfl (ov_pick_f rfl rfl rfl) <| rl_v rfl rfl rfl (ov_assign rfl rfl) <| rl_nil <| run_cond_f rfl <| run_skip <| run_inBlock <| run_end Try.func175 (res0 Try.results175) ?_
       exact by unfold MW.cTake; dsimp only; rw [hs0, if_neg fun h => g1 h.1, if_neg fun h => g1 h.1, if_neg g1, if_neg fun h => s1n h.2, if_neg fun h => k6 h.1]; exact .inl ⟨rfl, rfl, (WAt.push2 hO12 hK hPl).drop.drop⟩
    ·refine rl_gskip rfl rfl rfl rfl rfl rfl <| rl_gskip rfl rfl rfl rfl rfl rfl <| rl_gskip rfl rfl rfl rfl rfl rfl <| rl_v rfl rfl rfl (ov_pick_f rfl rfl rfl) <| rl_v rfl rfl rfl (ov_assign rfl rfl) <| rl_nil <| run_cond_f rfl <| run_seq <| run_region <| rl_v rfl rfl rfl (ov_fieldS rfl Try.underlying201 rfl (fo := 2) rfl (by kernel_rfl) rfl) ?_
     refine rl_v rfl rfl rfl (ov_load rfl Try.underlying3 rfl rfl (by exact hO12.cellL 1 rfl rfl)) ?_
     refine rl_v rfl rfl rfl (ov_eql rfl rfl rfl) <| rl_v rfl rfl rfl (ov_move rfl rfl) ?_
     first | refine rl_split_dec 100 rfl (fun k6 => ?_) (fun k6 => ?_) | refine rl_split 100 rfl (fun k6 => ?_) (fun k6 => ?_)
     ·refine rl_gv rfl rfl rfl rfl rfl (ov_fieldS rfl Try.underlying239 rfl (fo := 0) rfl (by kernel_rfl) rfl) ?_
      refine rl_gv rfl rfl rfl rfl rfl (ov_load rfl Try.underlying3 rfl rfl (by exact hO12.cellL 0 rfl rfl)) ?_
      refine rl_gv rfl rfl rfl rfl rfl (ov_eql rfl rfl rfl) <| rl_gv rfl rfl rfl rfl rfl (ov_move rfl rfl) ?_
      first | refine rl_split_dec 104 rfl (fun s2 => ?_) (fun s2 => ?_) | refine rl_split 104 rfl (fun s2 => ?_) (fun s2 => ?_)
      ·refine rl_gskip rfl rfl rfl rfl rfl rfl <| rl_gskip rfl rfl rfl rfl rfl rfl <| rl_gskip rfl rfl rfl rfl rfl rfl <| rl_gv rfl rfl rfl rfl rfl (ov_pick_t rfl rfl rfl) <| rl_v rfl rfl rfl (ov_pick_t rfl rfl rfl) <| rl_v rfl rfl rfl (ov_assign rfl rfl) <| rl_nil <| run_cond_t rfl <| run_seq <| run_region <| rl_v rfl rfl rfl (ov_fieldS rfl Try.underlying201 rfl (fo := 0) rfl (by kernel_rfl) rfl) ?_
       refine rl_v rfl rfl rfl (ov_load rfl Try.underlying3 rfl rfl (by exact hO12.cellL 1 rfl rfl)) ?_
       refine rl_v rfl rfl rfl (ov_fieldS rfl Try.underlying239 rfl (fo := 2) rfl (by kernel_rfl) rfl) ?_
       refine rl_v rfl rfl rfl (ov_indexA1 rfl Try.underlying237 (by kernel_rfl) rfl rfl ⟨by omega, by omega⟩) ?_
       refine rl_ow rfl (ow_hear rfl rfl hO12 0 rfl rfl (by omega) rfl hf) ?_
       rintro _ w53 ⟨rfl, hO54, hs55⟩
       refine rl_nil <| run_seq <| run_seq <| run_region <| rl_v rfl rfl rfl (ov_fieldS rfl Try.underlying239 rfl (fo := 2) rfl (by kernel_rfl) rfl) ?_
       refine rl_v rfl rfl rfl (ov_indexA1 rfl Try.underlying237 (by kernel_rfl) rfl rfl ⟨by omega, by omega⟩) ?_
       refine rl_v rfl rfl rfl (ov_load rfl Try.underlying4 rfl rfl (by exact hO54.cellL 0 rfl rfl)) ?_
       refine rl_v rfl rfl rfl (ov_move rfl rfl) ?_
       first | refine rl_split_dec 117 rfl (fun gg2 => ?_) (fun gg2 => ?_) | refine rl_split 117 rfl (fun gg2 => ?_) (fun gg2 => ?_)
       ·refine rl_gv rfl rfl rfl rfl rfl (ov_fieldS rfl Try.underlying239 rfl (fo := 2) rfl (by kernel_rfl) rfl) ?_
        refine rl_gv rfl rfl rfl rfl rfl (ov_indexA1 rfl Try.underlying237 (by kernel_rfl) rfl rfl ⟨by omega, by omega⟩) ?_
        refine rl_gv rfl rfl rfl rfl rfl (ov_load rfl Try.underlying4 rfl rfl (by exact hO54.cellL 0 rfl rfl)) ?_
        refine rl_v rfl rfl rfl (ov_pick_t rfl rfl rfl) <| rl_nil ?_
        first | refine run_cond_dec rfl (fun gg3 => ?_) (fun gg3n => ?_) | refine run_cond rfl (fun gg3 => ?_) (fun gg3n => ?_)
        ·refine run_region <| rl_v rfl rfl rfl (ov_fieldS rfl Try.underlying239 rfl (fo := 0) rfl (by kernel_rfl) rfl) ?_
         refine rl_ow rfl (ow_storeL rfl rfl (by kernel_rfl) hO54 0 rfl rfl rfl rfl rfl) ?_
         rintro _ w57 ⟨rfl, hO58, hs59⟩
         refine rl_nil <| run_tail 7 mixed (by kernel_rfl) ?_
         have hO61 := hO58.drew
         generalize World.drew w57 = w60 at hO61 ⊢
         refine rt_v rfl rfl rfl (ov_move rfl rfl) <| rt_v rfl rfl rfl (ov_nil rfl rfl) <| rt_v rfl rfl rfl (ov_fieldS rfl Try.underlying191 rfl (fo := 5) rfl (by kernel_rfl) rfl) ?_
         refine rt_v rfl rfl rfl (ov_load rfl Try.underlying186 rfl rfl (by exact hO61.cellL 3 rfl rfl)) ?_
         refine rt_v rfl rfl rfl (ov_fieldS rfl Try.underlying201 rfl (fo := 3) rfl (by kernel_rfl) rfl) ?_
         refine rt_v rfl rfl rfl (ov_load rfl Try.underlying3 rfl rfl (by exact hO61.cellL 1 rfl rfl)) ?_
         refine rt_v rfl rfl rfl (ov_loadW rfl Try.underlying239 rfl (by kernel_rfl) rfl hO61 0 rfl) ?_
         refine rt_nil <| rl_ow rfl (ow_mapput rfl rfl Try.underlying186 Try.underlying3 hO61 6 rfl rfl rfl rfl) ?_
         rintro _ w62 ⟨rfl, hO63, hs64⟩
         refine rl_nil <| run_inBlock <| run_end Try.func175 (res0 Try.results175) ?_
         exact by unfold MW.cTake; dsimp only; rw [hs0, if_neg fun h => g1 h.1, if_neg fun h => g1 h.1, if_neg g1, if_neg fun h => k3 h.1, if_pos ⟨k6, .inl s2⟩, if_pos ⟨gg2, gg3⟩]; exact .inl ⟨rfl, rfl, (WAt.know2 (s := { s.hear m.f with st := 4 }) hO63 hK hPl).drop.drop⟩
        ·refine run_skip <| run_tail 7 mixed (by kernel_rfl) ?_
         have hO66 := hO54.drew
         generalize World.drew w53 = w65 at hO66 ⊢
         refine rt_v rfl rfl rfl (ov_move rfl rfl) <| rt_v rfl rfl rfl (ov_nil rfl rfl) <| rt_v rfl rfl rfl (ov_fieldS rfl Try.underlying191 rfl (fo := 5) rfl (by kernel_rfl) rfl) ?_
         refine rt_v rfl rfl rfl (ov_load rfl Try.underlying186 rfl rfl (by exact hO66.cellL 3 rfl rfl)) ?_
         refine rt_v rfl rfl rfl (ov_fieldS rfl Try.underlying201 rfl (fo := 3) rfl (by kernel_rfl) rfl) ?_
         refine rt_v rfl rfl rfl (ov_load rfl Try.underlying3 rfl rfl (by exact hO66.cellL 1 rfl rfl)) ?_
         refine rt_v rfl rfl rfl (ov_loadW rfl Try.underlying239 rfl (by kernel_rfl) rfl hO66 0 rfl) ?_
         refine rt_nil <| rl_ow rfl (ow_mapput rfl rfl Try.underlying186 Try.underlying3 hO66 6 rfl rfl rfl rfl) ?_
         rintro _ w67 ⟨rfl, hO68, hs69⟩
         refine rl_nil <| run_inBlock <| run_end Try.func175 (res0 Try.results175) ?_
         exact by unfold MW.cTake; dsimp only; rw [hs0, if_neg fun h => g1 h.1, if_neg fun h => g1 h.1, if_neg g1, if_neg fun h => k3 h.1, if_pos ⟨k6, .inl s2⟩, if_neg (fun h => by rw [gg3n] at h; exact absurd h.2 Bool.noConfusion)]; exact .inl ⟨rfl, rfl, (WAt.know2 (s := s.hear m.f) hO68 hK hPl).drop.drop⟩
       ·refine rl_gskip rfl rfl rfl rfl rfl rfl <| rl_gskip rfl rfl rfl rfl rfl rfl <| rl_gskip rfl rfl rfl rfl rfl rfl <| rl_v rfl rfl rfl (ov_pick_f rfl rfl rfl) <| rl_nil <| run_cond_f rfl <| run_skip <| run_tail 7 mixed (by kernel_rfl) ?_
        have hO71 := hO54.drew
        generalize World.drew w53 = w70 at hO71 ⊢
        refine rt_v rfl rfl rfl (ov_move rfl rfl) <| rt_v rfl rfl rfl (ov_nil rfl rfl) <| rt_v rfl rfl rfl (ov_fieldS rfl Try.underlying191 rfl (fo := 5) rfl (by kernel_rfl) rfl) ?_
        refine rt_v rfl rfl rfl (ov_load rfl Try.underlying186 rfl rfl (by exact hO71.cellL 3 rfl rfl)) ?_
        refine rt_v rfl rfl rfl (ov_fieldS rfl Try.underlying201 rfl (fo := 3) rfl (by kernel_rfl) rfl) ?_
        refine rt_v rfl rfl rfl (ov_load rfl Try.underlying3 rfl rfl (by exact hO71.cellL 1 rfl rfl)) ?_
        refine rt_v rfl rfl rfl (ov_loadW rfl Try.underlying239 rfl (by kernel_rfl) rfl hO71 0 rfl) ?_
        refine rt_nil <| rl_ow rfl (ow_mapput rfl rfl Try.underlying186 Try.underlying3 hO71 6 rfl rfl rfl rfl) ?_
        rintro _ w72 ⟨rfl, hO73, hs74⟩
        refine rl_nil <| run_inBlock <| run_end Try.func175 (res0 Try.results175) ?_
        exact by unfold MW.cTake; dsimp only; rw [hs0, if_neg fun h => g1 h.1, if_neg fun h => g1 h.1, if_neg g1, if_neg fun h => k3 h.1, if_pos ⟨k6, .inl s2⟩, if_neg (fun h => by rw [gg2] at h; exact absurd h.1 Bool.noConfusion)]; exact .inl ⟨rfl, rfl, (WAt.know2 (s := s.hear m.f) hO73 hK hPl).drop.drop⟩
      ·refine rl_gv rfl rfl rfl rfl rfl (ov_fieldS rfl Try.underlying239 rfl (fo := 0) rfl (by kernel_rfl) rfl) ?_
       refine rl_gv rfl rfl rfl rfl rfl (ov_load rfl Try.underlying3 rfl rfl (by exact hO12.cellL 0 rfl rfl)) ?_
       refine rl_gv rfl rfl rfl rfl rfl (ov_eql rfl rfl rfl) <| rl_gv rfl rfl rfl rfl rfl (ov_pick_f rfl rfl rfl) <| rl_v rfl rfl rfl (ov_pick_t rfl rfl rfl) <| rl_v rfl rfl rfl (ov_assign rfl rfl) <| rl_nil ?_
       first | refine run_cond_dec rfl (fun s3 => ?_) (fun s3n => ?_) | refine run_cond rfl (fun s3 => ?_) (fun s3n => ?_)
       ·refine run_seq <| run_region <| rl_v rfl rfl rfl (ov_fieldS rfl Try.underlying201 rfl (fo := 0) rfl (by kernel_rfl) rfl) ?_
        refine rl_v rfl rfl rfl (ov_load rfl Try.underlying3 rfl rfl (by exact hO12.cellL 1 rfl rfl)) ?_
        refine rl_v rfl rfl rfl (ov_fieldS rfl Try.underlying239 rfl (fo := 2) rfl (by kernel_rfl) rfl) ?_
        refine rl_v rfl rfl rfl (ov_indexA1 rfl Try.underlying237 (by kernel_rfl) rfl rfl ⟨by omega, by omega⟩) ?_
        refine rl_ow rfl (ow_hear rfl rfl hO12 0 rfl rfl (by omega) rfl hf) ?_
        rintro _ w75 ⟨rfl, hO76, hs77⟩
        refine rl_nil <| run_seq <| run_seq <| run_region <| rl_v rfl rfl rfl (ov_fieldS rfl Try.underlying239 rfl (fo := 2) rfl (by kernel_rfl) rfl) ?_
        refine rl_v rfl rfl rfl (ov_indexA1 rfl Try.underlying237 (by kernel_rfl) rfl rfl ⟨by omega, by omega⟩) ?_
        refine rl_v rfl rfl rfl (ov_load rfl Try.underlying4 rfl rfl (by exact hO76.cellL 0 rfl rfl)) ?_
        refine rl_v rfl rfl rfl (ov_move rfl rfl) ?_
        first | refine rl_split_dec 117 rfl (fun gg2 => ?_) (fun gg2 => ?_) | refine rl_split 117 rfl (fun gg2 => ?_) (fun gg2 => ?_)
        ·refine rl_gv rfl rfl rfl rfl rfl (ov_fieldS rfl Try.underlying239 rfl (fo := 2) rfl (by kernel_rfl) rfl) ?_
         refine rl_gv rfl rfl rfl rfl rfl (ov_indexA1 rfl Try.underlying237 (by kernel_rfl) rfl rfl ⟨by omega, by omega⟩) ?_
         refine rl_gv rfl rfl rfl rfl rfl (ov_load rfl Try.underlying4 rfl rfl (by exact hO76.cellL 0 rfl rfl)) ?_
         refine rl_v rfl rfl rfl (ov_pick_t rfl rfl rfl) <| rl_nil ?_
         first | refine run_cond_dec rfl (fun gg3 => ?_) (fun gg3n => ?_) | refine run_cond rfl (fun gg3 => ?_) (fun gg3n => ?_)
         ·refine run_region <| rl_v rfl rfl rfl (ov_fieldS rfl Try.underlying239 rfl (fo := 0) rfl (by kernel_rfl) rfl) ?_
          refine rl_ow rfl (ow_storeL rfl rfl (by kernel_rfl) hO76 0 rfl rfl rfl rfl rfl) ?_
          rintro _ w79 ⟨rfl, hO80, hs81⟩
          refine rl_nil <| run_tail 7 mixed (by kernel_rfl) ?_
          have hO83 := hO80.drew
          generalize World.drew w79 = w82 at hO83 ⊢
          refine rt_v rfl rfl rfl (ov_move rfl rfl) <| rt_v rfl rfl rfl (ov_nil rfl rfl) <| rt_v rfl rfl rfl (ov_fieldS rfl Try.underlying191 rfl (fo := 5) rfl (by kernel_rfl) rfl) ?_
          refine rt_v rfl rfl rfl (ov_load rfl Try.underlying186 rfl rfl (by exact hO83.cellL 3 rfl rfl)) ?_
          refine rt_v rfl rfl rfl (ov_fieldS rfl Try.underlying201 rfl (fo := 3) rfl (by kernel_rfl) rfl) ?_
          refine rt_v rfl rfl rfl (ov_load rfl Try.underlying3 rfl rfl (by exact hO83.cellL 1 rfl rfl)) ?_
          refine rt_v rfl rfl rfl (ov_loadW rfl Try.underlying239 rfl (by kernel_rfl) rfl hO83 0 rfl) ?_
          refine rt_nil <| rl_ow rfl (ow_mapput rfl rfl Try.underlying186 Try.underlying3 hO83 6 rfl rfl rfl rfl) ?_
          rintro _ w84 ⟨rfl, hO85, hs86⟩
          refine rl_nil <| run_inBlock <| run_end Try.func175 (res0 Try.results175) ?_
          exact by unfold MW.cTake; dsimp only; rw [hs0, if_neg fun h => g1 h.1, if_neg fun h => g1 h.1, if_neg g1, if_neg fun h => k3 h.1, if_pos ⟨k6, .inr s3⟩, if_pos ⟨gg2, gg3⟩]; exact .inl ⟨rfl, rfl, (WAt.know2 (s := { s.hear m.f with st := 4 }) hO85 hK hPl).drop.drop⟩
         ·refine run_skip <| run_tail 7 mixed (by kernel_rfl) ?_
          have hO88 := hO76.drew
          generalize World.drew w75 = w87 at hO88 ⊢
          refine rt_v rfl rfl rfl (ov_move rfl rfl) <| rt_v rfl rfl rfl (ov_nil rfl rfl) <| rt_v rfl rfl rfl (ov_fieldS rfl Try.underlying191 rfl (fo := 5) rfl (by kernel_rfl) rfl) ?_
          refine rt_v rfl rfl rfl (ov_load rfl Try.underlying186 rfl rfl (by exact hO88.cellL 3 rfl rfl)) ?_
          refine rt_v rfl rfl rfl (ov_fieldS rfl Try.underlying201 rfl (fo := 3) rfl (by kernel_rfl) rfl) ?_
          refine rt_v rfl rfl rfl (ov_load rfl Try.underlying3 rfl rfl (by exact hO88.cellL 1 rfl rfl)) ?_
          refine rt_v rfl rfl rfl (ov_loadW rfl Try.underlying239 rfl (by kernel_rfl) rfl hO88 0 rfl) ?_
          refine rt_nil <| rl_ow rfl (ow_mapput rfl rfl Try.underlying186 Try.underlying3 hO88 6 rfl rfl rfl rfl) ?_
          rintro _ w89 ⟨rfl, hO90, hs91⟩
          refine rl_nil <| run_inBlock <| run_end Try.func175 (res0 Try.results175) ?_
          exact by unfold MW.cTake; dsimp only; rw [hs0, if_neg fun h => g1 h.1, if_neg fun h => g1 h.1, if_neg g1, if_neg fun h => k3 h.1, if_pos ⟨k6, .inr s3⟩, if_neg (fun h => by rw [gg3n] at h; exact absurd h.2 Bool.noConfusion)]; exact .inl ⟨rfl, rfl, (WAt.know2 (s := s.hear m.f) hO90 hK hPl).drop.drop⟩
        ·refine rl_gskip rfl rfl rfl rfl rfl rfl <| rl_gskip rfl rfl rfl rfl rfl rfl <| rl_gskip rfl rfl rfl rfl rfl rfl <| rl_v rfl rfl rfl (ov_pick_f rfl rfl rfl) <| rl_nil <| run_cond_f rfl <| run_skip <| run_tail 7 mixed (by kernel_rfl) ?_
         have hO93 := hO76.drew
         generalize World.drew w75 = w92 at hO93 ⊢
         refine rt_v rfl rfl rfl (ov_move rfl rfl) <| rt_v rfl rfl rfl (ov_nil rfl rfl) <| rt_v rfl rfl rfl (ov_fieldS rfl Try.underlying191 rfl (fo := 5) rfl (by kernel_rfl) rfl) ?_
         refine rt_v rfl rfl rfl (ov_load rfl Try.underlying186 rfl rfl (by exact hO93.cellL 3 rfl rfl)) ?_
         refine rt_v rfl rfl rfl (ov_fieldS rfl Try.underlying201 rfl (fo := 3) rfl (by kernel_rfl) rfl) ?_
         refine rt_v rfl rfl rfl (ov_load rfl Try.underlying3 rfl rfl (by exact hO93.cellL 1 rfl rfl)) ?_
         refine rt_v rfl rfl rfl (ov_loadW rfl Try.underlying239 rfl (by kernel_rfl) rfl hO93 0 rfl) ?_
         refine rt_nil <| rl_ow rfl (ow_mapput rfl rfl Try.underlying186 Try.underlying3 hO93 6 rfl rfl rfl rfl) ?_
         rintro _ w94 ⟨rfl, hO95, hs96⟩
         refine rl_nil <| run_inBlock <| run_end Try.func175 (res0 Try.results175) ?_
         exact by unfold MW.cTake; dsimp only; rw [hs0, if_neg fun h => g1 h.1, if_neg fun h => g1 h.1, if_neg g1, if_neg fun h => k3 h.1, if_pos ⟨k6, .inr s3⟩, if_neg (fun h => by rw [gg2] at h; exact absurd h.1 Bool.noConfusion)]; exact .inl ⟨rfl, rfl, (WAt.know2 (s := s.hear m.f) hO95 hK hPl).drop.drop⟩
       ·refine run_skip <| run_inBlock <| run_end Try.func175 (res0 Try.results175) ?_
        exact by unfold MW.cTake; dsimp only; rw [hs0, if_neg fun h => g1 h.1, if_neg fun h => g1 h.1, if_neg g1, if_neg fun h => k3 h.1, if_neg fun h => h.2.elim s2 s3n]; exact .inl ⟨rfl, rfl, (WAt.push2 hO12 hK hPl).drop.drop⟩
     ·refine rl_gskip rfl rfl rfl rfl rfl rfl <| rl_gskip rfl rfl rfl rfl rfl rfl <| rl_gskip rfl rfl rfl rfl rfl rfl <| rl_gskip rfl rfl rfl rfl rfl rfl <| rl_gundef rfl rfl rfl rfl rfl <| rl_gundef rfl rfl rfl rfl rfl <| rl_gundef rfl rfl rfl rfl rfl <| rl_gskip rfl rfl rfl rfl rfl rfl <| rl_v rfl rfl rfl (ov_pick_f rfl rfl rfl) <| rl_v rfl rfl rfl (ov_assign rfl rfl) <| rl_nil <| run_cond_f rfl <| run_skip <| run_inBlock <| run_end Try.func175 (res0 Try.results175) ?_
      exact by unfold MW.cTake; dsimp only; rw [hs0, if_neg fun h => g1 h.1, if_neg fun h => g1 h.1, if_neg g1, if_neg fun h => k3 h.1, if_neg fun h => k6 h.1]; exact .inl ⟨rfl, rfl, (WAt.push2 hO12 hK hPl).drop.drop⟩
theorem Own.rangeT {B : Nat} {w0 w : World} {H : List (Option Blk)} (h : Own B w0 w H) (k : Nat) {b : Nat} {t : TypeId} {vs : List Value} (hk : H[k]? = some (some (lch b t vs))) (off : Nat) {cs : List Value} (hc : (vs.drop off).take cs.length = cs) : w.rangeAt b off cs := fun j v hv => by
 refine h.cellL k hk ?_
 rw [← hc] at hv
 have h1 := List.getElem?_eq_some_iff.1 hv
 obtain ⟨hl, _⟩ := h1
 rw [List.getElem?_take] at hv
 split at hv
 ·rw [List.getElem?_drop] at hv; exact hv
 ·exact absurd hv (by simp)
namespace MW
theorem both_same (X : MW) (k d : Int) (h1 h2 : Bool) : (X.both k d h1 h2).lg = X.lg ∧ (X.both k d h1 h2).deals = X.deals ∧ (X.both k d h1 h2).pat = X.pat ∧ (X.both k d h1 h2).kn = X.kn := by
 unfold both send; cases h1 <;> cases h2 <;> exact ⟨rfl, rfl, rfl, rfl⟩
theorem turn_same (X : MW) (d st k : Int) : (X.turn d st k).lg = X.lg ∧ (X.turn d st k).deals = X.deals ∧ (X.turn d st k).pat = X.pat ∧ (X.turn d st k).kn = upd X.kn d (Ds.s st) := both_same (X.know d (Ds.s st)) k d false false
theorem turn_len (X : MW) (d st k : Int) : (X.turn d st k).bag.length ≤ X.bag.length + 2 := (both_len (X.know d (Ds.s st)) k d false false).2
theorem cTick1_same (X : MW) (d : Int) : (X.cTick1 d).lg = X.lg ∧ (X.cTick1 d).deals = X.deals ∧ (X.cTick1 d).pat = X.pat ∧ (∀ j, j ≠ d → (X.cTick1 d).kn j = X.kn j) ∧ (X.cTick1 d).bag.length ≤ X.bag.length + 2 := by
 have hu : ∀ (g : Int → Ds) (v : Ds) (j : Int), j ≠ d → upd g d v j = g j := fun g v j hj => upd_ne _ _ hj
 unfold cTick1
 dsimp only
 split
 ·split
  ·obtain ⟨a, b, c, e⟩ := turn_same (X.know d { X.kn d with wt := (X.kn d).wt + 1 }) d 3 5
   exact ⟨a, b, c, fun j hj => by rw [e]; exact (hu _ _ j hj).trans (hu _ _ j hj), turn_len (X.know d _) d 3 5⟩
  ·obtain ⟨a, b, c, e⟩ := both_same (X.know d { X.kn d with wt := (X.kn d).wt + 1 }) 1 d (X.kn d).h1 (X.kn d).h2
   exact ⟨a, b, c, fun j hj => by rw [e]; exact hu _ _ j hj, (both_len (X.know d _) 1 d _ _).2⟩
 ·split
  ·obtain ⟨a, b, c, e⟩ := both_same X 4 d (X.kn d).h1 (X.kn d).h2
   exact ⟨a, b, c, fun j hj => by rw [e], (both_len X 4 d _ _).2⟩
  ·split
   ·obtain ⟨a, b, c, e⟩ := both_same X 5 d (X.kn d).h1 (X.kn d).h2
    exact ⟨a, b, c, fun j hj => by rw [e], (both_len X 5 d _ _).2⟩
   ·exact ⟨rfl, rfl, rfl, fun _ _ => rfl, by omega⟩
theorem cTick_same (X : MW) : ∀ k : Nat, (X.cTick k).lg = X.lg ∧ (X.cTick k).deals = X.deals ∧ (X.cTick k).pat = X.pat ∧ (∀ j : Int, j ≤ 0 ∨ j > k → (X.cTick k).kn j = X.kn j) ∧ (X.cTick k).bag.length ≤ X.bag.length + 2 * k
 | 0 => ⟨rfl, rfl, rfl, fun _ _ => rfl, by simp [cTick]⟩
 | k + 1 => by
  obtain ⟨a, b, c, d, e⟩ := cTick_same X k
  obtain ⟨a', b', c', d', e'⟩ := (X.cTick k).cTick1_same (k + 1)
  exact ⟨a'.trans a, b'.trans b, c'.trans c, fun j hj => (d' j (by omega)).trans (d j (by omega)), by unfold cTick; omega⟩
end MW
theorem coTick_any (A : WA) (X : MW) (B : Nat) (Pl R : List (Option Blk)) (w0 w : World) (hG : Good X) (hb : X.bag.length + 5000 < 4000000000000) (h : WAt B w0 w A X Pl R) :
  Calls Try.prog 176 #[ptr A.C] w fun e w' => e = .returned (.tuple #[]) ∧ WAt B w0 w' A (X.cTick X.deals.length) Pl R := by
 have hdn := hG.dn
 have hpt := hG.pat
 have h0 := h
 obtain ⟨K, N, hO, hK, hPl⟩ := h
 refine calls_of_run (F := [(0, _)]) Try.func176 rfl Try.ntmps176 rfl rfl <| run_seq <| run_region <| rl_v rfl rfl rfl (ov_assign rfl rfl) <| rl_nil <| run_block <| Run.keep [0, 2] (F' := [(0, _), (2, _)]) rfl <| run_loop2 (fun (i : Int) (k : Nat) => [(2, .int .i64 i)]) [0] (fun (i : Int) (k : Nat) (w1 : World) => i = k + 1 ∧ k ≤ X.deals.length ∧ WAt B w0 w1 A (X.cTick k) Pl R) (fun (i : Int) (k : Nat) => X.deals.length - k) (1) (0) ?_ (And.intro (by exact slot_int rfl (by first | omega)) (And.intro rfl trivial)) ?_
 ·exact ⟨by omega, by omega, h0⟩
 intro i k w1 hIw1 ih2
 obtain ⟨hi, hk, hW⟩ := hIw1
 show Run _ _ _ _ [(2, _), (0, _)] _ _
 obtain ⟨K2, N2, hO2, hK2, hPl2⟩ := hW
 obtain ⟨e1, e2, e3, e4, e5⟩ := X.cTick_same k
 obtain ⟨dao, dcap, hdv, _⟩ := hK2.dv.val
 have hwt := hG.wt ((k : Int) + 1)
 rw [e2] at hdv
 rw [← e4 _ (by omega)] at hwt
 subst hi
 refine run_seq <| run_seq <| run_region <| rl_v rfl rfl rfl (ov_move rfl rfl) <| rl_v rfl rfl rfl (ov_move rfl rfl) <| rl_v rfl rfl rfl (ov_nil rfl rfl) <| rl_v rfl rfl rfl (ov_fieldS rfl Try.underlying191 rfl (fo := 4) rfl (by kernel_rfl) rfl) ?_
 refine rl_v rfl rfl rfl (ov_load rfl Try.underlying100 rfl rfl (by exact hO2.cellL 1 rfl rfl)) ?_
 refine rl_v rfl rfl rfl (ov_nil rfl rfl) <| rl_v rfl rfl rfl (ov_fieldS rfl Try.underlying184 rfl (fo := 4) rfl (by kernel_rfl) rfl) ?_
 refine rl_v rfl rfl rfl (ov_load rfl Try.underlying178 rfl rfl (by exact hO2.cellL 0 rfl (congrArg some hdv))) ?_
 refine rl_v rfl rfl rfl (ov_len rfl Try.underlying178 rfl) <| rl_v rfl rfl rfl (ov_leq rfl rfl rfl) <| rl_nil ?_
 first | refine run_cond_dec rfl (fun hi => ?_) (fun hi => ?_) | refine run_cond rfl (fun hi => ?_) (fun hi => ?_)
 ·refine run_skip <| run_seq <| run_block <| run_seq <| run_region <| rl_v rfl rfl rfl (ov_move rfl rfl) <| rl_v rfl rfl rfl (ov_nil rfl rfl) <| rl_v rfl rfl rfl (ov_fieldS rfl Try.underlying191 rfl (fo := 5) rfl (by kernel_rfl) rfl) ?_
  refine rl_v rfl rfl rfl (ov_load rfl Try.underlying186 rfl rfl (by exact hO2.cellL 1 rfl rfl)) ?_
  refine rl_v rfl rfl rfl (ov_move rfl rfl) <| rl_v rfl rfl rfl (ov_know rfl rfl rfl (hO2.mapAt 4 rfl) hK2.mp) <| rl_ow rfl (ow_alloc _ rfl rfl rfl zero_239 rfl hO2) ?_
  rintro _ w3 ⟨b3, rfl, hO4, hs5⟩
  refine rl_ow rfl (ow_storeW rfl rfl (by kernel_rfl) hO4 0 rfl rfl (by rfl) rfl (by rfl)) ?_
  rintro _ w6 ⟨rfl, hO7, hs8⟩
  generalize hs0 : (X.cTick k).kn ((k : Int) + 1) = s at *
  have hone : (X.cTick (k + 1)) = (X.cTick k).cTick1 ((k : Int) + 1) := rfl
  refine rl_nil <| run_seq <| run_region <| rl_v rfl rfl rfl (ov_fieldS rfl Try.underlying239 rfl (fo := 0) rfl (by kernel_rfl) rfl) ?_
  refine rl_v rfl rfl rfl (ov_load rfl Try.underlying3 rfl rfl (by exact hO7.cellL 0 rfl rfl)) ?_
  refine rl_nil <| run_block <| run_seq <| run_region <| rl_v rfl rfl rfl (ov_eql rfl rfl rfl) <| rl_v rfl rfl rfl (ov_assign rfl rfl) <| rl_nil ?_
  first | refine run_cond_dec rfl (fun s1 => ?_) (fun s1n => ?_) | refine run_cond rfl (fun s1 => ?_) (fun s1n => ?_)
  ·refine run_seq <| run_region <| rl_v rfl rfl rfl (ov_fieldS rfl Try.underlying239 rfl (fo := 1) rfl (by kernel_rfl) rfl) ?_
   refine rl_v rfl rfl rfl (ov_load rfl Try.underlying3 rfl rfl (by exact hO7.cellL 0 rfl rfl)) ?_
   refine rl_v rfl rfl rfl (ov_add rfl rfl rfl (by omega)) ?_
   refine rl_v rfl rfl rfl (ov_fieldS rfl Try.underlying239 rfl (fo := 1) rfl (by kernel_rfl) rfl) ?_
   refine rl_ow rfl (ow_storeL rfl rfl (by kernel_rfl) hO7 0 rfl rfl rfl rfl rfl) ?_
   rintro _ w9 ⟨rfl, hO10, hs11⟩
   refine rl_nil <| run_seq <| run_tail 6 mixed (by kernel_rfl) ?_
   have hO13 := hO10.drew
   generalize World.drew w9 = w12 at hO13 ⊢
   refine rt_v rfl rfl rfl (ov_move rfl rfl) <| rt_v rfl rfl rfl (ov_nil rfl rfl) <| rt_v rfl rfl rfl (ov_fieldS rfl Try.underlying191 rfl (fo := 5) rfl (by kernel_rfl) rfl) ?_
   refine rt_v rfl rfl rfl (ov_load rfl Try.underlying186 rfl rfl (by exact hO13.cellL 2 rfl rfl)) ?_
   refine rt_v rfl rfl rfl (ov_move rfl rfl) <| rt_v rfl rfl rfl (ov_loadW rfl Try.underlying239 rfl (by kernel_rfl) rfl hO13 0 rfl) ?_
   refine rt_nil <| rl_ow rfl (ow_mapput rfl rfl Try.underlying186 Try.underlying3 hO13 5 rfl rfl rfl rfl) ?_
   rintro _ w14 ⟨rfl, hO15, hs16⟩
   have hY : ((X.cTick k).know ((k : Int) + 1) { s with wt := s.wt + 1 }).bag.length + 2 ≤ 4000000000000 := by show (X.cTick k).bag.length + 2 ≤ _; omega
   refine rl_nil <| run_seq <| run_quiet mixed (by kernel_rfl) ?_
   refine rq_v rfl rfl rfl (fun _ => ov_fieldS rfl Try.underlying239 rfl (fo := 1) rfl (by kernel_rfl) rfl) ?_
   refine rq_v rfl rfl rfl (fun _ => ov_load rfl Try.underlying3 rfl rfl (by show World.cell? w14 _ = _; first | exact hO15.cellI 0 rfl _ (by omega) (by omega) | exact hO15.cellL 0 rfl rfl | exact hO15.cellI 1 rfl _ (by omega) (by omega) | exact hO15.cellL 1 rfl rfl | exact hO15.cellI 2 rfl _ (by omega) (by omega) | exact hO15.cellL 2 rfl rfl | exact hO15.cellI 3 rfl _ (by omega) (by omega) | exact hO15.cellL 3 rfl rfl | exact hO15.cellI 4 rfl _ (by omega) (by omega) | exact hO15.cellL 4 rfl rfl | exact hO15.cellI 5 rfl _ (by omega) (by omega) | exact hO15.cellL 5 rfl rfl)) ?_
   refine rq_v rfl rfl rfl (fun _ => ov_move rfl rfl) ?_
   refine rq_v rfl rfl rfl (fun _ => ov_nil rfl rfl) ?_
   refine rq_v rfl rfl rfl (fun _ => ov_fieldS rfl Try.underlying191 rfl (fo := 4) rfl (by kernel_rfl) rfl) ?_
   refine rq_v rfl rfl rfl (fun _ => ov_load rfl Try.underlying100 rfl rfl (by show World.cell? w14 _ = _; first | exact hO15.cellI 0 rfl _ (by omega) (by omega) | exact hO15.cellL 0 rfl rfl | exact hO15.cellI 1 rfl _ (by omega) (by omega) | exact hO15.cellL 1 rfl rfl | exact hO15.cellI 2 rfl _ (by omega) (by omega) | exact hO15.cellL 2 rfl rfl | exact hO15.cellI 3 rfl _ (by omega) (by omega) | exact hO15.cellL 3 rfl rfl | exact hO15.cellI 4 rfl _ (by omega) (by omega) | exact hO15.cellL 4 rfl rfl | exact hO15.cellI 5 rfl _ (by omega) (by omega) | exact hO15.cellL 5 rfl rfl)) ?_
   refine rq_v rfl rfl rfl (fun _ => ov_nil rfl rfl) ?_
   refine rq_v rfl rfl rfl (fun _ => ov_fieldS rfl Try.underlying184 rfl (fo := 0) rfl (by kernel_rfl) rfl) ?_
   refine rq_v rfl rfl rfl (fun _ => ov_fieldS rfl Try.underlying104 rfl (fo := 1) rfl (by kernel_rfl) rfl) ?_
   refine rq_v rfl rfl rfl (fun _ => ov_load rfl Try.underlying3 rfl rfl (by show World.cell? w14 _ = _; first | exact hO15.cellI 0 rfl _ (by omega) (by omega) | exact hO15.cellL 0 rfl rfl | exact hO15.cellI 1 rfl _ (by omega) (by omega) | exact hO15.cellL 1 rfl rfl | exact hO15.cellI 2 rfl _ (by omega) (by omega) | exact hO15.cellL 2 rfl rfl | exact hO15.cellI 3 rfl _ (by omega) (by omega) | exact hO15.cellL 3 rfl rfl | exact hO15.cellI 4 rfl _ (by omega) (by omega) | exact hO15.cellL 4 rfl rfl | exact hO15.cellI 5 rfl _ (by omega) (by omega) | exact hO15.cellL 5 rfl rfl)) ?_
   refine rq_v rfl rfl rfl (fun _ => ov_eql rfl rfl rfl) ?_
   refine rq_nil (fun n17 => ?_)
   have hO19 := hO15.drewN n17
   generalize World.drewN w14 n17 = w18 at hO19 ⊢
   first | refine run_cond_dec rfl (fun hw => ?_) (fun hwn => ?_) | refine run_cond rfl (fun hw => ?_) (fun hwn => ?_)
   ·rw [e3] at hw
    have hW : WAt B w0 w18 A ((X.cTick k).know ((k : Int) + 1) { s with wt := s.wt + 1 }) Pl (some (lch b3 239 (dsl { s with wt := s.wt + 1 })) :: R) := WAt.push (K := { K2 with L := mput K2.L ((k : Int) + 1) (dsv { s with wt := s.wt + 1 }) }) hO19 { hK2 with mp := hK2.mp.put ((k : Int) + 1) { s with wt := s.wt + 1 } } hPl2
    refine run_region <| rl_v rfl rfl rfl (ov_move rfl rfl) <| rl_v rfl rfl rfl (ov_move rfl rfl) ?_
    refine rl_call callable_102 rfl rfl rfl rfl rfl rfl (turn_any A ((X.cTick k).know ((k : Int) + 1) { s with wt := s.wt + 1 }) ((k : Int) + 1) 3 5 B Pl _ w0 w18 hY hW) (fun e20 w21 hp22 => ?_)
    obtain ⟨rfl, hW3⟩ := hp22
    refine ⟨_, rfl, ?_⟩
    obtain ⟨K4, N4, hO4, hK4, hPl4⟩ := hW3.drop
    refine rl_nil <| run_inBlock <| run_inBlock <| run_region <| rl_v rfl rfl rfl (ov_move rfl rfl) <| rl_v rfl rfl rfl (ov_add rfl rfl rfl (by omega)) ?_
    refine rl_v rfl rfl rfl (ov_assign rfl rfl) <| rl_nil ?_
    refine Run.use (ih2 ((k : Int) + 1 + 1) (k + 1) _ ?_ ?_) (And.intro (by exact slot_int rfl (by first | omega)) (And.intro rfl trivial))
    ·first | omega | (dsimp only; omega)
    ·exact ⟨by omega, by omega, by rw [hone]; unfold MW.cTick1; dsimp only; rw [hs0, if_pos s1, if_pos (by rw [e3]; exact hw)]; exact ⟨K4, N4, hO4, hK4, hPl4⟩⟩
   ·rw [e3] at hwn
    have hW : WAt B w0 w18 A ((X.cTick k).know ((k : Int) + 1) { s with wt := s.wt + 1 }) Pl (some (lch b3 239 (dsl { s with wt := s.wt + 1 })) :: R) := WAt.push (K := { K2 with L := mput K2.L ((k : Int) + 1) (dsv { s with wt := s.wt + 1 }) }) hO19 { hK2 with mp := hK2.mp.put ((k : Int) + 1) { s with wt := s.wt + 1 } } hPl2
    refine run_region <| rl_v rfl rfl rfl (ov_move rfl rfl) <| rl_v rfl rfl rfl (ov_move rfl rfl) <| rl_v rfl rfl rfl (ov_fieldS rfl Try.underlying239 rfl (fo := 2) rfl (by kernel_rfl) rfl) ?_
    refine rl_v rfl rfl rfl (ov_loadN rfl Try.underlying237 rfl (by kernel_rfl) rfl ((hO19.rangeT 0 rfl 2 (cs := [.bool s.h0, .bool s.h1, .bool s.h2]) rfl))) ?_
    refine rl_call callable_135 rfl rfl rfl rfl rfl rfl (sendBoth_any A ((X.cTick k).know ((k : Int) + 1) { s with wt := s.wt + 1 }) 1 ((k : Int) + 1) s.h0 s.h1 s.h2 B Pl _ w0 w18 hY hW) (fun e23 w24 hp25 => ?_)
    obtain ⟨rfl, hW3⟩ := hp25
    refine ⟨_, rfl, ?_⟩
    obtain ⟨K4, N4, hO4, hK4, hPl4⟩ := hW3.drop
    refine rl_nil <| run_inBlock <| run_inBlock <| run_region <| rl_v rfl rfl rfl (ov_move rfl rfl) <| rl_v rfl rfl rfl (ov_add rfl rfl rfl (by omega)) ?_
    refine rl_v rfl rfl rfl (ov_assign rfl rfl) <| rl_nil ?_
    refine Run.use (ih2 ((k : Int) + 1 + 1) (k + 1) _ ?_ ?_) (And.intro (by exact slot_int rfl (by first | omega)) (And.intro rfl trivial))
    ·first | omega | (dsimp only; omega)
    ·exact ⟨by omega, by omega, by rw [hone]; unfold MW.cTick1; dsimp only; rw [hs0, if_pos s1, if_neg (by rw [e3]; exact hwn)]; exact ⟨K4, N4, hO4, hK4, hPl4⟩⟩
  ·refine run_seq <| run_region <| rl_v rfl rfl rfl (ov_eql rfl rfl rfl) <| rl_v rfl rfl rfl (ov_assign rfl rfl) <| rl_nil ?_
   first | refine run_cond_dec rfl (fun s2 => ?_) (fun s2n => ?_) | refine run_cond rfl (fun s2 => ?_) (fun s2n => ?_)
   ·refine run_region <| rl_v rfl rfl rfl (ov_move rfl rfl) <| rl_v rfl rfl rfl (ov_move rfl rfl) <| rl_v rfl rfl rfl (ov_fieldS rfl Try.underlying239 rfl (fo := 2) rfl (by kernel_rfl) rfl) ?_
    refine rl_v rfl rfl rfl (ov_loadN rfl Try.underlying237 rfl (by kernel_rfl) rfl ((hO7.rangeT 0 rfl 2 (cs := [.bool s.h0, .bool s.h1, .bool s.h2]) rfl))) ?_
    refine rl_call callable_135 rfl rfl rfl rfl rfl rfl (sendBoth_any A (X.cTick k) 4 ((k : Int) + 1) s.h0 s.h1 s.h2 B Pl _ w0 w6 (by omega) (WAt.push hO7 hK2 hPl2)) (fun e26 w27 hp28 => ?_)
    obtain ⟨rfl, hW3⟩ := hp28
    refine ⟨_, rfl, ?_⟩
    obtain ⟨K4, N4, hO4, hK4, hPl4⟩ := hW3.drop
    refine rl_nil <| run_inBlock <| run_inBlock <| run_region <| rl_v rfl rfl rfl (ov_move rfl rfl) <| rl_v rfl rfl rfl (ov_add rfl rfl rfl (by omega)) ?_
    refine rl_v rfl rfl rfl (ov_assign rfl rfl) <| rl_nil ?_
    refine Run.use (ih2 ((k : Int) + 1 + 1) (k + 1) _ ?_ ?_) (And.intro (by exact slot_int rfl (by first | omega)) (And.intro rfl trivial))
    ·first | omega | (dsimp only; omega)
    ·exact ⟨by omega, by omega, by rw [hone]; unfold MW.cTick1; dsimp only; rw [hs0, if_neg s1n, if_pos s2]; exact ⟨K4, N4, hO4, hK4, hPl4⟩⟩
   ·refine run_seq <| run_region <| rl_v rfl rfl rfl (ov_eql rfl rfl rfl) <| rl_v rfl rfl rfl (ov_assign rfl rfl) <| rl_nil ?_
    first | refine run_cond_dec rfl (fun s3 => ?_) (fun s3n => ?_) | refine run_cond rfl (fun s3 => ?_) (fun s3n => ?_)
    ·refine run_region <| rl_v rfl rfl rfl (ov_move rfl rfl) <| rl_v rfl rfl rfl (ov_move rfl rfl) <| rl_v rfl rfl rfl (ov_fieldS rfl Try.underlying239 rfl (fo := 2) rfl (by kernel_rfl) rfl) ?_
     refine rl_v rfl rfl rfl (ov_loadN rfl Try.underlying237 rfl (by kernel_rfl) rfl ((hO7.rangeT 0 rfl 2 (cs := [.bool s.h0, .bool s.h1, .bool s.h2]) rfl))) ?_
     refine rl_call callable_135 rfl rfl rfl rfl rfl rfl (sendBoth_any A (X.cTick k) 5 ((k : Int) + 1) s.h0 s.h1 s.h2 B Pl _ w0 w6 (by omega) (WAt.push hO7 hK2 hPl2)) (fun e29 w30 hp31 => ?_)
     obtain ⟨rfl, hW3⟩ := hp31
     refine ⟨_, rfl, ?_⟩
     obtain ⟨K4, N4, hO4, hK4, hPl4⟩ := hW3.drop
     refine rl_nil <| run_inBlock <| run_inBlock <| run_region <| rl_v rfl rfl rfl (ov_move rfl rfl) <| rl_v rfl rfl rfl (ov_add rfl rfl rfl (by omega)) ?_
     refine rl_v rfl rfl rfl (ov_assign rfl rfl) <| rl_nil ?_
     refine Run.use (ih2 ((k : Int) + 1 + 1) (k + 1) _ ?_ ?_) (And.intro (by exact slot_int rfl (by first | omega)) (And.intro rfl trivial))
     ·first | omega | (dsimp only; omega)
     ·exact ⟨by omega, by omega, by rw [hone]; unfold MW.cTick1; dsimp only; rw [hs0, if_neg s1n, if_neg s2n, if_pos s3]; exact ⟨K4, N4, hO4, hK4, hPl4⟩⟩
    ·have hW3 := WAt.push hO7 hK2 hPl2
     obtain ⟨K4, N4, hO4, hK4, hPl4⟩ := hW3.drop
     refine run_skip <| run_inBlock <| run_inBlock <| run_region <| rl_v rfl rfl rfl (ov_move rfl rfl) <| rl_v rfl rfl rfl (ov_add rfl rfl rfl (by omega)) ?_
     refine rl_v rfl rfl rfl (ov_assign rfl rfl) <| rl_nil ?_
     refine Run.use (ih2 ((k : Int) + 1 + 1) (k + 1) _ ?_ ?_) (And.intro (by exact slot_int rfl (by first | omega)) (And.intro rfl trivial))
     ·first | omega | (dsimp only; omega)
     ·exact ⟨by omega, by omega, by rw [hone]; unfold MW.cTick1; dsimp only; rw [hs0, if_neg s1n, if_neg s2n, if_neg s3n]; exact ⟨K4, N4, hO4, hK4, hPl4⟩⟩
 ·obtain rfl : k = X.deals.length := by omega
  refine run_exit rfl <| run_end Try.func176 (res0 Try.results176) ?_
  exact ⟨rfl, K2, N2, hO2, hK2, hPl2⟩
theorem MW.kn0_snoc (l : List Rc) (r : Rc) : MW.kn0 (l ++ [r]) = upd (MW.kn0 l) r.2 (Ds.s 2) := by unfold MW.kn0; rw [List.foldl_append]; rfl
theorem perm5 (m a b c d o : Option Blk) (T : List (Option Blk)) : (m :: a :: b :: c :: d :: o :: T).Perm (o :: a :: b :: c :: d :: m :: T) :=
 (perm_mid m [a, b, c, d, o] T).trans (perm_mid o [a, b, c, d] (m :: T)).symm
theorem coStart_any (A : WA) (X : MW) (B : Nat) (Pl R : List (Option Blk)) (w0 w : World) (hG : X.c.recs.length ≤ 1000000) (h : WAt B w0 w A X Pl R) :
  Calls Try.prog 173 #[ptr A.C] w fun e w' => e = .returned (.tuple #[]) ∧ WAt B w0 w' A (X.start 0) Pl R := by
 obtain ⟨K, N, hO, hK, hPl⟩ := h
 obtain ⟨ao, cap, hrv, hcap⟩ := hK.rc.val
 have hr := hK.rc
 rw [hrv] at hr
 obtain ⟨gb, hga, hrow⟩ := hr.open
 refine calls_of_run (F := [(0, _)]) Try.func173 rfl Try.ntmps173 rfl rfl <| run_seq <| run_region <| rl_v rfl rfl rfl (ov_move rfl rfl) <| rl_ow rfl (ow_makemap rfl rfl rfl hO) ?_
 rintro _ w1 ⟨bm, rfl, hO2, hs3⟩
 refine rl_v rfl rfl rfl (ov_nil rfl rfl) <| rl_v rfl rfl rfl (ov_fieldS rfl Try.underlying191 rfl (fo := 5) rfl (by kernel_rfl) rfl) ?_
 refine rl_ow rfl (ow_storeL rfl rfl (by kernel_rfl) hO2 2 rfl rfl rfl rfl rfl) ?_
 rintro _ w4 ⟨rfl, hO5, hs6⟩
 refine rl_nil <| run_seq <| run_region <| rl_v rfl rfl rfl (ov_move rfl rfl) <| rl_v rfl rfl rfl (ov_nil rfl rfl) <| rl_v rfl rfl rfl (ov_fieldS rfl Try.underlying191 rfl (fo := 0) rfl (by kernel_rfl) rfl) ?_
 refine rl_v rfl rfl rfl (ov_fieldS rfl Try.underlying189 rfl (fo := 0) rfl (by kernel_rfl) rfl) ?_
 refine rl_v rfl rfl rfl (ov_load rfl Try.underlying187 rfl rfl (by exact hO5.cellL 2 rfl (congrArg some hrv))) ?_
 refine rl_v rfl rfl rfl (ov_len rfl Try.underlying187 rfl) <| rl_v rfl rfl rfl (ov_move rfl rfl) <| rl_nil <| run_block <| Run.keep [0, 12, 13, 14] (F' := [(0, _), (12, _), (13, _), (14, _)]) rfl <| run_loop2 (fun (i : Int) (L : List (Int × Value)) => [(14, .int .i64 i)]) [0, 12, 13] (fun (i : Int) (L : List (Int × Value)) (w7 : World) => 0 ≤ i ∧ i ≤ X.c.recs.length ∧ MapIs L (MW.kn0 (X.c.recs.take i.toNat)) ∧ Own B w0 w7 (some (mch bm L) :: (({ K with mb := bm } : WC).M A X ++ (N ++ R)).set 4 (some (mch K.mb K.L)))) (fun (i : Int) (L : List (Int × Value)) => ((X.c.recs.length : Int) - i).toNat) (0) ([]) ?_ (And.intro (by exact slot_int rfl (by first | omega)) (And.intro rfl (And.intro rfl (And.intro rfl trivial)))) ?_
 ·exact ⟨by omega, by omega, MapIs.nil, hO5⟩
 intro i L w7 hIw7 ih8
 obtain ⟨hi0, hi1, hL, hOi⟩ := hIw7
 show Run _ _ _ _ [(14, _), (0, _), (12, _), (13, _)] _ _
 refine run_seq <| run_region <| rl_v rfl rfl rfl (ov_lss rfl rfl rfl) <| rl_nil <| run_seq ?_
 first | refine run_cond_dec rfl (fun hi => ?_) (fun hi => ?_) | refine run_cond rfl (fun hi => ?_) (fun hi => ?_)
 ·refine run_skip <| run_seq <| run_block <| run_seq <| run_region <| rl_v rfl rfl rfl (ov_index rfl Try.underlying187 (by kernel_rfl) (s := 2) rfl rfl ⟨by omega, by omega⟩ (by exact hga (by omega))) ?_
  refine rl_v rfl rfl rfl (ov_loadE rfl Try.underlying244 rfl (by kernel_rfl) rfl ⟨by omega, by omega⟩ rfl (hrow hOi mem7)) ?_
  refine rl_ow rfl (ow_alloc _ rfl rfl rfl zero_244 rfl hOi) ?_
  rintro _ w9 ⟨b3, rfl, hO10, hs11⟩
  refine rl_ow rfl (ow_storeW rfl rfl (by kernel_rfl) hO10 0 rfl rfl (by rfl) rfl (by rfl)) ?_
  rintro _ w12 ⟨rfl, hO13, hs14⟩
  refine rl_nil <| run_tail 7 mixed (by kernel_rfl) ?_
  have hO16 := hO13.drew
  generalize World.drew w12 = w15 at hO16 ⊢
  refine rt_v rfl rfl rfl (ov_move rfl rfl) <| rt_v rfl rfl rfl (ov_nil rfl rfl) <| rt_v rfl rfl rfl (ov_fieldS rfl Try.underlying191 rfl (fo := 5) rfl (by kernel_rfl) rfl) ?_
  refine rt_v rfl rfl rfl (ov_load rfl Try.underlying186 rfl rfl (by exact hO16.cellL 3 rfl rfl)) ?_
  refine rt_v rfl rfl rfl (ov_fieldS rfl Try.underlying244 rfl (fo := 1) rfl (by kernel_rfl) rfl) ?_
  refine rt_v rfl rfl rfl (ov_load rfl Try.underlying3 rfl rfl (by exact hO16.cellL 0 rfl rfl)) ?_
  refine rt_v rfl rfl rfl (ov_buildL rfl lay_239 rfl (us := [_, _, _, _, _]) rfl) <| rt_nil <| rl_ow rfl (ow_mapput rfl rfl Try.underlying186 Try.underlying3 hO16 1 rfl rfl rfl rfl) ?_
  rintro _ w17 ⟨rfl, hO18, hs19⟩
  refine rl_nil <| run_inBlock <| run_region <| rl_v rfl rfl rfl (ov_add rfl rfl rfl (by omega)) ?_
  refine rl_v rfl rfl rfl (ov_move rfl rfl) <| rl_nil ?_
  refine Run.use (ih8 (i + 1) (mput L (X.c.recs.getD i.toNat (0, 0)).2 (dsv (Ds.s 2))) _ ?_ ?_) (And.intro (by exact slot_int rfl (by first | omega)) (And.intro rfl (And.intro rfl (And.intro rfl trivial))))
  ·first | omega | (dsimp only; omega)
  ·exact ⟨by omega, by omega, by rw [show (i + 1).toNat = i.toNat + 1 by omega, take_snoc _ (0, 0) (by omega), MW.kn0_snoc]; exact hL.put _ _, hO18.tail⟩
 ·obtain rfl : i = X.c.recs.length := by omega
  rw [Int.toNat_natCast, List.take_length] at hL
  refine run_exit rfl <| run_end Try.func173 (res0 Try.results173) ?_
  exact ⟨rfl, { K with mb := bm, L := L }, N, (hOi.perm (H' := _ :: (({ K with mb := bm, L := L } : WC).M A (X.start 0) ++ (N ++ R))) (perm5 _ _ _ _ _ _ _)).tail, ⟨hK.dv, hK.bv, hK.rc, hK.r1, hK.r2, hK.v1, hK.v2, hL⟩, hPl⟩
def fStore (n : Int) : Nat := if n = 0 then 174 else 180
def fStart (n : Int) : Nat := if n = 0 then 173 else 179
def fTake (n : Int) : Nat := if n = 0 then 175 else 181
def fTick (n : Int) : Nat := if n = 0 then 176 else 182
theorem cStore (n : Int) : Callable Try.prog (fStore n) := by unfold fStore; split; exact callable_174; exact callable_180
theorem cStart (n : Int) : Callable Try.prog (fStart n) := by unfold fStart; split; exact callable_173; exact callable_179
theorem cTake (n : Int) : Callable Try.prog (fTake n) := by unfold fTake; split; exact callable_175; exact callable_181
theorem cTick (n : Int) : Callable Try.prog (fTick n) := by unfold fTick; split; exact callable_176; exact callable_182
theorem mStore (n : Int) (v : Value) (w : World) : (method (Try.prog.types.size + Made.depth) (nty n) v "oast/settle.store").run Try.prog w = .ok (fStore n, v) w := by
 unfold nty fStore
 split
 ·exact meth_ptr (by kernel_rfl) Try.underlying185
 ·exact meth_ptr (by kernel_rfl) Try.underlying192
theorem mStart (n : Int) (v : Value) (w : World) : (method (Try.prog.types.size + Made.depth) (nty n) v "oast/settle.start").run Try.prog w = .ok (fStart n, v) w := by
 unfold nty fStart
 split
 ·exact meth_ptr (by kernel_rfl) Try.underlying185
 ·exact meth_ptr (by kernel_rfl) Try.underlying192
theorem mTake (n : Int) (v : Value) (w : World) : (method (Try.prog.types.size + Made.depth) (nty n) v "oast/settle.take").run Try.prog w = .ok (fTake n, v) w := by
 unfold nty fTake
 split
 ·exact meth_ptr (by kernel_rfl) Try.underlying185
 ·exact meth_ptr (by kernel_rfl) Try.underlying192
theorem mTick (n : Int) (v : Value) (w : World) : (method (Try.prog.types.size + Made.depth) (nty n) v "oast/settle.tick").run Try.prog w = .ok (fTick n, v) w := by
 unfold nty fTick
 split
 ·exact meth_ptr (by kernel_rfl) Try.underlying185
 ·exact meth_ptr (by kernel_rfl) Try.underlying192
theorem coStore_any (b : Nat) (w : World) : Calls Try.prog 174 #[ptr b] w fun e w' => e = .returned (ptr b) ∧ w' = w := by
 refine calls_of_run (F := [(0, _)]) Try.func174 rfl Try.ntmps174 rfl rfl ?_
 have hO0 := Own.init w
 refine run_seq <| run_region <| rl_v rfl rfl rfl (ov_assign rfl rfl) <| rl_nil <| run_seq <| run_region <| rl_v rfl rfl rfl (ov_move rfl rfl) <| rl_v rfl rfl rfl (ov_nil rfl rfl) <| rl_v rfl rfl rfl (ov_fieldS rfl Try.underlying191 rfl (fo := 0) rfl (by kernel_rfl) rfl) ?_
 refine rl_v rfl rfl rfl (ov_assign rfl rfl) <| rl_nil <| run_ret Try.func174 (res1 Try.results174 rfl) ?_
 exact ⟨rfl, rfl⟩
theorem siteStore_any (b : Nat) (w : World) : Calls Try.prog 180 #[ptr b] w fun e w' => e = .returned (ptr b) ∧ w' = w := by
 refine calls_of_run (F := [(0, _)]) Try.func180 rfl Try.ntmps180 rfl rfl ?_
 have hO0 := Own.init w
 refine run_seq <| run_region <| rl_v rfl rfl rfl (ov_assign rfl rfl) <| rl_nil <| run_seq <| run_region <| rl_v rfl rfl rfl (ov_move rfl rfl) <| rl_v rfl rfl rfl (ov_nil rfl rfl) <| rl_v rfl rfl rfl (ov_fieldS rfl Try.underlying194 rfl (fo := 0) rfl (by kernel_rfl) rfl) ?_
 refine rl_v rfl rfl rfl (ov_assign rfl rfl) <| rl_nil <| run_ret Try.func180 (res1 Try.results180 rfl) ?_
 exact ⟨rfl, rfl⟩
theorem store_any (n : Int) (b : Nat) (w : World) : Calls Try.prog (fStore n) #[ptr b] w fun e w' => e = .returned (ptr b) ∧ w' = w := by
 unfold fStore
 split
 ·exact coStore_any b w
 ·exact siteStore_any b w
theorem siteStart_any (b : Nat) (w : World) : Calls Try.prog 179 #[ptr b] w fun e w' => e = .returned (.tuple #[]) ∧ w' = w := by
 refine calls_of_run (F := [(0, _)]) Try.func179 rfl Try.ntmps179 rfl rfl ?_
 have hO0 := Own.init w
 refine run_skip <| run_end Try.func179 (res0 Try.results179) ?_
 exact ⟨rfl, rfl⟩
theorem start_any (A : WA) (X : MW) (n : Int) (B : Nat) (Pl R : List (Option Blk)) (w0 w : World) (hG : X.c.recs.length ≤ 1000000) (h : WAt B w0 w A X Pl R) :
  Calls Try.prog (fStart n) #[ptr (A.node n)] w fun e w' => e = .returned (.tuple #[]) ∧ WAt B w0 w' A (X.start n) Pl R := by
 by_cases e : n = 0
 ·subst e
  exact coStart_any A X B Pl R w0 w hG h
 ·unfold fStart MW.start
  rw [if_neg e, if_neg e]
  exact (siteStart_any _ w).mono fun e w' ⟨h1, h2⟩ => ⟨h1, by rw [h2]; exact h⟩
end Go.Proofs.Ytfbbagnpdfafjaa
