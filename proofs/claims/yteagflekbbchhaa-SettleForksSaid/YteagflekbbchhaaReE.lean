import Derived.Test.YteagflekbbchhaaReD
set_option maxRecDepth 100000
namespace Go.Proofs.Yteagflekbbchhaa
open Go.RowKit Go.Proofs
theorem RWt.of4 {B : Nat} {w0 w : World} {X : MW} {K : RK} {N H : List (Option Blk)} {a b c d : Option Blk} (hO : Own B w0 w (a :: b :: c :: d :: (H ++ K.M))) (hK : ROk N X K) : RWt B w0 w (rwv X K) X N (a :: b :: c :: d :: H) := ⟨K, rfl, hO, hK⟩
theorem RWt.on3 {B : Nat} {w0 w : World} {X : MW} {K : RK} {N H : List (Option Blk)} {a b c : Option Blk} (hO : Own B w0 w (a :: b :: c :: (K.M ++ H))) (hK : ROk N X K) : RWt B w0 w (rwv X K) X N (a :: b :: c :: H) := ⟨K, rfl, hO.perm (perm_in [a, b, c] K.M H), hK⟩
theorem RWt.on4 {B : Nat} {w0 w : World} {X : MW} {K : RK} {N H : List (Option Blk)} {a b c d : Option Blk} (hO : Own B w0 w (a :: b :: c :: d :: (K.M ++ H))) (hK : ROk N X K) : RWt B w0 w (rwv X K) X N (a :: b :: c :: d :: H) := ⟨K, rfl, hO.perm (perm_in [a, b, c, d] K.M H), hK⟩
theorem RWt.on5 {B : Nat} {w0 w : World} {X : MW} {K : RK} {N H : List (Option Blk)} {a b c d e : Option Blk} (hO : Own B w0 w (a :: b :: c :: d :: e :: (K.M ++ H))) (hK : ROk N X K) : RWt B w0 w (rwv X K) X N (a :: b :: c :: d :: e :: H) := ⟨K, rfl, hO.perm (perm_in [a, b, c, d, e] K.M H), hK⟩
theorem perm_out {α : Type} (P M H : List α) : ((P ++ H) ++ M).Perm (P ++ (M ++ H)) := (perm_in P M H).symm
theorem tk_up {X : MW} (hdw : X.c.down = false) : tk X = fun i => tkl (X.kn (i + 1)) := by
 funext i; unfold tk tks; rw [if_neg (show ¬ X.c.down = true by rw [hdw]; decide)]
theorem tk_know {X : MW} (hdw : X.c.down = false) (d : Int) (s : Ds) : tk (X.know d s) = upd (tk X) (d - 1) (tkl s) := by
 rw [tk_up (X := X.know d s) hdw, tk_up hdw]
 funext i
 show tkl (upd X.kn d s (i + 1)) = _
 by_cases e : i = d - 1
 ·rw [e, upd_same, show d - 1 + 1 = d by omega, upd_same]
 ·rw [upd_ne _ _ e, upd_ne _ _ (by omega)]
theorem sync_bad {l : Lg} {r : Rc} (h : l.syncs = false) : (l.write r).down = true := by
 have hf : l.fuse = 1 := by simpa [Lg.syncs] using h
 rw [(Lg.write_c (l := l) r (by omega) (by omega)).1]
theorem sync_ok {l : Lg} {r : Rc} (h : l.syncs = true) : (l.write r).down = l.down := by
 have hf : ¬ l.fuse = 1 := by simpa [Lg.syncs] using h
 by_cases h0 : 0 < l.fuse
 ·rw [(Lg.write_b (l := l) r h0 (by omega)).1]
 ·rw [(Lg.write_a (l := l) r h0).1]
theorem ROk.known {N : List (Option Blk)} {X : MW} {K : RK} (h : ROk N X K) (hdw : X.c.down = false) {d : Int} {s : Ds} {c : Option Blk} (hr : SRow (.slice K.ta X.deals.length K.tc) 127 5 X.deals.length (upd (tk X) (d - 1) (tkl s)) c) : ROk N (X.know d s) (K.setT K.ta K.tc c) :=
 ⟨h.mv, h.gv, h.dv, by have e := tk_know hdw d s; rw [← e] at hr; exact hr, h.bv, h.lv⟩
theorem RWt.start0 {B : Nat} {w0 w : World} {v : Value} {X : MW} {N H : List (Option Blk)} (h : RWt B w0 w v X N H) (hd : X.c.down = true) : RWt B w0 w v (X.start 0) N H := by
 obtain ⟨K, rfl, hO, hK⟩ := h
 have e : tk (X.start 0) = tk X := by
  have hc : (X.start 0).c.down = true := hd
  funext i; unfold tk tks; rw [if_pos hc, if_pos hd]
 exact ⟨K, rfl, hO, hK.mv, hK.gv, hK.dv, by rw [e]; exact hK.tv, hK.bv, hK.lv⟩
theorem cT_yes2 {X : MW} {m : Ms} (hk : m.k = 2) (hs : (X.kn m.d).st = 2) : MW.fin 0 (X.cTake m) = X.send ⟨0, m.f, 4, m.d⟩ := by unfold MW.cTake; simp [hk, hs, MW.fin]
theorem cT_yesD {X : MW} {m : Ms} (hk : m.k = 2) (h2 : ¬ (X.kn m.d).st = 2) (h1 : ¬ (X.kn m.d).st = 1) : MW.fin 0 (X.cTake m) = X.send ⟨0, m.f, 5, m.d⟩ := by unfold MW.cTake; simp [hk, h1, h2, MW.fin]
theorem cT_wait {X : MW} {m : Ms} (hk : m.k = 2) (hs : (X.kn m.d).st = 1) (hh : ¬ (((X.kn m.d).hear m.f).h1 = true ∧ ((X.kn m.d).hear m.f).h2 = true)) : MW.fin 0 (X.cTake m) = X.know m.d ((X.kn m.d).hear m.f) := by
 unfold MW.cTake; dsimp only; rw [if_pos ⟨hk, hs⟩, if_neg hh]; rfl
theorem cT_dec {X : MW} {m : Ms} (hk : m.k = 2) (hs : (X.kn m.d).st = 1) (hh : ((X.kn m.d).hear m.f).h1 = true ∧ ((X.kn m.d).hear m.f).h2 = true) (ho : (X.know m.d ((X.kn m.d).hear m.f)).ok 0 = true) : MW.fin 0 (X.cTake m) = ((X.know m.d ((X.kn m.d).hear m.f)).wr 0 (4, m.d)).turn m.d 2 4 := by
 unfold MW.cTake; dsimp only; rw [if_pos ⟨hk, hs⟩, if_pos hh, if_pos ho]; rfl
theorem cT_burn {X : MW} {m : Ms} (hk : m.k = 2) (hs : (X.kn m.d).st = 1) (hh : ((X.kn m.d).hear m.f).h1 = true ∧ ((X.kn m.d).hear m.f).h2 = true) (ho : (X.know m.d ((X.kn m.d).hear m.f)).ok 0 = false) : MW.fin 0 (X.cTake m) = ((X.know m.d ((X.kn m.d).hear m.f)).wr 0 (4, m.d)).start 0 := by
 unfold MW.cTake; dsimp only; rw [if_pos ⟨hk, hs⟩, if_pos hh, if_neg (by rw [ho]; decide)]; rfl
theorem cT_no {X : MW} {m : Ms} (hk : m.k = 3) (hs : (X.kn m.d).st = 1) : MW.fin 0 (X.cTake m) = X.turn m.d 3 5 := by unfold MW.cTake; simp [hk, hs, MW.fin]
theorem cT_no0 {X : MW} {m : Ms} (hk : m.k = 3) (hs : ¬ (X.kn m.d).st = 1) : MW.fin 0 (X.cTake m) = X := by unfold MW.cTake; simp [hk, hs, MW.fin]
theorem cT_ack {X : MW} {m : Ms} (hk : m.k = 6) (hs : (X.kn m.d).st = 2 ∨ (X.kn m.d).st = 3) : MW.fin 0 (X.cTake m) = X.know m.d (if ((X.kn m.d).hear m.f).h1 = true ∧ ((X.kn m.d).hear m.f).h2 = true then { (X.kn m.d).hear m.f with st := 4 } else (X.kn m.d).hear m.f) := by
 unfold MW.cTake; simp [hk, hs, MW.fin]
theorem cT_ack0 {X : MW} {m : Ms} (hk : m.k = 6) (hs : ¬ ((X.kn m.d).st = 2 ∨ (X.kn m.d).st = 3)) : MW.fin 0 (X.cTake m) = X := by
 unfold MW.cTake; simp [hk, hs, MW.fin]
theorem cT_x {X : MW} {m : Ms} (h2 : ¬ m.k = 2) (h3 : ¬ m.k = 3) (h6 : ¬ m.k = 6) : MW.fin 0 (X.cTake m) = X := by unfold MW.cTake; simp [h2, h3, h6, MW.fin]
theorem hear_cells {s : Ds} {f : Int} (hf : f = 1 ∨ f = 2) : (tkl s).set (0 + 1 + f.toNat) (.bool true) = tkl (s.hear f) := by rcases hf with rfl | rfl <;> rfl
theorem hear_room {s : Ds} {f : Int} (hf : f = 1 ∨ f = 2) : Nat.blt (0 + 1 + f.toNat) (tkl s).length = true := by rcases hf with rfl | rfl <;> rfl
theorem rco_any (X : MW) (m : Ms) (v : Value) (B : Nat) (N H : List (Option Blk)) (w0 w : World) (hG : Good X) (hdw : X.c.down = false) (hf : m.f = 1 ∨ m.f = 2) (hd : 1 ≤ m.d ∧ m.d ≤ X.deals.length) (hb : X.bag.length + 5 < 4000000000000) (h : RWt B w0 w v X N H) :
  Calls Try.prog 88 #[v, .agg (msl m).toArray] w fun e w' => ∃ v', e = .returned v' ∧ RWt B w0 w' v' (MW.fin 0 (X.cTake m)) N H := by
 obtain ⟨K, rfl, hO, hK⟩ := h
 have hdn := hG.dn
 have hlen := hG.len (n := 0) (.inl rfl)
 have hfu := hG.fu 0 (.inl rfl)
 have hsf := hG.sf 0 (.inl rfl)
 have hO1 := hO.perm (List.perm_append_comm (l₂ := K.M))
 have htv := hK.tv
 have hks := hG.ks m.d
 have htk : tk X (m.d - 1) = tkl (X.kn m.d) := by unfold tk tks; rw [if_neg (by rw [hdw]; decide), Int.sub_add_cancel]
 refine calls_of_run (F := [(0, _), (1, _)]) Try.func88 rfl Try.ntmps88 rfl rfl <| run_seq <| run_region <| rl_ow rfl (ow_box _ rfl rfl rfl rfl rfl hO1) ?_
 rintro _ w1 ⟨b2, rfl, hO2, hs3⟩
 refine rl_ow rfl (ow_box _ rfl rfl rfl rfl rfl hO2) ?_
 rintro _ w4 ⟨b3, rfl, hO5, hs6⟩
 refine rl_ow rfl (ow_alloc _ rfl rfl rfl zero_69 rfl hO5) ?_
 rintro _ w7 ⟨b4, rfl, hO8, hs9⟩
 obtain ⟨gb, hga, hrow⟩ := htv.openS hO8 4 rfl
 refine rl_nil <| run_seq <| run_region <| rl_v rfl rfl rfl (ov_fieldS rfl Try.underlying69 rfl (fo := 5) rfl (by kernel_rfl) rfl) ?_
 refine rl_v rfl rfl rfl (ov_load rfl Try.underlying62 rfl rfl (by exact hO8.cellL 2 rfl rfl)) ?_
 refine rl_v rfl rfl rfl (ov_fieldS rfl Try.underlying136 rfl (fo := 3) rfl (by kernel_rfl) rfl) ?_
 refine rl_v rfl rfl rfl (ov_load rfl Try.underlying3 rfl rfl (by exact hO8.cellL 1 rfl rfl)) ?_
 refine rl_v rfl rfl rfl (ov_sub rfl rfl rfl (by omega)) ?_
 refine rl_v rfl rfl rfl (ov_index rfl Try.underlying62 (by kernel_rfl) (s := 5) rfl rfl ⟨by omega, by omega⟩ (by exact (hga (by omega)))) ?_
 refine rl_v rfl rfl rfl (ov_loadE rfl Try.underlying127 rfl (by kernel_rfl) rfl ⟨by omega, by omega⟩ rfl (hrow)) ?_
 refine rl_ow rfl (ow_alloc _ rfl rfl rfl zero_127 rfl hO8) ?_
 rintro _ w10 ⟨b5, rfl, hO11, hs12⟩
 refine rl_ow rfl (ow_storeW rfl rfl (by kernel_rfl) hO11 0 rfl rfl (by rfl) rfl (by rfl)) ?_
 rintro _ w13 ⟨rfl, hO14, hs15⟩
 rw [htk] at hO14
 generalize hs0 : X.kn m.d = s at *
 refine rl_nil <| run_seq <| run_seq <| run_region <| rl_v rfl rfl rfl (ov_fieldS rfl Try.underlying136 rfl (fo := 2) rfl (by kernel_rfl) rfl) ?_
 refine rl_v rfl rfl rfl (ov_load rfl Try.underlying3 rfl rfl (by exact hO14.cellL 2 rfl rfl)) ?_
 refine rl_nil <| run_block <| run_seq <| run_region <| rl_v rfl rfl rfl (ov_eql rfl rfl rfl) <| rl_v rfl rfl rfl (ov_assign rfl rfl) <| rl_nil ?_
 first | refine run_cond_dec rfl (fun k1 => ?_) (fun k1n => ?_) | refine run_cond rfl (fun k1 => ?_) (fun k1n => ?_)
 ·refine run_seq <| run_seq <| run_region <| rl_v rfl rfl rfl (ov_fieldS rfl Try.underlying127 rfl (fo := 0) rfl (by kernel_rfl) rfl) ?_
  refine rl_v rfl rfl rfl (ov_load rfl Try.underlying3 rfl rfl (by exact hO14.cellL 0 rfl rfl)) ?_
  refine rl_v rfl rfl rfl (ov_eql rfl rfl rfl) <| rl_nil ?_
  first | refine run_cond_dec rfl (fun s2 => ?_) (fun s2n => ?_) | refine run_cond rfl (fun s2 => ?_) (fun s2n => ?_)
  ·refine run_seq <| run_region <| rl_v rfl rfl rfl (ov_loadW rfl Try.underlying69 rfl (by kernel_rfl) rfl hO14 3 rfl) ?_
   refine rl_v rfl rfl rfl (ov_fieldS rfl Try.underlying136 rfl (fo := 0) rfl (by kernel_rfl) rfl) ?_
   refine rl_v rfl rfl rfl (ov_load rfl Try.underlying3 rfl rfl (by exact hO14.cellL 2 rfl rfl)) ?_
   refine rl_v rfl rfl rfl (ov_fieldS rfl Try.underlying136 rfl (fo := 3) rfl (by kernel_rfl) rfl) ?_
   refine rl_v rfl rfl rfl (ov_load rfl Try.underlying3 rfl rfl (by exact hO14.cellL 2 rfl rfl)) ?_
   refine rl_call callable_84 rfl rfl rfl rfl rfl rfl (rsend_any X ⟨0, m.f, 4, m.d⟩ _ B N _ w0 w13 (by omega) (RWt.on4 hO14 hK)) (fun e16 w17 hp18 => ?_)
   obtain ⟨v27, rfl, K2, rfl, hO3, hK2⟩ := hp18
   refine ⟨_, rfl, ?_⟩
   refine rl_ow rfl (ow_storeW rfl rfl (by kernel_rfl) hO3 1 rfl rfl (by rfl) rfl (by rfl)) ?_
   rintro _ w19 ⟨rfl, hO20, hs21⟩
   refine rl_nil <| run_ret Try.func88 (resW Try.results88 rfl Try.underlying69 rfl (by kernel_rfl) hO20 1 rfl) ?_
   exact ⟨_, rfl, by rw [cT_yes2 k1 (by rw [hs0]; exact s2)]; exact ⟨K2, rfl, hO20.tail.tail.tail.tail, hK2⟩⟩
  ·refine run_skip <| run_seq <| run_seq <| run_region <| rl_v rfl rfl rfl (ov_fieldS rfl Try.underlying127 rfl (fo := 0) rfl (by kernel_rfl) rfl) ?_
   refine rl_v rfl rfl rfl (ov_load rfl Try.underlying3 rfl rfl (by exact hO14.cellL 0 rfl rfl)) ?_
   refine rl_v rfl rfl rfl (ov_neq rfl rfl rfl) <| rl_nil ?_
   first | refine run_cond_dec rfl (fun s1 => ?_) (fun s1n => ?_) | refine run_cond rfl (fun s1 => ?_) (fun s1n => ?_)
   ·refine run_seq <| run_region <| rl_v rfl rfl rfl (ov_loadW rfl Try.underlying69 rfl (by kernel_rfl) rfl hO14 3 rfl) ?_
    refine rl_v rfl rfl rfl (ov_fieldS rfl Try.underlying136 rfl (fo := 0) rfl (by kernel_rfl) rfl) ?_
    refine rl_v rfl rfl rfl (ov_load rfl Try.underlying3 rfl rfl (by exact hO14.cellL 2 rfl rfl)) ?_
    refine rl_v rfl rfl rfl (ov_fieldS rfl Try.underlying136 rfl (fo := 3) rfl (by kernel_rfl) rfl) ?_
    refine rl_v rfl rfl rfl (ov_load rfl Try.underlying3 rfl rfl (by exact hO14.cellL 2 rfl rfl)) ?_
    refine rl_call callable_84 rfl rfl rfl rfl rfl rfl (rsend_any X ⟨0, m.f, 5, m.d⟩ _ B N _ w0 w13 (by omega) (RWt.on4 hO14 hK)) (fun e22 w23 hp24 => ?_)
    obtain ⟨v27, rfl, K2, rfl, hO3, hK2⟩ := hp24
    refine ⟨_, rfl, ?_⟩
    refine rl_ow rfl (ow_storeW rfl rfl (by kernel_rfl) hO3 1 rfl rfl (by rfl) rfl (by rfl)) ?_
    rintro _ w25 ⟨rfl, hO26, hs27⟩
    refine rl_nil <| run_ret Try.func88 (resW Try.results88 rfl Try.underlying69 rfl (by kernel_rfl) hO26 1 rfl) ?_
    exact ⟨_, rfl, by rw [cT_yesD k1 (by rw [hs0]; exact s2n) (by rw [hs0]; exact s1)]; exact ⟨K2, rfl, hO26.tail.tail.tail.tail, hK2⟩⟩
   ·have hY0 : ∀ q, (X.know m.d q).c.down = false := fun _ => hdw
    refine run_skip <| run_seq <| run_region <| rl_v rfl rfl rfl (ov_fieldS rfl Try.underlying136 rfl (fo := 0) rfl (by kernel_rfl) rfl) ?_
    refine rl_v rfl rfl rfl (ov_load rfl Try.underlying3 rfl rfl (by exact hO14.cellL 2 rfl rfl)) ?_
    refine rl_v rfl rfl rfl (ov_fieldS rfl Try.underlying127 rfl (fo := 1) rfl (by kernel_rfl) rfl) ?_
    refine rl_v rfl rfl rfl (ov_indexA1 rfl Try.underlying123 (by kernel_rfl) rfl rfl ⟨by omega, by omega⟩) ?_
    refine rl_ow rfl (ow_storeL rfl rfl (by kernel_rfl) hO14 0 rfl rfl (hear_room hf) rfl rfl) ?_
    rintro _ w28 ⟨rfl, hO29, hs30⟩
    rw [hear_cells hf] at hO29
    refine rl_nil <| run_seq <| run_region <| rl_v rfl rfl rfl (ov_fieldS rfl Try.underlying69 rfl (fo := 5) rfl (by kernel_rfl) rfl) ?_
    refine rl_v rfl rfl rfl (ov_load rfl Try.underlying62 rfl rfl (by exact hO29.cellL 3 rfl rfl)) ?_
    refine rl_v rfl rfl rfl (ov_fieldS rfl Try.underlying136 rfl (fo := 3) rfl (by kernel_rfl) rfl) ?_
    refine rl_v rfl rfl rfl (ov_load rfl Try.underlying3 rfl rfl (by exact hO29.cellL 2 rfl rfl)) ?_
    refine rl_v rfl rfl rfl (ov_sub rfl rfl rfl (by omega)) ?_
    refine rl_v rfl rfl rfl (ov_loadW rfl Try.underlying127 rfl (by kernel_rfl) rfl hO29 0 rfl) ?_
    refine rl_v rfl rfl rfl (ov_index rfl Try.underlying62 (by kernel_rfl) (s := 5) rfl rfl ⟨by omega, by omega⟩ (by exact (hga (by omega)))) ?_
    refine rl_ow rfl (ow_storeS rfl rfl (by kernel_rfl) hO29 htv (kk := 5) rfl hga rfl ⟨by omega, by omega⟩ rfl rfl rfl) ?_
    rintro _ w31 ⟨c47, rfl, hO32, hr47, hs33⟩
    have hK2 := hK.known hdw hr47
    generalize hs1 : s.hear m.f = s' at *
    refine rl_nil <| run_seq <| run_seq <| run_region <| rl_v rfl rfl rfl (ov_fieldS rfl Try.underlying127 rfl (fo := 1) rfl (by kernel_rfl) rfl) ?_
    refine rl_v rfl rfl rfl (ov_indexA1 rfl Try.underlying123 (by kernel_rfl) rfl rfl ⟨by omega, by omega⟩) ?_
    refine rl_v rfl rfl rfl (ov_load rfl Try.underlying4 rfl rfl (by exact hO32.cellL 0 rfl rfl)) ?_
    refine rl_v rfl rfl rfl (ov_not rfl rfl) <| rl_v rfl rfl rfl (ov_move rfl rfl) ?_
    first | refine rl_split_dec 52 rfl (fun g1 => ?_) (fun g1 => ?_) | refine rl_split 52 rfl (fun g1 => ?_) (fun g1 => ?_)
    ·refine rl_gskip rfl rfl rfl rfl rfl rfl <| rl_gskip rfl rfl rfl rfl rfl rfl <| rl_gskip rfl rfl rfl rfl rfl rfl <| rl_gskip rfl rfl rfl rfl rfl rfl <| rl_v rfl rfl rfl (ov_pick_t rfl rfl rfl) <| rl_nil <| run_cond_t rfl <| run_seq <| run_region <| rl_v rfl rfl rfl (ov_loadW rfl Try.underlying69 rfl (by kernel_rfl) rfl hO32 3 rfl) ?_
     refine rl_ow rfl (ow_storeW rfl rfl (by kernel_rfl) hO32 1 rfl rfl (by rfl) rfl (by rfl)) ?_
     rintro _ w35 ⟨rfl, hO36, hs37⟩
     refine rl_nil <| run_ret Try.func88 (resW Try.results88 rfl Try.underlying69 rfl (by kernel_rfl) hO36 1 rfl) ?_
     exact ⟨_, rfl, by rw [cT_wait k1 (by rw [hs0]; omega) (by rw [hs0, hs1]; intro h; rw [h.1] at g1; exact Bool.noConfusion g1), hs0, hs1]; exact ⟨K.setT K.ta K.tc c47, rfl, hO36.tail.tail.tail.tail.perm (List.perm_append_comm (l₁ := (K.setT K.ta K.tc c47).M)), hK2⟩⟩
    ·refine rl_gv rfl rfl rfl rfl rfl (ov_fieldS rfl Try.underlying127 rfl (fo := 1) rfl (by kernel_rfl) rfl) ?_
     refine rl_gv rfl rfl rfl rfl rfl (ov_indexA1 rfl Try.underlying123 (by kernel_rfl) rfl rfl ⟨by omega, by omega⟩) ?_
     refine rl_gv rfl rfl rfl rfl rfl (ov_load rfl Try.underlying4 rfl rfl (by exact hO32.cellL 0 rfl rfl)) ?_
     refine rl_gv rfl rfl rfl rfl rfl (ov_not rfl rfl) <| rl_v rfl rfl rfl (ov_pick_f rfl rfl rfl) <| rl_nil ?_
     first | refine run_cond_dec rfl (fun g2 => ?_) (fun g2n => ?_) | refine run_cond rfl (fun g2 => ?_) (fun g2n => ?_)
     ·refine run_seq <| run_region <| rl_v rfl rfl rfl (ov_loadW rfl Try.underlying69 rfl (by kernel_rfl) rfl hO32 3 rfl) ?_
      refine rl_ow rfl (ow_storeW rfl rfl (by kernel_rfl) hO32 1 rfl rfl (by rfl) rfl (by rfl)) ?_
      rintro _ w38 ⟨rfl, hO39, hs40⟩
      refine rl_nil <| run_ret Try.func88 (resW Try.results88 rfl Try.underlying69 rfl (by kernel_rfl) hO39 1 rfl) ?_
      exact ⟨_, rfl, by rw [cT_wait k1 (by rw [hs0]; omega) (by rw [hs0, hs1]; intro h; rw [h.2] at g2; exact Bool.noConfusion g2), hs0, hs1]; exact ⟨K.setT K.ta K.tc c47, rfl, hO39.tail.tail.tail.tail.perm (List.perm_append_comm (l₁ := (K.setT K.ta K.tc c47).M)), hK2⟩⟩
     ·have hh : s'.h1 = true ∧ s'.h2 = true := ⟨by simpa using g1, by simpa using g2n⟩
      refine run_skip <| run_seq <| run_region <| rl_v rfl rfl rfl (ov_loadW rfl Try.underlying69 rfl (by kernel_rfl) rfl hO32 3 rfl) ?_
      refine rl_v rfl rfl rfl (ov_fieldS rfl Try.underlying136 rfl (fo := 3) rfl (by kernel_rfl) rfl) ?_
      refine rl_v rfl rfl rfl (ov_load rfl Try.underlying3 rfl rfl (by exact hO32.cellL 2 rfl rfl)) ?_
      refine rl_call callable_90 rfl rfl rfl rfl rfl rfl (rwrite_any (X.know m.d s') 0 (4, m.d) _ B N _ w0 w31 (.inl rfl) (show X.c.recs.length ≤ 1000000 from Nat.le_trans hlen (by decide)) hfu hsf hdw hdn (RWt.on4 (K := K.setT K.ta K.tc c47) hO32 hK2)) (fun e41 w42 hp43 => ?_)
      obtain ⟨v63, rfl, K3, rfl, hO3, hK3⟩ := hp43
      refine ⟨_, rfl, ?_⟩
      refine rl_v rfl rfl rfl (ov_move rfl rfl) <| rl_v rfl rfl rfl (ov_extract rfl rfl (by rfl)) ?_
      refine rl_v rfl rfl rfl (ov_extract rfl rfl (by rfl)) ?_
      refine rl_ow rfl (ow_alloc _ rfl rfl rfl zero_69 rfl hO3) ?_
      rintro _ w44 ⟨b6, rfl, hO45, hs46⟩
      refine rl_ow rfl (ow_storeW rfl rfl (by kernel_rfl) hO45 0 rfl rfl (by rfl) rfl (by rfl)) ?_
      rintro _ w47 ⟨rfl, hO48, hs49⟩
      have hwb : ((X.know m.d s').wr 0 (4, m.d)).bag.length = X.bag.length := congrArg List.length (setLg_bag _ _ _)
      refine rl_v rfl rfl rfl (ov_assign rfl rfl) <| rl_nil <| run_seq <| run_seq <| run_region <| rl_v rfl rfl rfl (ov_move rfl rfl) <| rl_v rfl rfl rfl (ov_not rfl rfl) <| rl_nil ?_
      first | refine run_cond_dec rfl (fun o1 => ?_) (fun o2 => ?_) | refine run_cond rfl (fun o1 => ?_) (fun o2 => ?_)
      ·have hok : (X.know m.d s').ok 0 = false := by simpa using o1
       refine run_seq <| run_region <| rl_v rfl rfl rfl (ov_loadW rfl Try.underlying69 rfl (by kernel_rfl) rfl hO48 0 rfl) ?_
       refine rl_ow rfl (ow_storeW rfl rfl (by kernel_rfl) hO48 2 rfl rfl (by rfl) rfl (by rfl)) ?_
       rintro _ w50 ⟨rfl, hO51, hs52⟩
       refine rl_nil <| run_ret Try.func88 (resW Try.results88 rfl Try.underlying69 rfl (by kernel_rfl) hO51 2 rfl) ?_
       exact ⟨_, rfl, by rw [cT_burn k1 (by rw [hs0]; omega) (by rw [hs0, hs1]; exact hh) (by rw [hs0, hs1]; exact hok), hs0, hs1]; exact RWt.start0 ⟨K3, rfl, hO51.tail.tail.tail.tail.tail, hK3⟩ (sync_bad hok)⟩
      ·have hok : (X.know m.d s').ok 0 = true := by simpa using o2
       have hO5 := hO48.perm (perm_out [_, _, _, _, _] K3.M H)
       have hcd : ((X.know m.d s').wr 0 (4, m.d)).c.down = false := (sync_ok (l := X.c) (r := (4, m.d)) hok).trans hdw
       have htv3 := hK3.tv
       obtain ⟨gb3, hga3, hrow3⟩ := htv3.openS hO5 6 rfl
       refine run_skip <| run_seq <| run_region <| rl_v rfl rfl rfl (ov_fieldS rfl Try.underlying69 rfl (fo := 5) rfl (by kernel_rfl) rfl) ?_
       refine rl_v rfl rfl rfl (ov_load rfl Try.underlying62 rfl rfl (by exact hO5.cellL 0 rfl rfl)) ?_
       refine rl_v rfl rfl rfl (ov_fieldS rfl Try.underlying136 rfl (fo := 3) rfl (by kernel_rfl) rfl) ?_
       refine rl_v rfl rfl rfl (ov_load rfl Try.underlying3 rfl rfl (by exact hO5.cellL 3 rfl rfl)) ?_
       refine rl_v rfl rfl rfl (ov_sub rfl rfl rfl (by omega)) ?_
       refine rl_v rfl rfl rfl (ov_buildL rfl lay_127 rfl (us := [_, _, _, _, _]) rfl) <| rl_v rfl rfl rfl (ov_index rfl Try.underlying62 (by kernel_rfl) (s := 5) rfl rfl ⟨by omega, by show m.d - 1 < (X.deals.length : Int); omega⟩ (by exact (hga3 (by show (0 : Nat) < X.deals.length; omega)))) ?_
       refine rl_ow rfl (ow_storeS rfl rfl (by kernel_rfl) hO5 htv3 (kk := 6) rfl hga3 rfl ⟨by omega, by show m.d - 1 < (X.deals.length : Int); omega⟩ rfl rfl rfl) ?_
       rintro _ w53 ⟨c75, rfl, hO54, hr75, hs55⟩
       have hK4 := hK3.known (s := Ds.s 2) hcd hr75
       refine rl_nil <| run_seq <| run_region <| rl_v rfl rfl rfl (ov_loadW rfl Try.underlying69 rfl (by kernel_rfl) rfl hO54 0 rfl) ?_
       refine rl_v rfl rfl rfl (ov_fieldS rfl Try.underlying136 rfl (fo := 3) rfl (by kernel_rfl) rfl) ?_
       refine rl_v rfl rfl rfl (ov_load rfl Try.underlying3 rfl rfl (by exact hO54.cellL 3 rfl rfl)) ?_
       refine rl_call callable_81 rfl rfl rfl rfl rfl rfl (rboth_any (((X.know m.d s').wr 0 (4, m.d)).know m.d (Ds.s 2)) 4 m.d _ B N _ w0 w53 (by show ((X.know m.d s').wr 0 (4, m.d)).bag.length + 1 < _; rw [hwb]; omega) (RWt.on5 (K := K3.setT K3.ta K3.tc c75) hO54 hK4)) (fun e56 w57 hp58 => ?_)
       obtain ⟨v79, rfl, K5, rfl, hO6, hK5⟩ := hp58
       refine ⟨_, rfl, ?_⟩
       refine rl_ow rfl (ow_storeW rfl rfl (by kernel_rfl) hO6 2 rfl rfl (by rfl) rfl (by rfl)) ?_
       rintro _ w59 ⟨rfl, hO60, hs61⟩
       refine rl_nil <| run_ret Try.func88 (resW Try.results88 rfl Try.underlying69 rfl (by kernel_rfl) hO60 2 rfl) ?_
       exact ⟨_, rfl, by rw [cT_dec k1 (by rw [hs0]; omega) (by rw [hs0, hs1]; exact hh) (by rw [hs0, hs1]; exact hok), hs0, hs1]; exact ⟨K5, rfl, hO60.tail.tail.tail.tail.tail, hK5⟩⟩
 ·refine run_seq <| run_region <| rl_v rfl rfl rfl (ov_eql rfl rfl rfl) <| rl_v rfl rfl rfl (ov_assign rfl rfl) <| rl_nil ?_
  first | refine run_cond_dec rfl (fun k3 => ?_) (fun k3n => ?_) | refine run_cond rfl (fun k3 => ?_) (fun k3n => ?_)
  ·refine run_seq <| run_region <| rl_v rfl rfl rfl (ov_fieldS rfl Try.underlying127 rfl (fo := 0) rfl (by kernel_rfl) rfl) ?_
   refine rl_v rfl rfl rfl (ov_load rfl Try.underlying3 rfl rfl (by exact hO14.cellL 0 rfl rfl)) ?_
   refine rl_v rfl rfl rfl (ov_eql rfl rfl rfl) <| rl_nil ?_
   first | refine run_cond_dec rfl (fun s1 => ?_) (fun s1n => ?_) | refine run_cond rfl (fun s1 => ?_) (fun s1n => ?_)
   ·refine run_seq <| run_region <| rl_v rfl rfl rfl (ov_fieldS rfl Try.underlying69 rfl (fo := 5) rfl (by kernel_rfl) rfl) ?_
    refine rl_v rfl rfl rfl (ov_load rfl Try.underlying62 rfl rfl (by exact hO14.cellL 3 rfl rfl)) ?_
    refine rl_v rfl rfl rfl (ov_fieldS rfl Try.underlying136 rfl (fo := 3) rfl (by kernel_rfl) rfl) ?_
    refine rl_v rfl rfl rfl (ov_load rfl Try.underlying3 rfl rfl (by exact hO14.cellL 2 rfl rfl)) ?_
    refine rl_v rfl rfl rfl (ov_sub rfl rfl rfl (by omega)) ?_
    refine rl_v rfl rfl rfl (ov_buildL rfl lay_127 rfl (us := [_, _, _, _, _]) rfl) <| rl_v rfl rfl rfl (ov_index rfl Try.underlying62 (by kernel_rfl) (s := 5) rfl rfl ⟨by omega, by omega⟩ (by exact (hga (by omega)))) ?_
    refine rl_ow rfl (ow_storeS rfl rfl (by kernel_rfl) hO14 htv (kk := 5) rfl hga rfl ⟨by omega, by omega⟩ rfl rfl rfl) ?_
    rintro _ w62 ⟨c91, rfl, hO63, hr91, hs64⟩
    have hK2 := hK.known (s := Ds.s 3) hdw hr91
    refine rl_nil <| run_seq <| run_region <| rl_v rfl rfl rfl (ov_loadW rfl Try.underlying69 rfl (by kernel_rfl) rfl hO63 3 rfl) ?_
    refine rl_v rfl rfl rfl (ov_fieldS rfl Try.underlying136 rfl (fo := 3) rfl (by kernel_rfl) rfl) ?_
    refine rl_v rfl rfl rfl (ov_load rfl Try.underlying3 rfl rfl (by exact hO63.cellL 2 rfl rfl)) ?_
    refine rl_call callable_81 rfl rfl rfl rfl rfl rfl (rboth_any (X.know m.d (Ds.s 3)) 5 m.d _ B N _ w0 w62 (by show X.bag.length + 1 < _; omega) (RWt.on4 (K := K.setT K.ta K.tc c91) hO63 hK2)) (fun e65 w66 hp67 => ?_)
    obtain ⟨v95, rfl, K5, rfl, hO6, hK5⟩ := hp67
    refine ⟨_, rfl, ?_⟩
    refine rl_ow rfl (ow_storeW rfl rfl (by kernel_rfl) hO6 1 rfl rfl (by rfl) rfl (by rfl)) ?_
    rintro _ w68 ⟨rfl, hO69, hs70⟩
    refine rl_nil <| run_ret Try.func88 (resW Try.results88 rfl Try.underlying69 rfl (by kernel_rfl) hO69 1 rfl) ?_
    exact ⟨_, rfl, by rw [cT_no k3 (by rw [hs0]; exact s1)]; exact ⟨K5, rfl, hO69.tail.tail.tail.tail, hK5⟩⟩
   ·refine run_skip <| run_inBlock <| run_seq <| run_region <| rl_v rfl rfl rfl (ov_loadW rfl Try.underlying69 rfl (by kernel_rfl) rfl hO14 3 rfl) ?_
    refine rl_ow rfl (ow_storeW rfl rfl (by kernel_rfl) hO14 1 rfl rfl (by rfl) rfl (by rfl)) ?_
    rintro _ w71 ⟨rfl, hO72, hs73⟩
    refine rl_nil <| run_ret Try.func88 (resW Try.results88 rfl Try.underlying69 rfl (by kernel_rfl) hO72 1 rfl) ?_
    exact ⟨_, rfl, by rw [cT_no0 k3 (by rw [hs0]; exact s1n)]; exact ⟨K, rfl, hO72.tail.tail.tail.tail.perm (List.perm_append_comm (l₁ := K.M)), hK⟩⟩
  ·refine run_seq <| run_region <| rl_v rfl rfl rfl (ov_eql rfl rfl rfl) <| rl_v rfl rfl rfl (ov_assign rfl rfl) <| rl_nil ?_
   first | refine run_cond_dec rfl (fun k6 => ?_) (fun k6n => ?_) | refine run_cond rfl (fun k6 => ?_) (fun k6n => ?_)
   ·refine run_seq <| run_seq <| run_region <| rl_v rfl rfl rfl (ov_fieldS rfl Try.underlying127 rfl (fo := 0) rfl (by kernel_rfl) rfl) ?_
    refine rl_v rfl rfl rfl (ov_load rfl Try.underlying3 rfl rfl (by exact hO14.cellL 0 rfl rfl)) ?_
    refine rl_v rfl rfl rfl (ov_neq rfl rfl rfl) <| rl_v rfl rfl rfl (ov_move rfl rfl) ?_
    first | refine rl_split_dec 101 rfl (fun s2 => ?_) (fun s2 => ?_) | refine rl_split 101 rfl (fun s2 => ?_) (fun s2 => ?_)
    ·refine rl_gv rfl rfl rfl rfl rfl (ov_fieldS rfl Try.underlying127 rfl (fo := 0) rfl (by kernel_rfl) rfl) ?_
     refine rl_gv rfl rfl rfl rfl rfl (ov_load rfl Try.underlying3 rfl rfl (by exact hO14.cellL 0 rfl rfl)) ?_
     refine rl_gv rfl rfl rfl rfl rfl (ov_neq rfl rfl rfl) <| rl_v rfl rfl rfl (ov_pick_t rfl rfl rfl) <| rl_nil ?_
     first | refine run_cond_dec rfl (fun s3 => ?_) (fun s3n => ?_) | refine run_cond rfl (fun s3 => ?_) (fun s3n => ?_)
     ·refine run_seq <| run_region <| rl_v rfl rfl rfl (ov_loadW rfl Try.underlying69 rfl (by kernel_rfl) rfl hO14 3 rfl) ?_
      refine rl_ow rfl (ow_storeW rfl rfl (by kernel_rfl) hO14 1 rfl rfl (by rfl) rfl (by rfl)) ?_
      rintro _ w75 ⟨rfl, hO76, hs77⟩
      refine rl_nil <| run_ret Try.func88 (resW Try.results88 rfl Try.underlying69 rfl (by kernel_rfl) hO76 1 rfl) ?_
      exact ⟨_, rfl, by rw [cT_ack0 k6 (by rw [hs0]; omega)]; exact ⟨K, rfl, hO76.tail.tail.tail.tail.perm (List.perm_append_comm (l₁ := K.M)), hK⟩⟩
     ·refine run_skip <| run_seq <| run_region <| rl_v rfl rfl rfl (ov_fieldS rfl Try.underlying136 rfl (fo := 0) rfl (by kernel_rfl) rfl) ?_
      refine rl_v rfl rfl rfl (ov_load rfl Try.underlying3 rfl rfl (by exact hO14.cellL 2 rfl rfl)) ?_
      refine rl_v rfl rfl rfl (ov_fieldS rfl Try.underlying127 rfl (fo := 1) rfl (by kernel_rfl) rfl) ?_
      refine rl_v rfl rfl rfl (ov_indexA1 rfl Try.underlying123 (by kernel_rfl) rfl rfl ⟨by omega, by omega⟩) ?_
      refine rl_ow rfl (ow_storeL rfl rfl (by kernel_rfl) hO14 0 rfl rfl (hear_room hf) rfl rfl) ?_
      rintro _ w78 ⟨rfl, hO79, hs80⟩
      rw [hear_cells hf] at hO79
      generalize hs1 : s.hear m.f = s' at *
      refine rl_nil <| run_seq <| run_seq <| run_region <| rl_v rfl rfl rfl (ov_fieldS rfl Try.underlying127 rfl (fo := 1) rfl (by kernel_rfl) rfl) ?_
      refine rl_v rfl rfl rfl (ov_indexA1 rfl Try.underlying123 (by kernel_rfl) rfl rfl ⟨by omega, by omega⟩) ?_
      refine rl_v rfl rfl rfl (ov_load rfl Try.underlying4 rfl rfl (by exact hO79.cellL 0 rfl rfl)) ?_
      refine rl_v rfl rfl rfl (ov_move rfl rfl) ?_
      first | refine rl_split_dec 114 rfl (fun g1 => ?_) (fun g1 => ?_) | refine rl_split 114 rfl (fun g1 => ?_) (fun g1 => ?_)
      ·refine rl_gv rfl rfl rfl rfl rfl (ov_fieldS rfl Try.underlying127 rfl (fo := 1) rfl (by kernel_rfl) rfl) ?_
       refine rl_gv rfl rfl rfl rfl rfl (ov_indexA1 rfl Try.underlying123 (by kernel_rfl) rfl rfl ⟨by omega, by omega⟩) ?_
       refine rl_gv rfl rfl rfl rfl rfl (ov_load rfl Try.underlying4 rfl rfl (by exact hO79.cellL 0 rfl rfl)) ?_
       refine rl_v rfl rfl rfl (ov_pick_t rfl rfl rfl) <| rl_nil ?_
       first | refine run_cond_dec rfl (fun g2 => ?_) (fun g2n => ?_) | refine run_cond rfl (fun g2 => ?_) (fun g2n => ?_)
       ·refine run_region <| rl_v rfl rfl rfl (ov_fieldS rfl Try.underlying127 rfl (fo := 0) rfl (by kernel_rfl) rfl) ?_
        refine rl_ow rfl (ow_storeL rfl rfl (by kernel_rfl) hO79 0 rfl rfl rfl rfl rfl) ?_
        rintro _ w82 ⟨rfl, hO83, hs84⟩
        refine rl_nil <| run_region <| rl_v rfl rfl rfl (ov_fieldS rfl Try.underlying69 rfl (fo := 5) rfl (by kernel_rfl) rfl) ?_
        refine rl_v rfl rfl rfl (ov_load rfl Try.underlying62 rfl rfl (by exact hO83.cellL 3 rfl rfl)) ?_
        refine rl_v rfl rfl rfl (ov_fieldS rfl Try.underlying136 rfl (fo := 3) rfl (by kernel_rfl) rfl) ?_
        refine rl_v rfl rfl rfl (ov_load rfl Try.underlying3 rfl rfl (by exact hO83.cellL 2 rfl rfl)) ?_
        refine rl_v rfl rfl rfl (ov_sub rfl rfl rfl (by omega)) ?_
        refine rl_v rfl rfl rfl (ov_loadW rfl Try.underlying127 rfl (by kernel_rfl) rfl hO83 0 rfl) ?_
        refine rl_v rfl rfl rfl (ov_index rfl Try.underlying62 (by kernel_rfl) (s := 5) rfl rfl ⟨by omega, by omega⟩ (by exact (hga (by omega)))) ?_
        refine rl_ow rfl (ow_storeS rfl rfl (by kernel_rfl) hO83 htv (kk := 5) rfl hga rfl ⟨by omega, by omega⟩ rfl rfl rfl) ?_
        rintro _ w85 ⟨c126, rfl, hO86, hr126, hs87⟩
        have hK2 := hK.known (s := { s' with st := 4 }) hdw hr126
        refine rl_nil <| run_inBlock <| run_seq <| run_region <| rl_v rfl rfl rfl (ov_loadW rfl Try.underlying69 rfl (by kernel_rfl) rfl hO86 3 rfl) ?_
        refine rl_ow rfl (ow_storeW rfl rfl (by kernel_rfl) hO86 1 rfl rfl (by rfl) rfl (by rfl)) ?_
        rintro _ w88 ⟨rfl, hO89, hs90⟩
        refine rl_nil <| run_ret Try.func88 (resW Try.results88 rfl Try.underlying69 rfl (by kernel_rfl) hO89 1 rfl) ?_
        exact ⟨_, rfl, by rw [cT_ack k6 (by rw [hs0]; omega), hs0, hs1, if_pos ⟨g1, g2⟩]; exact ⟨K.setT K.ta K.tc c126, rfl, hO89.tail.tail.tail.tail.perm (List.perm_append_comm (l₁ := (K.setT K.ta K.tc c126).M)), hK2⟩⟩
       ·refine run_skip <| run_region <| rl_v rfl rfl rfl (ov_fieldS rfl Try.underlying69 rfl (fo := 5) rfl (by kernel_rfl) rfl) ?_
        refine rl_v rfl rfl rfl (ov_load rfl Try.underlying62 rfl rfl (by exact hO79.cellL 3 rfl rfl)) ?_
        refine rl_v rfl rfl rfl (ov_fieldS rfl Try.underlying136 rfl (fo := 3) rfl (by kernel_rfl) rfl) ?_
        refine rl_v rfl rfl rfl (ov_load rfl Try.underlying3 rfl rfl (by exact hO79.cellL 2 rfl rfl)) ?_
        refine rl_v rfl rfl rfl (ov_sub rfl rfl rfl (by omega)) ?_
        refine rl_v rfl rfl rfl (ov_loadW rfl Try.underlying127 rfl (by kernel_rfl) rfl hO79 0 rfl) ?_
        refine rl_v rfl rfl rfl (ov_index rfl Try.underlying62 (by kernel_rfl) (s := 5) rfl rfl ⟨by omega, by omega⟩ (by exact (hga (by omega)))) ?_
        refine rl_ow rfl (ow_storeS rfl rfl (by kernel_rfl) hO79 htv (kk := 5) rfl hga rfl ⟨by omega, by omega⟩ rfl rfl rfl) ?_
        rintro _ w91 ⟨c126, rfl, hO92, hr126, hs93⟩
        have hK2 := hK.known (s := s') hdw hr126
        refine rl_nil <| run_inBlock <| run_seq <| run_region <| rl_v rfl rfl rfl (ov_loadW rfl Try.underlying69 rfl (by kernel_rfl) rfl hO92 3 rfl) ?_
        refine rl_ow rfl (ow_storeW rfl rfl (by kernel_rfl) hO92 1 rfl rfl (by rfl) rfl (by rfl)) ?_
        rintro _ w94 ⟨rfl, hO95, hs96⟩
        refine rl_nil <| run_ret Try.func88 (resW Try.results88 rfl Try.underlying69 rfl (by kernel_rfl) hO95 1 rfl) ?_
        exact ⟨_, rfl, by rw [cT_ack k6 (by rw [hs0]; omega), hs0, hs1, if_neg (fun h => by rw [h.2] at g2n; exact Bool.noConfusion g2n)]; exact ⟨K.setT K.ta K.tc c126, rfl, hO95.tail.tail.tail.tail.perm (List.perm_append_comm (l₁ := (K.setT K.ta K.tc c126).M)), hK2⟩⟩
      ·refine rl_gskip rfl rfl rfl rfl rfl rfl <| rl_gskip rfl rfl rfl rfl rfl rfl <| rl_gskip rfl rfl rfl rfl rfl rfl <| rl_v rfl rfl rfl (ov_pick_f rfl rfl rfl) <| rl_nil <| run_cond_f rfl <| run_skip <| run_region <| rl_v rfl rfl rfl (ov_fieldS rfl Try.underlying69 rfl (fo := 5) rfl (by kernel_rfl) rfl) ?_
       refine rl_v rfl rfl rfl (ov_load rfl Try.underlying62 rfl rfl (by exact hO79.cellL 3 rfl rfl)) ?_
       refine rl_v rfl rfl rfl (ov_fieldS rfl Try.underlying136 rfl (fo := 3) rfl (by kernel_rfl) rfl) ?_
       refine rl_v rfl rfl rfl (ov_load rfl Try.underlying3 rfl rfl (by exact hO79.cellL 2 rfl rfl)) ?_
       refine rl_v rfl rfl rfl (ov_sub rfl rfl rfl (by omega)) ?_
       refine rl_v rfl rfl rfl (ov_loadW rfl Try.underlying127 rfl (by kernel_rfl) rfl hO79 0 rfl) ?_
       refine rl_v rfl rfl rfl (ov_index rfl Try.underlying62 (by kernel_rfl) (s := 5) rfl rfl ⟨by omega, by omega⟩ (by exact (hga (by omega)))) ?_
       refine rl_ow rfl (ow_storeS rfl rfl (by kernel_rfl) hO79 htv (kk := 5) rfl hga rfl ⟨by omega, by omega⟩ rfl rfl rfl) ?_
       rintro _ w97 ⟨c126, rfl, hO98, hr126, hs99⟩
       have hK2 := hK.known (s := s') hdw hr126
       refine rl_nil <| run_inBlock <| run_seq <| run_region <| rl_v rfl rfl rfl (ov_loadW rfl Try.underlying69 rfl (by kernel_rfl) rfl hO98 3 rfl) ?_
       refine rl_ow rfl (ow_storeW rfl rfl (by kernel_rfl) hO98 1 rfl rfl (by rfl) rfl (by rfl)) ?_
       rintro _ w100 ⟨rfl, hO101, hs102⟩
       refine rl_nil <| run_ret Try.func88 (resW Try.results88 rfl Try.underlying69 rfl (by kernel_rfl) hO101 1 rfl) ?_
       exact ⟨_, rfl, by rw [cT_ack k6 (by rw [hs0]; omega), hs0, hs1, if_neg (fun h => by rw [h.1] at g1; exact Bool.noConfusion g1)]; exact ⟨K.setT K.ta K.tc c126, rfl, hO101.tail.tail.tail.tail.perm (List.perm_append_comm (l₁ := (K.setT K.ta K.tc c126).M)), hK2⟩⟩
    ·refine rl_gskip rfl rfl rfl rfl rfl rfl <| rl_gskip rfl rfl rfl rfl rfl rfl <| rl_gskip rfl rfl rfl rfl rfl rfl <| rl_v rfl rfl rfl (ov_pick_f rfl rfl rfl) <| rl_nil <| run_cond_f rfl <| run_skip <| run_seq <| run_region <| rl_v rfl rfl rfl (ov_fieldS rfl Try.underlying136 rfl (fo := 0) rfl (by kernel_rfl) rfl) ?_
     refine rl_v rfl rfl rfl (ov_load rfl Try.underlying3 rfl rfl (by exact hO14.cellL 2 rfl rfl)) ?_
     refine rl_v rfl rfl rfl (ov_fieldS rfl Try.underlying127 rfl (fo := 1) rfl (by kernel_rfl) rfl) ?_
     refine rl_v rfl rfl rfl (ov_indexA1 rfl Try.underlying123 (by kernel_rfl) rfl rfl ⟨by omega, by omega⟩) ?_
     refine rl_ow rfl (ow_storeL rfl rfl (by kernel_rfl) hO14 0 rfl rfl (hear_room hf) rfl rfl) ?_
     rintro _ w103 ⟨rfl, hO104, hs105⟩
     rw [hear_cells hf] at hO104
     generalize hs1 : s.hear m.f = s' at *
     refine rl_nil <| run_seq <| run_seq <| run_region <| rl_v rfl rfl rfl (ov_fieldS rfl Try.underlying127 rfl (fo := 1) rfl (by kernel_rfl) rfl) ?_
     refine rl_v rfl rfl rfl (ov_indexA1 rfl Try.underlying123 (by kernel_rfl) rfl rfl ⟨by omega, by omega⟩) ?_
     refine rl_v rfl rfl rfl (ov_load rfl Try.underlying4 rfl rfl (by exact hO104.cellL 0 rfl rfl)) ?_
     refine rl_v rfl rfl rfl (ov_move rfl rfl) ?_
     first | refine rl_split_dec 114 rfl (fun g1 => ?_) (fun g1 => ?_) | refine rl_split 114 rfl (fun g1 => ?_) (fun g1 => ?_)
     ·refine rl_gv rfl rfl rfl rfl rfl (ov_fieldS rfl Try.underlying127 rfl (fo := 1) rfl (by kernel_rfl) rfl) ?_
      refine rl_gv rfl rfl rfl rfl rfl (ov_indexA1 rfl Try.underlying123 (by kernel_rfl) rfl rfl ⟨by omega, by omega⟩) ?_
      refine rl_gv rfl rfl rfl rfl rfl (ov_load rfl Try.underlying4 rfl rfl (by exact hO104.cellL 0 rfl rfl)) ?_
      refine rl_v rfl rfl rfl (ov_pick_t rfl rfl rfl) <| rl_nil ?_
      first | refine run_cond_dec rfl (fun g2 => ?_) (fun g2n => ?_) | refine run_cond rfl (fun g2 => ?_) (fun g2n => ?_)
      ·refine run_region <| rl_v rfl rfl rfl (ov_fieldS rfl Try.underlying127 rfl (fo := 0) rfl (by kernel_rfl) rfl) ?_
       refine rl_ow rfl (ow_storeL rfl rfl (by kernel_rfl) hO104 0 rfl rfl rfl rfl rfl) ?_
       rintro _ w107 ⟨rfl, hO108, hs109⟩
       refine rl_nil <| run_region <| rl_v rfl rfl rfl (ov_fieldS rfl Try.underlying69 rfl (fo := 5) rfl (by kernel_rfl) rfl) ?_
       refine rl_v rfl rfl rfl (ov_load rfl Try.underlying62 rfl rfl (by exact hO108.cellL 3 rfl rfl)) ?_
       refine rl_v rfl rfl rfl (ov_fieldS rfl Try.underlying136 rfl (fo := 3) rfl (by kernel_rfl) rfl) ?_
       refine rl_v rfl rfl rfl (ov_load rfl Try.underlying3 rfl rfl (by exact hO108.cellL 2 rfl rfl)) ?_
       refine rl_v rfl rfl rfl (ov_sub rfl rfl rfl (by omega)) ?_
       refine rl_v rfl rfl rfl (ov_loadW rfl Try.underlying127 rfl (by kernel_rfl) rfl hO108 0 rfl) ?_
       refine rl_v rfl rfl rfl (ov_index rfl Try.underlying62 (by kernel_rfl) (s := 5) rfl rfl ⟨by omega, by omega⟩ (by exact (hga (by omega)))) ?_
       refine rl_ow rfl (ow_storeS rfl rfl (by kernel_rfl) hO108 htv (kk := 5) rfl hga rfl ⟨by omega, by omega⟩ rfl rfl rfl) ?_
       rintro _ w110 ⟨c126, rfl, hO111, hr126, hs112⟩
       have hK2 := hK.known (s := { s' with st := 4 }) hdw hr126
       refine rl_nil <| run_inBlock <| run_seq <| run_region <| rl_v rfl rfl rfl (ov_loadW rfl Try.underlying69 rfl (by kernel_rfl) rfl hO111 3 rfl) ?_
       refine rl_ow rfl (ow_storeW rfl rfl (by kernel_rfl) hO111 1 rfl rfl (by rfl) rfl (by rfl)) ?_
       rintro _ w113 ⟨rfl, hO114, hs115⟩
       refine rl_nil <| run_ret Try.func88 (resW Try.results88 rfl Try.underlying69 rfl (by kernel_rfl) hO114 1 rfl) ?_
       exact ⟨_, rfl, by rw [cT_ack k6 (by rw [hs0]; omega), hs0, hs1, if_pos ⟨g1, g2⟩]; exact ⟨K.setT K.ta K.tc c126, rfl, hO114.tail.tail.tail.tail.perm (List.perm_append_comm (l₁ := (K.setT K.ta K.tc c126).M)), hK2⟩⟩
      ·refine run_skip <| run_region <| rl_v rfl rfl rfl (ov_fieldS rfl Try.underlying69 rfl (fo := 5) rfl (by kernel_rfl) rfl) ?_
       refine rl_v rfl rfl rfl (ov_load rfl Try.underlying62 rfl rfl (by exact hO104.cellL 3 rfl rfl)) ?_
       refine rl_v rfl rfl rfl (ov_fieldS rfl Try.underlying136 rfl (fo := 3) rfl (by kernel_rfl) rfl) ?_
       refine rl_v rfl rfl rfl (ov_load rfl Try.underlying3 rfl rfl (by exact hO104.cellL 2 rfl rfl)) ?_
       refine rl_v rfl rfl rfl (ov_sub rfl rfl rfl (by omega)) ?_
       refine rl_v rfl rfl rfl (ov_loadW rfl Try.underlying127 rfl (by kernel_rfl) rfl hO104 0 rfl) ?_
       refine rl_v rfl rfl rfl (ov_index rfl Try.underlying62 (by kernel_rfl) (s := 5) rfl rfl ⟨by omega, by omega⟩ (by exact (hga (by omega)))) ?_
       refine rl_ow rfl (ow_storeS rfl rfl (by kernel_rfl) hO104 htv (kk := 5) rfl hga rfl ⟨by omega, by omega⟩ rfl rfl rfl) ?_
       rintro _ w116 ⟨c126, rfl, hO117, hr126, hs118⟩
       have hK2 := hK.known (s := s') hdw hr126
       refine rl_nil <| run_inBlock <| run_seq <| run_region <| rl_v rfl rfl rfl (ov_loadW rfl Try.underlying69 rfl (by kernel_rfl) rfl hO117 3 rfl) ?_
       refine rl_ow rfl (ow_storeW rfl rfl (by kernel_rfl) hO117 1 rfl rfl (by rfl) rfl (by rfl)) ?_
       rintro _ w119 ⟨rfl, hO120, hs121⟩
       refine rl_nil <| run_ret Try.func88 (resW Try.results88 rfl Try.underlying69 rfl (by kernel_rfl) hO120 1 rfl) ?_
       exact ⟨_, rfl, by rw [cT_ack k6 (by rw [hs0]; omega), hs0, hs1, if_neg (fun h => by rw [h.2] at g2n; exact Bool.noConfusion g2n)]; exact ⟨K.setT K.ta K.tc c126, rfl, hO120.tail.tail.tail.tail.perm (List.perm_append_comm (l₁ := (K.setT K.ta K.tc c126).M)), hK2⟩⟩
     ·refine rl_gskip rfl rfl rfl rfl rfl rfl <| rl_gskip rfl rfl rfl rfl rfl rfl <| rl_gskip rfl rfl rfl rfl rfl rfl <| rl_v rfl rfl rfl (ov_pick_f rfl rfl rfl) <| rl_nil <| run_cond_f rfl <| run_skip <| run_region <| rl_v rfl rfl rfl (ov_fieldS rfl Try.underlying69 rfl (fo := 5) rfl (by kernel_rfl) rfl) ?_
      refine rl_v rfl rfl rfl (ov_load rfl Try.underlying62 rfl rfl (by exact hO104.cellL 3 rfl rfl)) ?_
      refine rl_v rfl rfl rfl (ov_fieldS rfl Try.underlying136 rfl (fo := 3) rfl (by kernel_rfl) rfl) ?_
      refine rl_v rfl rfl rfl (ov_load rfl Try.underlying3 rfl rfl (by exact hO104.cellL 2 rfl rfl)) ?_
      refine rl_v rfl rfl rfl (ov_sub rfl rfl rfl (by omega)) ?_
      refine rl_v rfl rfl rfl (ov_loadW rfl Try.underlying127 rfl (by kernel_rfl) rfl hO104 0 rfl) ?_
      refine rl_v rfl rfl rfl (ov_index rfl Try.underlying62 (by kernel_rfl) (s := 5) rfl rfl ⟨by omega, by omega⟩ (by exact (hga (by omega)))) ?_
      refine rl_ow rfl (ow_storeS rfl rfl (by kernel_rfl) hO104 htv (kk := 5) rfl hga rfl ⟨by omega, by omega⟩ rfl rfl rfl) ?_
      rintro _ w122 ⟨c126, rfl, hO123, hr126, hs124⟩
      have hK2 := hK.known (s := s') hdw hr126
      refine rl_nil <| run_inBlock <| run_seq <| run_region <| rl_v rfl rfl rfl (ov_loadW rfl Try.underlying69 rfl (by kernel_rfl) rfl hO123 3 rfl) ?_
      refine rl_ow rfl (ow_storeW rfl rfl (by kernel_rfl) hO123 1 rfl rfl (by rfl) rfl (by rfl)) ?_
      rintro _ w125 ⟨rfl, hO126, hs127⟩
      refine rl_nil <| run_ret Try.func88 (resW Try.results88 rfl Try.underlying69 rfl (by kernel_rfl) hO126 1 rfl) ?_
      exact ⟨_, rfl, by rw [cT_ack k6 (by rw [hs0]; omega), hs0, hs1, if_neg (fun h => by rw [h.1] at g1; exact Bool.noConfusion g1)]; exact ⟨K.setT K.ta K.tc c126, rfl, hO126.tail.tail.tail.tail.perm (List.perm_append_comm (l₁ := (K.setT K.ta K.tc c126).M)), hK2⟩⟩
   ·refine run_skip <| run_inBlock <| run_seq <| run_region <| rl_v rfl rfl rfl (ov_loadW rfl Try.underlying69 rfl (by kernel_rfl) rfl hO14 3 rfl) ?_
    refine rl_ow rfl (ow_storeW rfl rfl (by kernel_rfl) hO14 1 rfl rfl (by rfl) rfl (by rfl)) ?_
    rintro _ w128 ⟨rfl, hO129, hs130⟩
    refine rl_nil <| run_ret Try.func88 (resW Try.results88 rfl Try.underlying69 rfl (by kernel_rfl) hO129 1 rfl) ?_
    exact ⟨_, rfl, by rw [cT_x k1n k3n k6n]; exact ⟨K, rfl, hO129.tail.tail.tail.tail.perm (List.perm_append_comm (l₁ := K.M)), hK⟩⟩
theorem fin_site {n : Int} (hn : ¬ n = 0) (p : MW × Bool) : MW.fin n p = p.1 := by
 unfold MW.fin
 split
 ·rfl
 ·unfold MW.start; rw [if_neg hn]
theorem rbring_any (X : MW) (m : Ms) (v : Value) (B : Nat) (N H : List (Option Blk)) (w0 w : World) (hG : Good X) (hL : LInv X) (hm : MsOk X m) (hb : X.bag.length + 5 < 4000000000000) (hN : ∀ x ∈ N, x ∈ H) (h : RWt B w0 w v X N H) :
  Calls Try.prog 83 #[v, .agg (msl m).toArray] w fun e w' => ∃ v', e = .returned v' ∧ RWt B w0 w' v' (X.bring m) N H := by
 obtain ⟨K, rfl, hO, hK⟩ := h
 have hm3 : N3 m.t := by have := hm.1; unfold N3; omega
 have hm0 : 0 ≤ m.t ∧ m.t ≤ 2 := by have := hm.1; omega
 refine calls_of_run (F := [(0, _), (1, _)]) Try.func83 rfl Try.ntmps83 rfl rfl <| run_seq <| run_region <| rl_ow rfl (ow_box _ rfl rfl rfl rfl rfl hO) ?_
 rintro _ w1 ⟨b2, rfl, hO2, hs3⟩
 refine rl_ow rfl (ow_box _ rfl rfl rfl rfl rfl hO2) ?_
 rintro _ w4 ⟨b3, rfl, hO5, hs6⟩
 refine rl_ow rfl (ow_alloc _ rfl rfl rfl zero_69 rfl hO5) ?_
 rintro _ w7 ⟨b4, rfl, hO8, hs9⟩
 refine rl_nil <| run_seq <| run_seq <| run_region <| rl_v rfl rfl rfl (ov_fieldS rfl Try.underlying136 rfl (fo := 1) rfl (by kernel_rfl) rfl) ?_
 refine rl_v rfl rfl rfl (ov_load rfl Try.underlying3 rfl rfl (by exact hO8.cellL 1 rfl rfl)) ?_
 refine rl_v rfl rfl rfl (ov_fieldS rfl Try.underlying69 rfl (fo := 7) rfl (by kernel_rfl) rfl) ?_
 refine rl_v rfl rfl rfl (ov_indexA rfl Try.underlying67 (by kernel_rfl) (s := 5) rfl rfl ⟨by omega, by omega⟩) ?_
 refine rl_v rfl rfl rfl (ov_fieldS rfl Try.underlying66 rfl (fo := 2) rfl (by kernel_rfl) rfl) ?_
 refine rl_v rfl rfl rfl (ov_load rfl Try.underlying4 rfl rfl (by exact hO8.cellL 2 rfl ((rw_node X K hm3 2 (by omega)).trans rfl))) ?_
 refine rl_nil ?_
 first | refine run_cond_dec rfl (fun d1 => ?_) (fun d2 => ?_) | refine run_cond rfl (fun d1 => ?_) (fun d2 => ?_)
 ·refine run_seq <| run_region <| rl_v rfl rfl rfl (ov_loadW rfl Try.underlying69 rfl (by kernel_rfl) rfl hO8 2 rfl) ?_
  refine rl_ow rfl (ow_storeW rfl rfl (by kernel_rfl) hO8 0 rfl rfl (by rfl) rfl (by rfl)) ?_
  rintro _ w10 ⟨rfl, hO11, hs12⟩
  refine rl_nil <| run_ret Try.func83 (resW Try.results83 rfl Try.underlying69 rfl (by kernel_rfl) hO11 0 rfl) ?_
  exact ⟨_, rfl, by rw [show X.bring m = X from by unfold MW.bring; rw [if_pos d1]]; exact ⟨K, rfl, hO11.tail.tail.tail, hK⟩⟩
 ·refine run_skip <| run_seq <| run_seq <| run_region <| rl_v rfl rfl rfl (ov_fieldS rfl Try.underlying136 rfl (fo := 1) rfl (by kernel_rfl) rfl) ?_
  refine rl_v rfl rfl rfl (ov_load rfl Try.underlying3 rfl rfl (by exact hO8.cellL 1 rfl rfl)) ?_
  refine rl_v rfl rfl rfl (ov_eql rfl rfl rfl) <| rl_nil ?_
  first | refine run_cond_dec rfl (fun t1 => ?_) (fun t2 => ?_) | refine run_cond rfl (fun t1 => ?_) (fun t2 => ?_)
  ·refine run_seq <| run_region <| rl_v rfl rfl rfl (ov_loadW rfl Try.underlying69 rfl (by kernel_rfl) rfl hO8 2 rfl) ?_
   refine rl_v rfl rfl rfl (ov_loadW rfl Try.underlying136 rfl (by kernel_rfl) rfl hO8 1 rfl) ?_
   refine rl_call callable_88 rfl rfl rfl rfl rfl rfl (rco_any X m _ B N _ w0 w7 hG (by rw [t1] at d2; exact d2) (by have := hm.1; omega) hm.2 hb (RWt.of3 hO8 hK)) (fun e13 w14 hp15 => ?_)
   obtain ⟨v17, rfl, K2, rfl, hO2, hK2⟩ := hp15
   refine ⟨_, rfl, ?_⟩
   refine rl_ow rfl (ow_storeW rfl rfl (by kernel_rfl) hO2 0 rfl rfl (by rfl) rfl (by rfl)) ?_
   rintro _ w16 ⟨rfl, hO17, hs18⟩
   refine rl_nil <| run_ret Try.func83 (resW Try.results83 rfl Try.underlying69 rfl (by kernel_rfl) hO17 0 rfl) ?_
   exact ⟨_, rfl, by rw [show X.bring m = MW.fin 0 (X.cTake m) from by unfold MW.bring MW.take; rw [if_neg (by rw [d2]; decide), if_pos t1, t1]]; exact ⟨K2, rfl, hO17.tail.tail.tail, hK2⟩⟩
  ·refine run_skip <| run_seq <| run_region <| rl_v rfl rfl rfl (ov_loadW rfl Try.underlying69 rfl (by kernel_rfl) rfl hO8 2 rfl) ?_
   refine rl_v rfl rfl rfl (ov_fieldS rfl Try.underlying136 rfl (fo := 1) rfl (by kernel_rfl) rfl) ?_
   refine rl_v rfl rfl rfl (ov_load rfl Try.underlying3 rfl rfl (by exact hO8.cellL 1 rfl rfl)) ?_
   refine rl_v rfl rfl rfl (ov_loadW rfl Try.underlying136 rfl (by kernel_rfl) rfl hO8 1 rfl) ?_
   refine rl_call callable_89 rfl rfl rfl rfl rfl rfl (rsite_any X m.t m _ B N _ w0 w7 (by omega) hG hL d2 hm.2 hb (mem_c1 (mem_c1 (mem_c1 hN))) (RWt.of3 hO8 hK)) (fun e19 w20 hp21 => ?_)
   obtain ⟨v17, rfl, K2, rfl, hO2, hK2⟩ := hp21
   refine ⟨_, rfl, ?_⟩
   refine rl_ow rfl (ow_storeW rfl rfl (by kernel_rfl) hO2 0 rfl rfl (by rfl) rfl (by rfl)) ?_
   rintro _ w22 ⟨rfl, hO23, hs24⟩
   refine rl_nil <| run_ret Try.func83 (resW Try.results83 rfl Try.underlying69 rfl (by kernel_rfl) hO23 0 rfl) ?_
   exact ⟨_, rfl, by rw [show X.bring m = (X.sTake m.t m).1 from by unfold MW.bring MW.take; rw [if_neg (by rw [d2]; decide), if_neg t2, fin_site t2]]; exact ⟨K2, rfl, hO23.tail.tail.tail, hK2⟩⟩
end Go.Proofs.Yteagflekbbchhaa
