import Derived.Test.YtfbbagnpdfafjaaSeT
set_option maxRecDepth 100000
namespace Go.Proofs.Ytfbbagnpdfafjaa
open Go.RowKit Go.Proofs
theorem take_any (A : WA) (X : MW) (m : Ms) (B : Nat) (Pl R : List (Option Blk)) (w0 w : World) (hG : Good X) (hm : MsOk X m) (hb : X.bag.length + 5000 < 4000000000000) (h : WAt B w0 w A X Pl R) :
  Calls Try.prog (fTake m.t) #[ptr (A.node m.t), .agg (msl m).toArray] w fun e w' => Burns (X.take m).2 e (WAt B w0 w' A (X.take m).1 Pl R) := by
 have h1 := hm.1
 unfold fTake MW.take
 by_cases e : m.t = 0
 ·rw [if_pos e, if_pos e, e]
  exact coTake_any A X m B Pl R w0 w hG (by omega) (by omega) h
 ·rw [if_neg e, if_neg e]
  exact siteTake_any A X m.t m B Pl R w0 w (by omega) hG (by omega) hm.2 h
theorem tickN_any (A : WA) (X : MW) (n : Int) (B : Nat) (Pl R : List (Option Blk)) (w0 w : World) (hn : N3 n) (hG : Good X) (hb : X.bag.length + 5000 < 4000000000000) (h : WAt B w0 w A X Pl R) :
  Calls Try.prog (fTick n) #[ptr (A.node n)] w fun e w' => e = .returned (.tuple #[]) ∧ WAt B w0 w' A (X.tick n) Pl R := by
 unfold fTick MW.tick
 by_cases e : n = 0
 ·rw [if_pos e, if_pos e, e]
  exact coTick_any A X B Pl R w0 w hG hb h
 ·rw [if_neg e, if_neg e]
  exact siteTick_any A X n B Pl R w0 w (by unfold N3 at hn; omega) hG (by omega) h
theorem cTake_len (X : MW) (m : Ms) : (X.cTake m).1.c.recs.length ≤ X.c.recs.length + 1 := by
 have hw : ∀ Y : MW, Y.c = X.c → (Y.wr 0 (4, m.d)).c.recs.length = X.c.recs.length + 1 := fun Y e => by
  show (Y.c.write (4, m.d)).recs.length = _
  rw [write_recs, e, List.length_append]; rfl
 have ht : ∀ (Y : MW) (d st k : Int), (Y.turn d st k).c = Y.c := fun Y d st k => congrFun (MW.turn_same Y d st k).1 0
 unfold MW.cTake
 dsimp only
 split
 ·split
  ·split
   ·dsimp only; rw [ht, hw (X.know m.d ((X.kn m.d).hear m.f)) rfl]; exact Nat.le_refl _
   ·dsimp only; rw [hw (X.know m.d ((X.kn m.d).hear m.f)) rfl]; exact Nat.le_refl _
  ·exact Nat.le_succ _
 ·split
  ·exact Nat.le_succ _
  ·split
   ·exact Nat.le_succ _
   ·split
    ·dsimp only; rw [ht]; exact Nat.le_succ _
    ·split
     ·exact Nat.le_succ _
     ·exact Nat.le_succ _
theorem WAt.pull3 {B : Nat} {w0 w : World} {A : WA} {X : MW} {R Pl : List (Option Blk)} {x y z : Option Blk} (h : WAt B w0 w A X Pl (x :: y :: z :: R)) : ∃ K N, Own B w0 w (x :: y :: z :: (K.M A X ++ (N ++ R))) ∧ WOk X K N ∧ ∀ z ∈ Pl, z ∈ N := by
 obtain ⟨K, N, hO, hK, hPl⟩ := h
 exact ⟨K, N, hO.perm ((List.Perm.cons x ((List.Perm.cons y (perm_mid2 z _ _ _)).trans (perm_mid2 y _ _ _))).trans (perm_mid2 x _ _ _)).symm, hK, hPl⟩
theorem bring1_any (A : WA) (X : MW) (m : Ms) (box : Option Blk) (bn bm B : Nat) (Pl R : List (Option Blk)) (w0 w : World) (hG : Good X) (hm : MsOk X m) (hb : X.bag.length + 5000 < 4000000000000)
  (h : WAt B w0 w A X Pl (box :: some (nbox A m.t bn) :: some (lch bm 201 (msl m)) :: R)) :
  Calls Try.prog 137 #[ptr bn, ptr bm] w fun e w' => Burns (X.take m).2 e (WAt B w0 w' A (X.take m).1 Pl (box :: some (nbox A m.t bn) :: some (lch bm 201 (msl m)) :: R)) := by
 obtain ⟨K, N, hO, hK, hPl⟩ := h.pull3
 refine calls_of_run (F := [(0, _), (1, _)]) Try.func137 rfl Try.ntmps137 rfl rfl <| run_region <| rl_v rfl rfl rfl (ov_load rfl Try.underlying180 rfl rfl (by exact hO.cellL 1 rfl (off := 0) rfl)) ?_
 refine rl_v rfl rfl rfl (ov_loadW rfl Try.underlying201 rfl (by kernel_rfl) rfl hO 2 rfl) ?_
 refine rl_invokeP (cTake m.t) rfl rfl rfl rfl rfl (mTake m.t _ _) rfl ⟨_, Try.func137⟩ (take_any A X m B Pl _ w0 w hG hm hb h) (fun e1 w2 hp3 => ?_)
 rcases hp3 with ⟨rfl, ⟨hok, hW2⟩⟩ | ⟨rfl, ⟨hok, hW2⟩⟩
 case inr => exact .inr ⟨_, rfl, .inr ⟨rfl, hok, hW2⟩⟩
 refine .inl ⟨_, rfl, ?_⟩
 refine rl_nil <| run_end Try.func137 (res0 Try.results137) ?_
 exact .inl ⟨rfl, hok, hW2⟩
theorem brStart (A : WA) (X : MW) (m : Ms) (B : Nat) (Pl R : List (Option Blk)) (w0 w : World) (hl : (X.lg 0).recs.length ≤ 5000) (hs : (X.take m).2 = false) (h : WAt B w0 w A (X.take m).1 Pl R) :
  Calls Try.prog (fStart m.t) #[ptr (A.node m.t)] w fun e w' => e = .returned (.tuple #[]) ∧ WAt B w0 w' A (MW.fin m.t (X.take m)) Pl R := by
 unfold MW.fin
 rw [hs]
 by_cases e : m.t = 0
 ·refine start_any A _ m.t B Pl R w0 w ?_ h
  unfold MW.take
  rw [if_pos e]
  have := cTake_len X m
  have h2 : X.c.recs.length ≤ 5000 := hl
  omega
 ·unfold fStart
  rw [if_neg e, if_neg Bool.false_ne_true, start_ne e]
  exact (siteStart_any _ w).mono fun e w' ⟨h1, h2⟩ => ⟨h1, by rw [h2]; exact h⟩
theorem bring_any (A : WA) (X : MW) (m : Ms) (B : Nat) (Pl R : List (Option Blk)) (w0 w : World) (hG : Good X) (hm : MsOk X m) (hb : X.bag.length + 5000 < 4000000000000) (h : WAt B w0 w A X Pl R) :
  Calls Try.prog 104 #[ptr A.W, .agg (msl m).toArray] w fun e w' => e = .returned (.tuple #[]) ∧ WAt B w0 w' A (X.bring m) Pl R := by
 obtain ⟨K, N, hO, hK, hPl⟩ := h
 have hn : m.t = 0 ∨ m.t = 1 ∨ m.t = 2 := by have := hm.1; omega
 obtain ⟨k, t, rv, rest, hk4, hk, hr, hset, hw2⟩ := hK.node A hn
 have hlen := hG.len (n := 0) (.inl rfl)
 refine calls_of_run (F := [(0, _), (1, _)]) Try.func104 rfl Try.ntmps104 rfl rfl <| run_seq <| run_region <| rl_ow rfl (ow_box _ rfl rfl rfl rfl rfl hO) ?_
 rintro _ w1 ⟨b3, rfl, hO2, hs3⟩
 refine rl_nil <| run_seq <| run_held (fun w' => Own B w0 w' (some (lch b3 201 (msl m)) :: (K.M A X ++ (N ++ R)))) mixed ?_
 have hO5 := hO2.drew
 generalize World.drew w1 = w4 at hO5 ⊢
 have hS6 : Own B w0 w4 (some (lch b3 201 (msl m)) :: (K.M A X ++ (N ++ R))) := by first | exact hO5 | exact hO5.tail
 refine rh_v 0 rfl (by kernel_rfl) rfl rfl rfl hS6 (fun _ hS => ov_move rfl rfl) ?_
 refine rh_v 1 rfl (by kernel_rfl) rfl rfl rfl hS6 (fun _ hS => ov_fieldS rfl Try.underlying201 rfl (fo := 1) rfl (by kernel_rfl) rfl) ?_
 refine rh_v 2 rfl (by kernel_rfl) rfl rfl rfl hS6 (fun _ hS => ov_load rfl Try.underlying3 rfl rfl (by exact hS.cellL 0 rfl (off := 1) rfl)) ?_
 refine rh_v 3 rfl (by kernel_rfl) rfl rfl rfl hS6 (fun _ hS => ov_nil rfl rfl) ?_
 refine rh_v 4 rfl (by kernel_rfl) rfl rfl rfl hS6 (fun _ hS => ov_fieldS rfl Try.underlying184 rfl (fo := 5) rfl (by kernel_rfl) rfl) ?_
 refine rh_v 5 rfl (by kernel_rfl) rfl rfl rfl hS6 (fun _ hS => ov_indexA1 rfl Try.underlying181 (by kernel_rfl) rfl rfl ⟨by omega, by omega⟩) ?_
 refine rh_v 6 rfl (by kernel_rfl) rfl rfl rfl hS6 (fun _ hS => ov_load rfl Try.underlying180 rfl rfl (by exact nodeCell (X := X) (K := K) (j := 1) hS rfl hn (by omega))) ?_
 refine rh_any1 7 (by kernel_rfl) ?_
 refine rc_op rfl rfl (ow_alloc _ rfl rfl rfl zero_180 rfl hO5) ?_
 rintro _ w7 ⟨b4, rfl, hO8, hs9⟩
 have hS10 : Own B w0 w7 (some (lch b3 201 (msl m)) :: (K.M A X ++ (N ++ R))) := by first | exact hO8 | exact hO8.tail
 refine ⟨hS10, ?_⟩
 refine rh_any1 8 (by kernel_rfl) ?_
 refine rc_op rfl rfl (ow_storeL rfl rfl (by kernel_rfl) hO8 0 rfl rfl rfl rfl rfl) ?_
 rintro _ w11 ⟨rfl, hO12, hs13⟩
 have hS14 : Own B w0 w11 (some (lch b3 201 (msl m)) :: (K.M A X ++ (N ++ R))) := by first | exact hO12 | exact hO12.tail
 refine ⟨hS14, ?_⟩
 refine rh_done (by kernel_rfl) ?_
 refine run_seq <| run_region <| rl_v rfl rfl rfl (ov_load rfl Try.underlying180 rfl rfl (by exact hO12.cellL 0 rfl (off := 0) rfl)) ?_
 refine rl_invoke (cStore m.t) rfl rfl rfl rfl rfl (mStore m.t _ _) rfl (storeO m.t (A.node m.t) hO12) (fun e15 w16 hp17 => ?_)
 obtain ⟨rfl, hO3⟩ := hp17
 refine ⟨_, rfl, ?_⟩
 refine rl_v rfl rfl rfl (ov_nil rfl rfl) <| rl_v rfl rfl rfl (ov_fieldS rfl Try.underlying189 rfl (fo := 3) rfl (by kernel_rfl) rfl) ?_
 refine rl_v rfl rfl rfl (ov_load rfl Try.underlying4 rfl rfl (by exact hO3.cellL (k + 2) (hk _) (off := 3) rfl)) ?_
 refine rl_v rfl rfl rfl (ov_not rfl rfl) <| rl_nil ?_
 first | refine run_cond_dec rfl (fun g1 => ?_) (fun g1n => ?_) | refine run_cond rfl (fun g1 => ?_) (fun g1n => ?_)
 ·have hW : WAt B w0 w16 A X Pl (some (nbox A m.t b4) :: some (lch b3 201 (msl m)) :: R) := WAt.push2 hO3 hK hPl
  refine run_region <| rl_v rfl rfl rfl (ov_move rfl rfl) <| rl_v rfl rfl rfl (ov_load rfl Try.underlying180 rfl rfl (by exact hO3.cellL 0 rfl (off := 0) rfl)) ?_
  refine rl_v rfl rfl rfl (ov_func rfl rfl rfl) ?_
  refine rl_call callable_136 rfl rfl rfl rfl rfl rfl (run_take 137 (X.take m).2 A X (X.take m).1 (MW.fin m.t (X.take m)) m.t B Pl _ #[ptr b4, ptr b3] w0 w16 hW (fun w box h => bring1_any A X m box b4 b3 B Pl R w0 w hG hm hb h) (fun w box hs h => brStart A X m B Pl _ w0 w hlen hs h) (fun hs => by unfold MW.fin; rw [hs]; rfl) (run_callFunc callable_137)) (fun e18 w19 hp20 => ?_)
  obtain ⟨rfl, hW2⟩ := hp20
  refine ⟨_, rfl, ?_⟩
  refine rl_nil <| run_end Try.func104 (res0 Try.results104) ?_
  exact ⟨rfl, by unfold MW.bring; rw [if_neg (by simpa using g1)]; exact hW2.drop.drop⟩
 ·refine run_skip <| run_end Try.func104 (res0 Try.results104) ?_
  exact ⟨rfl, by unfold MW.bring; rw [if_pos (by simpa using g1n)]; exact (WAt.push2 hO3 hK hPl).drop.drop⟩
theorem getD_bag {X : MW} {i : Int} (hi : 0 ≤ i ∧ i < X.bag.length) : X.bag.getD i.toNat Ms.z ∈ X.bag := by
 rw [List.getD_eq_getElem?_getD, List.getElem?_eq_getElem (by omega)]
 exact List.getElem_mem _
theorem ov_nilI {P : Program} {N : Nat} {o : Oper} {F : Fr} {w : World} {x : Operand} {t : TypeId} {v : Value} (ho : o.op = .nilCheck x) (hx : Fr.ev F x = some (.iface t v)) : OpV P N o F w (.iface t v) := by
 intro a ha
 unfold execOp
 rw [ho]
 simp [ha.ev hx]
theorem tick_any (A : WA) (X : MW) (n : Int) (B : Nat) (Pl R : List (Option Blk)) (w0 w : World) (hn : n = 0 ∨ n = 1 ∨ n = 2) (hG : Good X) (hb : X.bag.length + 5000 < 4000000000000) (h : WAt B w0 w A X Pl R) :
  Calls Try.prog 105 #[ptr A.W, iv n] w fun e w' => e = .returned (iv (if (X.lg n).down then 80 else 0)) ∧ WAt B w0 w' A (X.tick0 n) Pl R := by
 obtain ⟨K, N, hO, hK, hPl⟩ := h
 obtain ⟨k, t, rv, rest, hk4, hk, hr, hset, hw2⟩ := hK.node A hn
 refine calls_of_run (F := [(0, _), (1, _)]) Try.func105 rfl Try.ntmps105 rfl rfl <| run_seq <| run_region <| rl_v rfl rfl rfl (ov_assign rfl rfl) <| rl_nil <| run_seq <| run_region <| rl_v rfl rfl rfl (ov_move rfl rfl) <| rl_v rfl rfl rfl (ov_move rfl rfl) ?_
 refine rl_call callable_134 rfl rfl rfl rfl rfl rfl (node_any A X K n 0 B _ w0 w hn hO rfl) (fun e1 w2 hp3 => ?_)
 obtain ⟨rfl, hO2⟩ := hp3
 refine ⟨_, rfl, ?_⟩
 refine rl_v rfl rfl rfl (ov_move rfl rfl) <| rl_v rfl rfl rfl (ov_extract rfl rfl (by rfl)) ?_
 refine rl_v rfl rfl rfl (ov_extract rfl rfl (by rfl)) ?_
 refine rl_v rfl rfl rfl (ov_assign rfl rfl) <| rl_v rfl rfl rfl (ov_assign rfl rfl) <| rl_nil <| run_seq <| run_seq <| run_region <| rl_v rfl rfl rfl (ov_move rfl rfl) <| rl_v rfl rfl rfl (ov_neq rfl rfl rfl) <| rl_nil ?_
 first | refine run_cond_dec rfl (fun g1 => ?_) (fun g1n => ?_) | refine run_cond rfl (fun g1 => ?_) (fun g1n => ?_)
 ·exfalso; exact g1 rfl
 ·refine run_skip <| run_seq <| run_seq <| run_region <| rl_v rfl rfl rfl (ov_move rfl rfl) ?_
  refine rl_invoke (cStore n) rfl rfl rfl rfl rfl (mStore n _ _) rfl (storeO n (A.node n) hO2) (fun e4 w5 hp6 => ?_)
  obtain ⟨rfl, hO3⟩ := hp6
  refine ⟨_, rfl, ?_⟩
  refine rl_v rfl rfl rfl (ov_nil rfl rfl) <| rl_v rfl rfl rfl (ov_fieldS rfl Try.underlying189 rfl (fo := 3) rfl (by kernel_rfl) rfl) ?_
  refine rl_v rfl rfl rfl (ov_load rfl Try.underlying4 rfl rfl (by exact hO3.cellL k (hk _) (off := 3) rfl)) ?_
  refine rl_nil ?_
  first | refine run_cond_dec rfl (fun g2 => ?_) (fun g2n => ?_) | refine run_cond rfl (fun g2 => ?_) (fun g2n => ?_)
  ·refine run_seq <| run_region <| rl_v rfl rfl rfl (ov_assign rfl rfl) <| rl_nil <| run_ret Try.func105 (res1 Try.results105 rfl) ?_
   exact ⟨by rw [if_pos g2], by unfold MW.tick0; rw [if_pos g2]; exact ⟨K, N, hO3, hK, hPl⟩⟩
  ·refine run_skip <| run_seq <| run_region <| rl_v rfl rfl rfl (ov_move rfl rfl) <| rl_v rfl rfl rfl (ov_move rfl rfl) <| rl_v rfl rfl rfl (ov_move rfl rfl) <| rl_v rfl rfl rfl (ov_nilI rfl (by rfl)) ?_
   refine rl_v rfl rfl rfl (ov_func rfl rfl rfl) ?_
   refine rl_call callable_136 rfl rfl rfl rfl rfl rfl (run_tick A X (X.tick n) n B Pl R w0 w5 ⟨K, N, hO3, hK, hPl⟩ (fun w box h => tickN_any A X n B Pl _ w0 w hn hG hb h)) (fun e7 w8 hp9 => ?_)
   obtain ⟨rfl, hW⟩ := hp9
   refine ⟨_, rfl, ?_⟩
   refine rl_nil <| run_seq <| run_region <| rl_v rfl rfl rfl (ov_assign rfl rfl) <| rl_nil <| run_ret Try.func105 (res1 Try.results105 rfl) ?_
   exact ⟨by rw [if_neg (by rw [g2n]; exact Bool.noConfusion)], by unfold MW.tick0; rw [if_neg (by rw [g2n]; exact Bool.noConfusion)]; exact hW⟩
theorem relog {A : WA} {X : MW} {K : WC} {n : Int} {k : Nat} {t : TypeId} {rv' : Value} {l' : Lg} {rest : List Value} {B : Nat} {w0 w : World} {N R Pl : List (Option Blk)} (hl : k < (K.M A X ++ (N ++ R)).length)
  (hset : ∀ T rv' l', (K.M A X ++ T).set k (some (lch (A.node n) t (lcells rv' l' rest))) = (K.setR n rv').M A (X.setLg n l') ++ T) (hok : WOk (X.setLg n l') (K.setR n rv') N) (hPl : ∀ x ∈ Pl, x ∈ N)
  (hO : Own B w0 w (some (lch (A.node n) t (lcells rv' l' rest)) :: (K.M A X ++ (N ++ R)).eraseIdx k)) : WAt B w0 w A (X.setLg n l') Pl R := by
 have h := hO.perm (perm_back _ hl)
 rw [hset] at h
 exact ⟨K.setR n rv', N, h, hok, hPl⟩
theorem setLg_rlen {X : MW} {n : Int} {l : Lg} (hn : N3 n) (h0 : (X.lg 0).recs.length ≤ 5000) (h : l.recs.length ≤ 5000) : (X.setLg n l).c.recs.length ≤ 1000000 := by
 have e := lg_setLg (X := X) (l := l) hn (m := 0) (.inl rfl)
 rw [lg0] at e
 rw [e]
 split <;> omega
theorem restart_any (A : WA) (X : MW) (n : Int) (B : Nat) (Pl R : List (Option Blk)) (w0 w : World) (hn : n = 0 ∨ n = 1 ∨ n = 2) (hG : Good X) (h : WAt B w0 w A X Pl R) :
  Calls Try.prog 103 #[ptr A.W, iv n] w fun e w' => e = .returned (iv (if (X.lg n).down then 0 else 5)) ∧ WAt B w0 w' A (X.restart n) Pl R := by
 obtain ⟨K, N, hO, hK, hPl⟩ := h
 obtain ⟨k, t, rv, rest, hk4, hk, hr, hset, hw2⟩ := hK.node A hn
 obtain ⟨ao, cap, hrv, _⟩ := hr.val
 have hlen : k < (K.M A X ++ (N ++ R)).length := (List.getElem?_eq_some_iff.1 (hk (N ++ R))).1
 have hl0 := hG.len (n := 0) (.inl rfl)
 have hln := hG.len hn
 refine calls_of_run (F := [(0, _), (1, _)]) Try.func103 rfl Try.ntmps103 rfl rfl <| run_seq <| run_region <| rl_v rfl rfl rfl (ov_assign rfl rfl) <| rl_nil <| run_seq <| run_region <| rl_v rfl rfl rfl (ov_move rfl rfl) <| rl_v rfl rfl rfl (ov_move rfl rfl) ?_
 refine rl_call callable_134 rfl rfl rfl rfl rfl rfl (node_any A X K n 0 B _ w0 w hn hO rfl) (fun e1 w2 hp3 => ?_)
 obtain ⟨rfl, hO2⟩ := hp3
 refine ⟨_, rfl, ?_⟩
 refine rl_v rfl rfl rfl (ov_move rfl rfl) <| rl_v rfl rfl rfl (ov_extract rfl rfl (by rfl)) ?_
 refine rl_v rfl rfl rfl (ov_extract rfl rfl (by rfl)) ?_
 refine rl_v rfl rfl rfl (ov_assign rfl rfl) <| rl_v rfl rfl rfl (ov_assign rfl rfl) <| rl_nil <| run_seq <| run_seq <| run_region <| rl_v rfl rfl rfl (ov_move rfl rfl) <| rl_v rfl rfl rfl (ov_neq rfl rfl rfl) <| rl_nil ?_
 first | refine run_cond_dec rfl (fun g1 => ?_) (fun g1n => ?_) | refine run_cond rfl (fun g1 => ?_) (fun g1n => ?_)
 ·exfalso; exact g1 rfl
 ·refine run_skip <| run_seq <| run_region <| rl_v rfl rfl rfl (ov_move rfl rfl) ?_
  refine rl_invoke (cStore n) rfl rfl rfl rfl rfl (mStore n _ _) rfl (storeO n (A.node n) hO2) (fun e4 w5 hp6 => ?_)
  obtain ⟨rfl, hO3⟩ := hp6
  refine ⟨_, rfl, ?_⟩
  have hF := hO3.perm (perm_front (hk (N ++ R)))
  refine rl_v rfl rfl rfl (ov_assign rfl rfl) <| rl_nil <| run_seq <| run_seq <| run_region <| rl_v rfl rfl rfl (ov_move rfl rfl) <| rl_v rfl rfl rfl (ov_nil rfl rfl) <| rl_v rfl rfl rfl (ov_fieldS rfl Try.underlying189 rfl (fo := 3) rfl (by kernel_rfl) rfl) ?_
  refine rl_v rfl rfl rfl (ov_load rfl Try.underlying4 rfl rfl (by exact hF.cellL 0 rfl (off := 3) rfl)) ?_
  refine rl_v rfl rfl rfl (ov_not rfl rfl) <| rl_nil ?_
  first | refine run_cond_dec rfl (fun g2 => ?_) (fun g2n => ?_) | refine run_cond rfl (fun g2 => ?_) (fun g2n => ?_)
  ·have hd : (X.lg n).down = false := by simpa using g2
   refine run_seq <| run_region <| rl_v rfl rfl rfl (ov_assign rfl rfl) <| rl_nil <| run_ret Try.func103 (res1 Try.results103 rfl) ?_
   exact ⟨by rw [if_neg (by rw [hd]; exact Bool.noConfusion)], by unfold MW.restart; dsimp only; rw [if_neg (by rw [hd]; exact Bool.noConfusion)]; exact ⟨K, N, hO3, hK, hPl⟩⟩
  ·have hd : (X.lg n).down = true := by simpa using g2n
   refine run_skip <| run_seq <| run_region <| rl_v rfl rfl rfl (ov_move rfl rfl) <| rl_v rfl rfl rfl (ov_move rfl rfl) <| rl_v rfl rfl rfl (ov_move rfl rfl) <| rl_v rfl rfl rfl (ov_move rfl rfl) <| rl_v rfl rfl rfl (ov_nil rfl rfl) <| rl_v rfl rfl rfl (ov_fieldS rfl Try.underlying189 rfl (fo := 0) rfl (by kernel_rfl) rfl) ?_
   refine rl_v rfl rfl rfl (ov_load rfl Try.underlying187 rfl rfl (by exact hF.cellL 0 rfl (off := 0) (congrArg some hrv))) ?_
   refine rl_v rfl rfl rfl (ov_len rfl Try.underlying187 rfl) <| rl_v rfl rfl rfl (ov_nil rfl rfl) <| rl_v rfl rfl rfl (ov_fieldS rfl Try.underlying189 rfl (fo := 3) rfl (by kernel_rfl) rfl) ?_
   refine rl_ow rfl (ow_storeL rfl rfl (by kernel_rfl) hF 0 rfl rfl rfl rfl rfl) ?_
   rintro _ w7 ⟨rfl, hO8, hs9⟩
   refine rl_v rfl rfl rfl (ov_nil rfl rfl) <| rl_v rfl rfl rfl (ov_fieldS rfl Try.underlying189 rfl (fo := 2) rfl (by kernel_rfl) rfl) ?_
   refine rl_ow rfl (ow_storeL rfl rfl (by kernel_rfl) hO8 0 rfl rfl rfl rfl rfl) ?_
   rintro _ w10 ⟨rfl, hO11, hs12⟩
   refine rl_v rfl rfl rfl (ov_nil rfl rfl) <| rl_v rfl rfl rfl (ov_fieldS rfl Try.underlying189 rfl (fo := 1) rfl (by kernel_rfl) rfl) ?_
   refine rl_ow rfl (ow_storeL rfl rfl (by kernel_rfl) hO11 0 rfl rfl rfl rfl rfl) ?_
   rintro _ w13 ⟨rfl, hO14, hs15⟩
   have hW : WAt B w0 w13 A (X.setLg n ⟨(X.lg n).recs, (X.lg n).recs.length, 0, false⟩) Pl R := relog (rv' := rv) hlen hset (hw2 N rv _ (fun _ h => h) hr) hPl hO14
   refine rl_nil <| run_seq <| run_region <| rl_v rfl rfl rfl (ov_move rfl rfl) ?_
   refine rl_invoke (cStart n) rfl rfl rfl rfl rfl (mStart n _ _) rfl (start_any A (X.setLg n ⟨(X.lg n).recs, (X.lg n).recs.length, 0, false⟩) n B Pl R w0 w13 (setLg_rlen hn hl0 hln) hW) (fun e16 w17 hp18 => ?_)
   obtain ⟨rfl, hW2⟩ := hp18
   refine ⟨_, rfl, ?_⟩
   refine rl_nil <| run_seq <| run_region <| rl_v rfl rfl rfl (ov_assign rfl rfl) <| rl_nil <| run_ret Try.func103 (res1 Try.results103 rfl) ?_
   exact ⟨by rw [if_pos hd], by unfold MW.restart; dsimp only; rw [if_pos hd]; exact hW2⟩
end Go.Proofs.Ytfbbagnpdfafjaa
