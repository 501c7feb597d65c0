import Derived.Test.YteagflekbbchhaaSeT
set_option maxRecDepth 100000
namespace Go.Proofs.Yteagflekbbchhaa
open Go.RowKit Go.Proofs
theorem take_any (A : WA) (X : MW) (m : Ms) (B : Nat) (Pl R : List (Option Blk)) (w0 w : World) (hG : Good X) (hm : MsOk X m) (hb : X.bag.length + 5000 < 4000000000000) (h : WAt B w0 w A X Pl R) :
  Calls Try.prog (fTake m.t) #[ptr (A.node m.t), .agg (msl m).toArray] w fun e w' => Burns (X.take m).2 e (WAt B w0 w' A (X.take m).1 Pl R) := by
 have h1 := hm.1
 unfold fTake MW.take
 by_cases e : m.t = 0
 ·rw [if_pos e, if_pos e, e]
  exact coTake_any A X m B Pl R w0 w hG (by omega) (by omega) h
 ·rw [if_neg e, if_neg e]
  exact siteTake_any A X m.t m B Pl R w0 w (by omega) hG (by omega) hm.2 h
theorem tickN_any (A : WA) (X : MW) (n : Int) (B : Nat) (Pl R : List (Option Blk)) (w0 w : World) (hn : N3 n) (hG : Good X) (hb : X.bag.length + 5000 < 4000000000000) (h : WAt B w0 w A X Pl R) :
  Calls Try.prog (fTick n) #[ptr (A.node n)] w fun e w' => e = .returned (.tuple #[]) ∧ WAt B w0 w' A (X.tick n) Pl R := by
 unfold fTick MW.tick
 by_cases e : n = 0
 ·rw [if_pos e, if_pos e, e]
  exact coTick_any A X B Pl R w0 w hG hb h
 ·rw [if_neg e, if_neg e]
  exact siteTick_any A X n B Pl R w0 w (by unfold N3 at hn; omega) hG (by omega) h
theorem cTake_len (X : MW) (m : Ms) : (X.cTake m).1.c.recs.length ≤ X.c.recs.length + 1 := by
 have hw : ∀ Y : MW, Y.c = X.c → (Y.wr 0 (4, m.d)).c.recs.length = X.c.recs.length + 1 := fun Y e => by
  show (Y.c.write (4, m.d)).recs.length = _
  rw [write_recs, e, List.length_append]; rfl
 have ht : ∀ (Y : MW) (d st k : Int), (Y.turn d st k).c = Y.c := fun Y d st k => congrFun (MW.turn_same Y d st k).1 0
 unfold MW.cTake
 dsimp only
 split
 ·split
  ·split
   ·dsimp only; rw [ht, hw (X.know m.d ((X.kn m.d).hear m.f)) rfl]; exact Nat.le_refl _
   ·dsimp only; rw [hw (X.know m.d ((X.kn m.d).hear m.f)) rfl]; exact Nat.le_refl _
  ·exact Nat.le_succ _
 ·split
  ·exact Nat.le_succ _
  ·split
   ·exact Nat.le_succ _
   ·split
    ·dsimp only; rw [ht]; exact Nat.le_succ _
    ·split
     ·exact Nat.le_succ _
     ·exact Nat.le_succ _
theorem WAt.pull3 {B : Nat} {w0 w : World} {A : WA} {X : MW} {R Pl : List (Option Blk)} {x y z : Option Blk} (h : WAt B w0 w A X Pl (x :: y :: z :: R)) : ∃ K N, Own B w0 w (x :: y :: z :: (K.M A X ++ (N ++ R))) ∧ WOk X K N ∧ ∀ z ∈ Pl, z ∈ N := by
 obtain ⟨K, N, hO, hK, hPl⟩ := h
 exact ⟨K, N, hO.perm ((List.Perm.cons x ((List.Perm.cons y (perm_mid2 z _ _ _)).trans (perm_mid2 y _ _ _))).trans (perm_mid2 x _ _ _)).symm, hK, hPl⟩
theorem bring1_any (A : WA) (X : MW) (m : Ms) (box : Option Blk) (bn bm B : Nat) (Pl R : List (Option Blk)) (w0 w : World) (hG : Good X) (hm : MsOk X m) (hb : X.bag.length + 5000 < 4000000000000)
  (h : WAt B w0 w A X Pl (box :: some (nbox A m.t bn) :: some (lch bm 87 (msl m)) :: R)) :
  Calls Try.prog 77 #[ptr bn, ptr bm] w fun e w' => Burns (X.take m).2 e (WAt B w0 w' A (X.take m).1 Pl (box :: some (nbox A m.t bn) :: some (lch bm 87 (msl m)) :: R)) := by
 obtain ⟨K, N, hO, hK, hPl⟩ := h.pull3
 refine calls_of_run (F := [(0, _), (1, _)]) Try.func77 rfl Try.ntmps77 rfl rfl <| run_region <| rl_v rfl rfl rfl (ov_load rfl Try.underlying94 rfl rfl (by exact hO.cellL 1 rfl (off := 0) rfl)) ?_
 refine rl_v rfl rfl rfl (ov_loadW rfl Try.underlying87 rfl (by kernel_rfl) rfl hO 2 rfl) ?_
 refine rl_invokeP (cTake m.t) rfl rfl rfl rfl rfl (mTake m.t _ _) rfl ⟨_, Try.func77⟩ (take_any A X m B Pl _ w0 w hG hm hb h) (fun e1 w2 hp3 => ?_)
 rcases hp3 with ⟨rfl, ⟨hok, hW2⟩⟩ | ⟨rfl, ⟨hok, hW2⟩⟩
 case inr => exact .inr ⟨_, rfl, .inr ⟨rfl, hok, hW2⟩⟩
 refine .inl ⟨_, rfl, ?_⟩
 refine rl_nil <| run_end Try.func77 (res0 Try.results77) ?_
 exact .inl ⟨rfl, hok, hW2⟩
theorem brStart (A : WA) (X : MW) (m : Ms) (B : Nat) (Pl R : List (Option Blk)) (w0 w : World) (hl : (X.lg 0).recs.length ≤ 5000) (hs : (X.take m).2 = false) (h : WAt B w0 w A (X.take m).1 Pl R) :
  Calls Try.prog (fStart m.t) #[ptr (A.node m.t)] w fun e w' => e = .returned (.tuple #[]) ∧ WAt B w0 w' A (MW.fin m.t (X.take m)) Pl R := by
 unfold MW.fin
 rw [hs]
 by_cases e : m.t = 0
 ·refine start_any A _ m.t B Pl R w0 w ?_ h
  unfold MW.take
  rw [if_pos e]
  have := cTake_len X m
  have h2 : X.c.recs.length ≤ 5000 := hl
  omega
 ·unfold fStart
  rw [if_neg e, if_neg Bool.false_ne_true, start_ne e]
  exact (siteStart_any _ w).mono fun e w' ⟨h1, h2⟩ => ⟨h1, by rw [h2]; exact h⟩
theorem bring_any (A : WA) (X : MW) (m : Ms) (B : Nat) (Pl R : List (Option Blk)) (w0 w : World) (hG : Good X) (hm : MsOk X m) (hb : X.bag.length + 5000 < 4000000000000) (h : WAt B w0 w A X Pl R) :
  Calls Try.prog 55 #[ptr A.W, .agg (msl m).toArray] w fun e w' => e = .returned (.tuple #[]) ∧ WAt B w0 w' A (X.bring m) Pl R := by
 obtain ⟨K, N, hO, hK, hPl⟩ := h
 have hn : m.t = 0 ∨ m.t = 1 ∨ m.t = 2 := by have := hm.1; omega
 obtain ⟨k, t, rv, rest, hk4, hk, hr, hset, hw2⟩ := hK.node A hn
 have hlen := hG.len (n := 0) (.inl rfl)
 refine calls_of_run (F := [(0, _), (1, _)]) Try.func55 rfl Try.ntmps55 rfl rfl <| run_seq <| run_region <| rl_ow rfl (ow_box _ rfl rfl rfl rfl rfl hO) ?_
 rintro _ w1 ⟨b3, rfl, hO2, hs3⟩
 refine rl_nil <| run_seq <| run_held (fun w' => Own B w0 w' (some (lch b3 87 (msl m)) :: (K.M A X ++ (N ++ R)))) mixed ?_
 have hO5 := hO2.drew
 generalize World.drew w1 = w4 at hO5 ⊢
 have hS6 : Own B w0 w4 (some (lch b3 87 (msl m)) :: (K.M A X ++ (N ++ R))) := by first | exact hO5 | exact hO5.tail
 refine rh_v 0 rfl (by kernel_rfl) rfl rfl rfl hS6 (fun _ hS => ov_move rfl rfl) ?_
 refine rh_v 1 rfl (by kernel_rfl) rfl rfl rfl hS6 (fun _ hS => ov_fieldS rfl Try.underlying87 rfl (fo := 1) rfl (by kernel_rfl) rfl) ?_
 refine rh_v 2 rfl (by kernel_rfl) rfl rfl rfl hS6 (fun _ hS => ov_load rfl Try.underlying3 rfl rfl (by exact hS.cellL 0 rfl (off := 1) rfl)) ?_
 refine rh_v 3 rfl (by kernel_rfl) rfl rfl rfl hS6 (fun _ hS => ov_nil rfl rfl) ?_
 refine rh_v 4 rfl (by kernel_rfl) rfl rfl rfl hS6 (fun _ hS => ov_fieldS rfl Try.underlying97 rfl (fo := 5) rfl (by kernel_rfl) rfl) ?_
 refine rh_v 5 rfl (by kernel_rfl) rfl rfl rfl hS6 (fun _ hS => ov_indexA1 rfl Try.underlying95 (by kernel_rfl) rfl rfl ⟨by omega, by omega⟩) ?_
 refine rh_v 6 rfl (by kernel_rfl) rfl rfl rfl hS6 (fun _ hS => ov_load rfl Try.underlying94 rfl rfl (by exact nodeCell (X := X) (K := K) (j := 1) hS rfl hn (by omega))) ?_
 refine rh_any1 7 (by kernel_rfl) ?_
 refine rc_op rfl rfl (ow_alloc _ rfl rfl rfl zero_94 rfl hO5) ?_
 rintro _ w7 ⟨b4, rfl, hO8, hs9⟩
 have hS10 : Own B w0 w7 (some (lch b3 87 (msl m)) :: (K.M A X ++ (N ++ R))) := by first | exact hO8 | exact hO8.tail
 refine ⟨hS10, ?_⟩
 refine rh_any1 8 (by kernel_rfl) ?_
 refine rc_op rfl rfl (ow_storeL rfl rfl (by kernel_rfl) hO8 0 rfl rfl rfl rfl rfl) ?_
 rintro _ w11 ⟨rfl, hO12, hs13⟩
 have hS14 : Own B w0 w11 (some (lch b3 87 (msl m)) :: (K.M A X ++ (N ++ R))) := by first | exact hO12 | exact hO12.tail
 refine ⟨hS14, ?_⟩
 refine rh_done (by kernel_rfl) ?_
 refine run_seq <| run_region <| rl_v rfl rfl rfl (ov_load rfl Try.underlying94 rfl rfl (by exact hO12.cellL 0 rfl (off := 0) rfl)) ?_
 refine rl_invoke (cStore m.t) rfl rfl rfl rfl rfl (mStore m.t _ _) rfl (storeO m.t (A.node m.t) hO12) (fun e15 w16 hp17 => ?_)
 obtain ⟨rfl, hO3⟩ := hp17
 refine ⟨_, rfl, ?_⟩
 refine rl_v rfl rfl rfl (ov_nil rfl rfl) <| rl_v rfl rfl rfl (ov_fieldS rfl Try.underlying102 rfl (fo := 3) rfl (by kernel_rfl) rfl) ?_
 refine rl_v rfl rfl rfl (ov_load rfl Try.underlying4 rfl rfl (by exact hO3.cellL (k + 2) (hk _) (off := 3) rfl)) ?_
 refine rl_v rfl rfl rfl (ov_not rfl rfl) <| rl_nil ?_
 first | refine run_cond_dec rfl (fun g1 => ?_) (fun g1n => ?_) | refine run_cond rfl (fun g1 => ?_) (fun g1n => ?_)
 ·have hW : WAt B w0 w16 A X Pl (some (nbox A m.t b4) :: some (lch b3 87 (msl m)) :: R) := WAt.push2 hO3 hK hPl
  refine run_region <| rl_v rfl rfl rfl (ov_move rfl rfl) <| rl_v rfl rfl rfl (ov_load rfl Try.underlying94 rfl rfl (by exact hO3.cellL 0 rfl (off := 0) rfl)) ?_
  refine rl_v rfl rfl rfl (ov_func rfl rfl rfl) ?_
  refine rl_call callable_59 rfl rfl rfl rfl rfl rfl (run_take 77 (X.take m).2 A X (X.take m).1 (MW.fin m.t (X.take m)) m.t B Pl _ #[ptr b4, ptr b3] w0 w16 hW (fun w box h => bring1_any A X m box b4 b3 B Pl R w0 w hG hm hb h) (fun w box hs h => brStart A X m B Pl _ w0 w hlen hs h) (fun hs => by unfold MW.fin; rw [hs]; rfl) (run_callFunc callable_77)) (fun e18 w19 hp20 => ?_)
  obtain ⟨rfl, hW2⟩ := hp20
  refine ⟨_, rfl, ?_⟩
  refine rl_nil <| run_end Try.func55 (res0 Try.results55) ?_
  exact ⟨rfl, by unfold MW.bring; rw [if_neg (by simpa using g1)]; exact hW2.drop.drop⟩
 ·refine run_skip <| run_end Try.func55 (res0 Try.results55) ?_
  exact ⟨rfl, by unfold MW.bring; rw [if_pos (by simpa using g1n)]; exact (WAt.push2 hO3 hK hPl).drop.drop⟩
theorem getD_bag {X : MW} {i : Int} (hi : 0 ≤ i ∧ i < X.bag.length) : X.bag.getD i.toNat Ms.z ∈ X.bag := by
 rw [List.getD_eq_getElem?_getD, List.getElem?_eq_getElem (by omega)]
 exact List.getElem_mem _
theorem deliver_any (A : WA) (X : MW) (i : Int) (B : Nat) (Pl R : List (Option Blk)) (w0 w : World) (hi : 0 ≤ i ∧ i < X.bag.length) (hG : Good X) (hb : X.bag.length + 5000 < 4000000000000) (h : WAt B w0 w A X Pl R) :
  Calls Try.prog 43 #[ptr A.W, iv i] w fun e w' => e = .returned (iv 0) ∧ WAt B w0 w' A (X.deliver i.toNat) Pl R := by
 have hm := hG.bg _ (getD_bag hi)
 have hp := phi_dropAt (X := X) (i := i.toNat) (by omega)
 have hbl : (X.dropAt i.toNat).bag.length + 5000 < 4000000000000 := by
  show (X.bag.take i.toNat ++ X.bag.drop (i.toNat + 1)).length + 5000 < _
  simp
  omega
 refine calls_of_run (F := [(0, _), (1, _)]) Try.func43 rfl Try.ntmps43 rfl rfl ?_
 have hO0 := Own.init w
 refine run_seq <| run_region <| rl_v rfl rfl rfl (ov_assign rfl rfl) <| rl_nil <| run_seq <| run_region <| rl_v rfl rfl rfl (ov_move rfl rfl) <| rl_v rfl rfl rfl (ov_move rfl rfl) ?_
 refine rl_call callable_71 rfl rfl rfl rfl rfl rfl (message_any A X i B Pl R w0 w hi (by omega) h) (fun e1 w2 hp3 => ?_)
 obtain ⟨rfl, hW⟩ := hp3
 refine ⟨_, rfl, ?_⟩
 obtain ⟨K, N, hO, hK, hPl⟩ := hW
 refine rl_v rfl rfl rfl (ov_move rfl rfl) <| rl_v rfl rfl rfl (ov_extract rfl rfl (by rfl)) ?_
 refine rl_v rfl rfl rfl (ov_extract rfl rfl (by rfl)) ?_
 refine rl_ow rfl (ow_alloc _ rfl rfl rfl zero_87 rfl hO) ?_
 rintro _ w4 ⟨b5, rfl, hO5, hs6⟩
 refine rl_ow rfl (ow_storeW rfl rfl (by kernel_rfl) hO5 0 rfl rfl (by rfl) rfl (by rfl)) ?_
 rintro _ w7 ⟨rfl, hO8, hs9⟩
 refine rl_v rfl rfl rfl (ov_assign rfl rfl) <| rl_nil <| run_seq <| run_seq <| run_region <| rl_v rfl rfl rfl (ov_move rfl rfl) <| rl_v rfl rfl rfl (ov_neq rfl rfl rfl) <| rl_nil ?_
 first | refine run_cond_dec rfl (fun g1 => ?_) (fun g1n => ?_) | refine run_cond rfl (fun g1 => ?_) (fun g1n => ?_)
 ·exfalso; exact g1 rfl
 ·have ei : ((i.toNat : Nat) : Int) = i := by omega
  refine run_skip <| run_seq <| run_region <| rl_v rfl rfl rfl (ov_move rfl rfl) <| rl_v rfl rfl rfl (ov_move rfl rfl) ?_
  refine rl_call callable_72 rfl rfl rfl rfl rfl rfl ((show Calls _ _ #[ptr A.W, iv i] _ _ from ei ▸ drop_any A X i.toNat B Pl _ w0 w7 (by omega) (by omega) (WAt.push hO8 hK hPl))) (fun e10 w11 hp12 => ?_)
  obtain ⟨rfl, hW2⟩ := hp12
  refine ⟨_, rfl, ?_⟩
  obtain ⟨K2, N2, hO2, hK2, hPl2⟩ := hW2.pull
  refine rl_nil <| run_seq <| run_region <| rl_v rfl rfl rfl (ov_move rfl rfl) <| rl_v rfl rfl rfl (ov_loadW rfl Try.underlying87 rfl (by kernel_rfl) rfl hO2 0 rfl) ?_
  refine rl_call callable_55 rfl rfl rfl rfl rfl rfl (bring_any A (X.dropAt i.toNat) (X.bag.getD i.toNat Ms.z) B Pl _ w0 w11 (hG.dropAt _) hm hbl hW2) (fun e13 w14 hp15 => ?_)
  obtain ⟨rfl, hW3⟩ := hp15
  refine ⟨_, rfl, ?_⟩
  refine rl_nil <| run_seq <| run_region <| rl_v rfl rfl rfl (ov_assign rfl rfl) <| rl_nil <| run_ret Try.func43 (res1 Try.results43 rfl) ?_
  exact ⟨rfl, hW3.drop⟩
theorem deliver_none (A : WA) (X : MW) (i : Int) (B : Nat) (Pl R : List (Option Blk)) (w0 w : World) (hi : ¬ (0 ≤ i ∧ i < X.bag.length)) (hb : X.bag.length ≤ 4000000000000) (h : WAt B w0 w A X Pl R) :
  Calls Try.prog 43 #[ptr A.W, iv i] w fun e w' => e = .returned (iv 4) ∧ WAt B w0 w' A X Pl R := by
 refine calls_of_run (F := [(0, _), (1, _)]) Try.func43 rfl Try.ntmps43 rfl rfl ?_
 have hO0 := Own.init w
 refine run_seq <| run_region <| rl_v rfl rfl rfl (ov_assign rfl rfl) <| rl_nil <| run_seq <| run_region <| rl_v rfl rfl rfl (ov_move rfl rfl) <| rl_v rfl rfl rfl (ov_move rfl rfl) ?_
 refine rl_call callable_71 rfl rfl rfl rfl rfl rfl (message_none A X i B Pl R w0 w hi hb h) (fun e1 w2 hp3 => ?_)
 obtain ⟨rfl, hW⟩ := hp3
 refine ⟨_, rfl, ?_⟩
 obtain ⟨K, N, hO, hK, hPl⟩ := hW
 refine rl_v rfl rfl rfl (ov_move rfl rfl) <| rl_v rfl rfl rfl (ov_extract rfl rfl (by rfl)) ?_
 refine rl_v rfl rfl rfl (ov_extract rfl rfl (by rfl)) ?_
 refine rl_ow rfl (ow_alloc _ rfl rfl rfl zero_87 rfl hO) ?_
 rintro _ w4 ⟨b5, rfl, hO5, hs6⟩
 refine rl_ow rfl (ow_storeW rfl rfl (by kernel_rfl) hO5 0 rfl rfl (by rfl) rfl (by rfl)) ?_
 rintro _ w7 ⟨rfl, hO8, hs9⟩
 refine rl_v rfl rfl rfl (ov_assign rfl rfl) <| rl_nil <| run_seq <| run_seq <| run_region <| rl_v rfl rfl rfl (ov_move rfl rfl) <| rl_v rfl rfl rfl (ov_neq rfl rfl rfl) <| rl_nil ?_
 first | refine run_cond_dec rfl (fun g1 => ?_) (fun g1n => ?_) | refine run_cond rfl (fun g1 => ?_) (fun g1n => ?_)
 ·refine run_seq <| run_region <| rl_v rfl rfl rfl (ov_move rfl rfl) <| rl_v rfl rfl rfl (ov_assign rfl rfl) <| rl_nil <| run_ret Try.func43 (res1 Try.results43 rfl) ?_
  exact ⟨rfl, (WAt.push hO8 hK hPl).drop⟩
 ·exfalso; exact absurd g1n (by decide)
theorem lose_any (A : WA) (X : MW) (i : Int) (B : Nat) (Pl R : List (Option Blk)) (w0 w : World) (hi : 0 ≤ i ∧ i < X.bag.length) (hb : X.bag.length ≤ 4000000000000) (h : WAt B w0 w A X Pl R) :
  Calls Try.prog 44 #[ptr A.W, iv i] w fun e w' => e = .returned (iv 0) ∧ WAt B w0 w' A (X.dropAt i.toNat) Pl R := by
 refine calls_of_run (F := [(0, _), (1, _)]) Try.func44 rfl Try.ntmps44 rfl rfl ?_
 have hO0 := Own.init w
 refine run_seq <| run_region <| rl_v rfl rfl rfl (ov_assign rfl rfl) <| rl_nil <| run_seq <| run_region <| rl_v rfl rfl rfl (ov_move rfl rfl) <| rl_v rfl rfl rfl (ov_move rfl rfl) ?_
 refine rl_call callable_71 rfl rfl rfl rfl rfl rfl (message_any A X i B Pl R w0 w hi (by omega) h) (fun e1 w2 hp3 => ?_)
 obtain ⟨rfl, hW⟩ := hp3
 refine ⟨_, rfl, ?_⟩
 obtain ⟨K, N, hO, hK, hPl⟩ := hW
 refine rl_v rfl rfl rfl (ov_move rfl rfl) <| rl_v rfl rfl rfl (ov_extract rfl rfl (by rfl)) ?_
 refine rl_v rfl rfl rfl (ov_extract rfl rfl (by rfl)) ?_
 refine rl_ow rfl (ow_alloc _ rfl rfl rfl zero_87 rfl hO) ?_
 rintro _ w4 ⟨b5, rfl, hO5, hs6⟩
 refine rl_ow rfl (ow_storeW rfl rfl (by kernel_rfl) hO5 0 rfl rfl (by rfl) rfl (by rfl)) ?_
 rintro _ w7 ⟨rfl, hO8, hs9⟩
 refine rl_v rfl rfl rfl (ov_assign rfl rfl) <| rl_nil <| run_seq <| run_seq <| run_region <| rl_v rfl rfl rfl (ov_move rfl rfl) <| rl_v rfl rfl rfl (ov_neq rfl rfl rfl) <| rl_nil ?_
 first | refine run_cond_dec rfl (fun g1 => ?_) (fun g1n => ?_) | refine run_cond rfl (fun g1 => ?_) (fun g1n => ?_)
 ·exfalso; exact g1 rfl
 ·have ei : ((i.toNat : Nat) : Int) = i := by omega
  refine run_skip <| run_seq <| run_region <| rl_v rfl rfl rfl (ov_move rfl rfl) <| rl_v rfl rfl rfl (ov_move rfl rfl) ?_
  refine rl_call callable_72 rfl rfl rfl rfl rfl rfl ((show Calls _ _ #[ptr A.W, iv i] _ _ from ei ▸ drop_any A X i.toNat B Pl _ w0 w7 (by omega) (by omega) (WAt.push hO8 hK hPl))) (fun e10 w11 hp12 => ?_)
  obtain ⟨rfl, hW2⟩ := hp12
  refine ⟨_, rfl, ?_⟩
  refine rl_nil <| run_seq <| run_region <| rl_v rfl rfl rfl (ov_assign rfl rfl) <| rl_nil <| run_ret Try.func44 (res1 Try.results44 rfl) ?_
  exact ⟨rfl, hW2.drop⟩
theorem lose_none (A : WA) (X : MW) (i : Int) (B : Nat) (Pl R : List (Option Blk)) (w0 w : World) (hi : ¬ (0 ≤ i ∧ i < X.bag.length)) (hb : X.bag.length ≤ 4000000000000) (h : WAt B w0 w A X Pl R) :
  Calls Try.prog 44 #[ptr A.W, iv i] w fun e w' => e = .returned (iv 4) ∧ WAt B w0 w' A X Pl R := by
 refine calls_of_run (F := [(0, _), (1, _)]) Try.func44 rfl Try.ntmps44 rfl rfl ?_
 have hO0 := Own.init w
 refine run_seq <| run_region <| rl_v rfl rfl rfl (ov_assign rfl rfl) <| rl_nil <| run_seq <| run_region <| rl_v rfl rfl rfl (ov_move rfl rfl) <| rl_v rfl rfl rfl (ov_move rfl rfl) ?_
 refine rl_call callable_71 rfl rfl rfl rfl rfl rfl (message_none A X i B Pl R w0 w hi hb h) (fun e1 w2 hp3 => ?_)
 obtain ⟨rfl, hW⟩ := hp3
 refine ⟨_, rfl, ?_⟩
 obtain ⟨K, N, hO, hK, hPl⟩ := hW
 refine rl_v rfl rfl rfl (ov_move rfl rfl) <| rl_v rfl rfl rfl (ov_extract rfl rfl (by rfl)) ?_
 refine rl_v rfl rfl rfl (ov_extract rfl rfl (by rfl)) ?_
 refine rl_ow rfl (ow_alloc _ rfl rfl rfl zero_87 rfl hO) ?_
 rintro _ w4 ⟨b5, rfl, hO5, hs6⟩
 refine rl_ow rfl (ow_storeW rfl rfl (by kernel_rfl) hO5 0 rfl rfl (by rfl) rfl (by rfl)) ?_
 rintro _ w7 ⟨rfl, hO8, hs9⟩
 refine rl_v rfl rfl rfl (ov_assign rfl rfl) <| rl_nil <| run_seq <| run_seq <| run_region <| rl_v rfl rfl rfl (ov_move rfl rfl) <| rl_v rfl rfl rfl (ov_neq rfl rfl rfl) <| rl_nil ?_
 first | refine run_cond_dec rfl (fun g1 => ?_) (fun g1n => ?_) | refine run_cond rfl (fun g1 => ?_) (fun g1n => ?_)
 ·refine run_seq <| run_region <| rl_v rfl rfl rfl (ov_move rfl rfl) <| rl_v rfl rfl rfl (ov_assign rfl rfl) <| rl_nil <| run_ret Try.func44 (res1 Try.results44 rfl) ?_
  exact ⟨rfl, (WAt.push hO8 hK hPl).drop⟩
 ·exfalso; exact absurd g1n (by decide)
theorem ov_nilI {P : Program} {N : Nat} {o : Oper} {F : Fr} {w : World} {x : Operand} {t : TypeId} {v : Value} (ho : o.op = .nilCheck x) (hx : Fr.ev F x = some (.iface t v)) : OpV P N o F w (.iface t v) := by
 intro a ha
 unfold execOp
 rw [ho]
 simp [ha.ev hx]
theorem copy_any (A : WA) (X : MW) (i : Int) (B : Nat) (Pl R : List (Option Blk)) (w0 w : World) (hi : 0 ≤ i ∧ i < X.bag.length) (hb : X.bag.length < 4000000000000) (h : WAt B w0 w A X Pl R) :
  Calls Try.prog 45 #[ptr A.W, iv i] w fun e w' => e = .returned (iv (if X.bag.length > 3000 then 6 else 0)) ∧ WAt B w0 w' A (if X.bag.length > 3000 then X else X.send (X.bag.getD i.toNat Ms.z)) Pl R := by
 refine calls_of_run (F := [(0, _), (1, _)]) Try.func45 rfl Try.ntmps45 rfl rfl ?_
 have hO0 := Own.init w
 refine run_seq <| run_region <| rl_v rfl rfl rfl (ov_assign rfl rfl) <| rl_nil <| run_seq <| run_region <| rl_v rfl rfl rfl (ov_move rfl rfl) <| rl_v rfl rfl rfl (ov_move rfl rfl) ?_
 refine rl_call callable_71 rfl rfl rfl rfl rfl rfl (message_any A X i B Pl R w0 w hi (by omega) h) (fun e1 w2 hp3 => ?_)
 obtain ⟨rfl, hW⟩ := hp3
 refine ⟨_, rfl, ?_⟩
 obtain ⟨K, N, hO, hK, hPl⟩ := hW
 obtain ⟨ao, cap, hbv, hcap, gb, hga, hrow⟩ := bagRow hK
 refine rl_v rfl rfl rfl (ov_move rfl rfl) <| rl_v rfl rfl rfl (ov_extract rfl rfl (by rfl)) ?_
 refine rl_v rfl rfl rfl (ov_extract rfl rfl (by rfl)) ?_
 refine rl_ow rfl (ow_alloc _ rfl rfl rfl zero_87 rfl hO) ?_
 rintro _ w4 ⟨b5, rfl, hO5, hs6⟩
 refine rl_ow rfl (ow_storeW rfl rfl (by kernel_rfl) hO5 0 rfl rfl (by rfl) rfl (by rfl)) ?_
 rintro _ w7 ⟨rfl, hO8, hs9⟩
 refine rl_v rfl rfl rfl (ov_assign rfl rfl) <| rl_nil <| run_seq <| run_seq <| run_region <| rl_v rfl rfl rfl (ov_move rfl rfl) <| rl_v rfl rfl rfl (ov_neq rfl rfl rfl) <| rl_nil ?_
 first | refine run_cond_dec rfl (fun g1 => ?_) (fun g1n => ?_) | refine run_cond rfl (fun g1 => ?_) (fun g1n => ?_)
 ·exfalso; exact g1 rfl
 ·refine run_skip <| run_seq <| run_seq <| run_region <| rl_v rfl rfl rfl (ov_move rfl rfl) <| rl_v rfl rfl rfl (ov_nil rfl rfl) <| rl_v rfl rfl rfl (ov_fieldS rfl Try.underlying97 rfl (fo := 8) rfl (by kernel_rfl) rfl) ?_
  refine rl_v rfl rfl rfl (ov_load rfl Try.underlying79 rfl rfl (by exact hO8.cellL 1 rfl (off := 8) (congrArg some hbv))) ?_
  refine rl_v rfl rfl rfl (ov_len rfl Try.underlying79 rfl) <| rl_v rfl rfl rfl (ov_gtr rfl rfl rfl) <| rl_nil ?_
  first | refine run_cond_dec rfl (fun g2 => ?_) (fun g2n => ?_) | refine run_cond rfl (fun g2 => ?_) (fun g2n => ?_)
  ·refine run_seq <| run_region <| rl_v rfl rfl rfl (ov_assign rfl rfl) <| rl_nil <| run_ret Try.func45 (res1 Try.results45 rfl) ?_
   exact ⟨by rw [if_pos (by omega)], by rw [if_pos (by omega)]; exact (WAt.push hO8 hK hPl).drop⟩
  ·refine run_skip <| run_seq <| run_region <| rl_v rfl rfl rfl (ov_move rfl rfl) <| rl_v rfl rfl rfl (ov_loadW rfl Try.underlying87 rfl (by kernel_rfl) rfl hO8 0 rfl) ?_
   refine rl_call callable_73 rfl rfl rfl rfl rfl rfl (send_any A X (X.bag.getD i.toNat Ms.z) B Pl _ w0 w7 (WAt.push hO8 hK hPl) (by omega)) (fun e10 w11 hp12 => ?_)
   obtain ⟨rfl, hW3⟩ := hp12
   refine ⟨_, rfl, ?_⟩
   refine rl_nil <| run_seq <| run_region <| rl_v rfl rfl rfl (ov_assign rfl rfl) <| rl_nil <| run_ret Try.func45 (res1 Try.results45 rfl) ?_
   exact ⟨by rw [if_neg (by omega)], by rw [if_neg (by omega)]; exact hW3.drop⟩
theorem copy_none (A : WA) (X : MW) (i : Int) (B : Nat) (Pl R : List (Option Blk)) (w0 w : World) (hi : ¬ (0 ≤ i ∧ i < X.bag.length)) (hb : X.bag.length ≤ 4000000000000) (h : WAt B w0 w A X Pl R) :
  Calls Try.prog 45 #[ptr A.W, iv i] w fun e w' => e = .returned (iv 4) ∧ WAt B w0 w' A X Pl R := by
 refine calls_of_run (F := [(0, _), (1, _)]) Try.func45 rfl Try.ntmps45 rfl rfl ?_
 have hO0 := Own.init w
 refine run_seq <| run_region <| rl_v rfl rfl rfl (ov_assign rfl rfl) <| rl_nil <| run_seq <| run_region <| rl_v rfl rfl rfl (ov_move rfl rfl) <| rl_v rfl rfl rfl (ov_move rfl rfl) ?_
 refine rl_call callable_71 rfl rfl rfl rfl rfl rfl (message_none A X i B Pl R w0 w hi hb h) (fun e1 w2 hp3 => ?_)
 obtain ⟨rfl, hW⟩ := hp3
 refine ⟨_, rfl, ?_⟩
 obtain ⟨K, N, hO, hK, hPl⟩ := hW
 refine rl_v rfl rfl rfl (ov_move rfl rfl) <| rl_v rfl rfl rfl (ov_extract rfl rfl (by rfl)) ?_
 refine rl_v rfl rfl rfl (ov_extract rfl rfl (by rfl)) ?_
 refine rl_ow rfl (ow_alloc _ rfl rfl rfl zero_87 rfl hO) ?_
 rintro _ w4 ⟨b5, rfl, hO5, hs6⟩
 refine rl_ow rfl (ow_storeW rfl rfl (by kernel_rfl) hO5 0 rfl rfl (by rfl) rfl (by rfl)) ?_
 rintro _ w7 ⟨rfl, hO8, hs9⟩
 refine rl_v rfl rfl rfl (ov_assign rfl rfl) <| rl_nil <| run_seq <| run_seq <| run_region <| rl_v rfl rfl rfl (ov_move rfl rfl) <| rl_v rfl rfl rfl (ov_neq rfl rfl rfl) <| rl_nil ?_
 first | refine run_cond_dec rfl (fun g1 => ?_) (fun g1n => ?_) | refine run_cond rfl (fun g1 => ?_) (fun g1n => ?_)
 ·refine run_seq <| run_region <| rl_v rfl rfl rfl (ov_move rfl rfl) <| rl_v rfl rfl rfl (ov_assign rfl rfl) <| rl_nil <| run_ret Try.func45 (res1 Try.results45 rfl) ?_
  exact ⟨rfl, (WAt.push hO8 hK hPl).drop⟩
 ·exfalso; exact absurd g1n (by decide)
theorem tick_any (A : WA) (X : MW) (n : Int) (B : Nat) (Pl R : List (Option Blk)) (w0 w : World) (hn : n = 0 ∨ n = 1 ∨ n = 2) (hG : Good X) (hb : X.bag.length + 5000 < 4000000000000) (h : WAt B w0 w A X Pl R) :
  Calls Try.prog 31 #[ptr A.W, iv n] w fun e w' => e = .returned (iv (if (X.lg n).down then 80 else 0)) ∧ WAt B w0 w' A (X.tick0 n) Pl R := by
 obtain ⟨K, N, hO, hK, hPl⟩ := h
 obtain ⟨k, t, rv, rest, hk4, hk, hr, hset, hw2⟩ := hK.node A hn
 refine calls_of_run (F := [(0, _), (1, _)]) Try.func31 rfl Try.ntmps31 rfl rfl <| run_seq <| run_region <| rl_v rfl rfl rfl (ov_assign rfl rfl) <| rl_nil <| run_seq <| run_region <| rl_v rfl rfl rfl (ov_move rfl rfl) <| rl_v rfl rfl rfl (ov_move rfl rfl) ?_
 refine rl_call callable_58 rfl rfl rfl rfl rfl rfl (node_any A X K n 0 B _ w0 w hn hO rfl) (fun e1 w2 hp3 => ?_)
 obtain ⟨rfl, hO2⟩ := hp3
 refine ⟨_, rfl, ?_⟩
 refine rl_v rfl rfl rfl (ov_move rfl rfl) <| rl_v rfl rfl rfl (ov_extract rfl rfl (by rfl)) ?_
 refine rl_v rfl rfl rfl (ov_extract rfl rfl (by rfl)) ?_
 refine rl_v rfl rfl rfl (ov_assign rfl rfl) <| rl_v rfl rfl rfl (ov_assign rfl rfl) <| rl_nil <| run_seq <| run_seq <| run_region <| rl_v rfl rfl rfl (ov_move rfl rfl) <| rl_v rfl rfl rfl (ov_neq rfl rfl rfl) <| rl_nil ?_
 first | refine run_cond_dec rfl (fun g1 => ?_) (fun g1n => ?_) | refine run_cond rfl (fun g1 => ?_) (fun g1n => ?_)
 ·exfalso; exact g1 rfl
 ·refine run_skip <| run_seq <| run_seq <| run_region <| rl_v rfl rfl rfl (ov_move rfl rfl) ?_
  refine rl_invoke (cStore n) rfl rfl rfl rfl rfl (mStore n _ _) rfl (storeO n (A.node n) hO2) (fun e4 w5 hp6 => ?_)
  obtain ⟨rfl, hO3⟩ := hp6
  refine ⟨_, rfl, ?_⟩
  refine rl_v rfl rfl rfl (ov_nil rfl rfl) <| rl_v rfl rfl rfl (ov_fieldS rfl Try.underlying102 rfl (fo := 3) rfl (by kernel_rfl) rfl) ?_
  refine rl_v rfl rfl rfl (ov_load rfl Try.underlying4 rfl rfl (by exact hO3.cellL k (hk _) (off := 3) rfl)) ?_
  refine rl_nil ?_
  first | refine run_cond_dec rfl (fun g2 => ?_) (fun g2n => ?_) | refine run_cond rfl (fun g2 => ?_) (fun g2n => ?_)
  ·refine run_seq <| run_region <| rl_v rfl rfl rfl (ov_assign rfl rfl) <| rl_nil <| run_ret Try.func31 (res1 Try.results31 rfl) ?_
   exact ⟨by rw [if_pos g2], by unfold MW.tick0; rw [if_pos g2]; exact ⟨K, N, hO3, hK, hPl⟩⟩
  ·refine run_skip <| run_seq <| run_region <| rl_v rfl rfl rfl (ov_move rfl rfl) <| rl_v rfl rfl rfl (ov_move rfl rfl) <| rl_v rfl rfl rfl (ov_move rfl rfl) <| rl_v rfl rfl rfl (ov_nilI rfl (by rfl)) ?_
   refine rl_v rfl rfl rfl (ov_func rfl rfl rfl) ?_
   refine rl_call callable_59 rfl rfl rfl rfl rfl rfl (run_tick A X (X.tick n) n B Pl R w0 w5 ⟨K, N, hO3, hK, hPl⟩ (fun w box h => tickN_any A X n B Pl _ w0 w hn hG hb h)) (fun e7 w8 hp9 => ?_)
   obtain ⟨rfl, hW⟩ := hp9
   refine ⟨_, rfl, ?_⟩
   refine rl_nil <| run_seq <| run_region <| rl_v rfl rfl rfl (ov_assign rfl rfl) <| rl_nil <| run_ret Try.func31 (res1 Try.results31 rfl) ?_
   exact ⟨by rw [if_neg (by rw [g2n]; exact Bool.noConfusion)], by unfold MW.tick0; rw [if_neg (by rw [g2n]; exact Bool.noConfusion)]; exact hW⟩
theorem relog {A : WA} {X : MW} {K : WC} {n : Int} {k : Nat} {t : TypeId} {rv' : Value} {l' : Lg} {rest : List Value} {B : Nat} {w0 w : World} {N R Pl : List (Option Blk)} (hl : k < (K.M A X ++ (N ++ R)).length)
  (hset : ∀ T rv' l', (K.M A X ++ T).set k (some (lch (A.node n) t (lcells rv' l' rest))) = (K.setR n rv').M A (X.setLg n l') ++ T) (hok : WOk (X.setLg n l') (K.setR n rv') N) (hPl : ∀ x ∈ Pl, x ∈ N)
  (hO : Own B w0 w (some (lch (A.node n) t (lcells rv' l' rest)) :: (K.M A X ++ (N ++ R)).eraseIdx k)) : WAt B w0 w A (X.setLg n l') Pl R := by
 have h := hO.perm (perm_back _ hl)
 rw [hset] at h
 exact ⟨K.setR n rv', N, h, hok, hPl⟩
theorem setLg_rlen {X : MW} {n : Int} {l : Lg} (hn : N3 n) (h0 : (X.lg 0).recs.length ≤ 5000) (h : l.recs.length ≤ 5000) : (X.setLg n l).c.recs.length ≤ 1000000 := by
 have e := lg_setLg (X := X) (l := l) hn (m := 0) (.inl rfl)
 rw [lg0] at e
 rw [e]
 split <;> omega
theorem restart_any (A : WA) (X : MW) (n : Int) (B : Nat) (Pl R : List (Option Blk)) (w0 w : World) (hn : n = 0 ∨ n = 1 ∨ n = 2) (hG : Good X) (h : WAt B w0 w A X Pl R) :
  Calls Try.prog 32 #[ptr A.W, iv n] w fun e w' => e = .returned (iv (if (X.lg n).down then 0 else 5)) ∧ WAt B w0 w' A (X.restart n) Pl R := by
 obtain ⟨K, N, hO, hK, hPl⟩ := h
 obtain ⟨k, t, rv, rest, hk4, hk, hr, hset, hw2⟩ := hK.node A hn
 obtain ⟨ao, cap, hrv, _⟩ := hr.val
 have hlen : k < (K.M A X ++ (N ++ R)).length := (List.getElem?_eq_some_iff.1 (hk (N ++ R))).1
 have hl0 := hG.len (n := 0) (.inl rfl)
 have hln := hG.len hn
 refine calls_of_run (F := [(0, _), (1, _)]) Try.func32 rfl Try.ntmps32 rfl rfl <| run_seq <| run_region <| rl_v rfl rfl rfl (ov_assign rfl rfl) <| rl_nil <| run_seq <| run_region <| rl_v rfl rfl rfl (ov_move rfl rfl) <| rl_v rfl rfl rfl (ov_move rfl rfl) ?_
 refine rl_call callable_58 rfl rfl rfl rfl rfl rfl (node_any A X K n 0 B _ w0 w hn hO rfl) (fun e1 w2 hp3 => ?_)
 obtain ⟨rfl, hO2⟩ := hp3
 refine ⟨_, rfl, ?_⟩
 refine rl_v rfl rfl rfl (ov_move rfl rfl) <| rl_v rfl rfl rfl (ov_extract rfl rfl (by rfl)) ?_
 refine rl_v rfl rfl rfl (ov_extract rfl rfl (by rfl)) ?_
 refine rl_v rfl rfl rfl (ov_assign rfl rfl) <| rl_v rfl rfl rfl (ov_assign rfl rfl) <| rl_nil <| run_seq <| run_seq <| run_region <| rl_v rfl rfl rfl (ov_move rfl rfl) <| rl_v rfl rfl rfl (ov_neq rfl rfl rfl) <| rl_nil ?_
 first | refine run_cond_dec rfl (fun g1 => ?_) (fun g1n => ?_) | refine run_cond rfl (fun g1 => ?_) (fun g1n => ?_)
 ·exfalso; exact g1 rfl
 ·refine run_skip <| run_seq <| run_region <| rl_v rfl rfl rfl (ov_move rfl rfl) ?_
  refine rl_invoke (cStore n) rfl rfl rfl rfl rfl (mStore n _ _) rfl (storeO n (A.node n) hO2) (fun e4 w5 hp6 => ?_)
  obtain ⟨rfl, hO3⟩ := hp6
  refine ⟨_, rfl, ?_⟩
  have hF := hO3.perm (perm_front (hk (N ++ R)))
  refine rl_v rfl rfl rfl (ov_assign rfl rfl) <| rl_nil <| run_seq <| run_seq <| run_region <| rl_v rfl rfl rfl (ov_move rfl rfl) <| rl_v rfl rfl rfl (ov_nil rfl rfl) <| rl_v rfl rfl rfl (ov_fieldS rfl Try.underlying102 rfl (fo := 3) rfl (by kernel_rfl) rfl) ?_
  refine rl_v rfl rfl rfl (ov_load rfl Try.underlying4 rfl rfl (by exact hF.cellL 0 rfl (off := 3) rfl)) ?_
  refine rl_v rfl rfl rfl (ov_not rfl rfl) <| rl_nil ?_
  first | refine run_cond_dec rfl (fun g2 => ?_) (fun g2n => ?_) | refine run_cond rfl (fun g2 => ?_) (fun g2n => ?_)
  ·have hd : (X.lg n).down = false := by simpa using g2
   refine run_seq <| run_region <| rl_v rfl rfl rfl (ov_assign rfl rfl) <| rl_nil <| run_ret Try.func32 (res1 Try.results32 rfl) ?_
   exact ⟨by rw [if_neg (by rw [hd]; exact Bool.noConfusion)], by unfold MW.restart; dsimp only; rw [if_neg (by rw [hd]; exact Bool.noConfusion)]; exact ⟨K, N, hO3, hK, hPl⟩⟩
  ·have hd : (X.lg n).down = true := by simpa using g2n
   refine run_skip <| run_seq <| run_region <| rl_v rfl rfl rfl (ov_move rfl rfl) <| rl_v rfl rfl rfl (ov_move rfl rfl) <| rl_v rfl rfl rfl (ov_move rfl rfl) <| rl_v rfl rfl rfl (ov_move rfl rfl) <| rl_v rfl rfl rfl (ov_nil rfl rfl) <| rl_v rfl rfl rfl (ov_fieldS rfl Try.underlying102 rfl (fo := 0) rfl (by kernel_rfl) rfl) ?_
   refine rl_v rfl rfl rfl (ov_load rfl Try.underlying100 rfl rfl (by exact hF.cellL 0 rfl (off := 0) (congrArg some hrv))) ?_
   refine rl_v rfl rfl rfl (ov_len rfl Try.underlying100 rfl) <| rl_v rfl rfl rfl (ov_nil rfl rfl) <| rl_v rfl rfl rfl (ov_fieldS rfl Try.underlying102 rfl (fo := 3) rfl (by kernel_rfl) rfl) ?_
   refine rl_ow rfl (ow_storeL rfl rfl (by kernel_rfl) hF 0 rfl rfl rfl rfl rfl) ?_
   rintro _ w7 ⟨rfl, hO8, hs9⟩
   refine rl_v rfl rfl rfl (ov_nil rfl rfl) <| rl_v rfl rfl rfl (ov_fieldS rfl Try.underlying102 rfl (fo := 2) rfl (by kernel_rfl) rfl) ?_
   refine rl_ow rfl (ow_storeL rfl rfl (by kernel_rfl) hO8 0 rfl rfl rfl rfl rfl) ?_
   rintro _ w10 ⟨rfl, hO11, hs12⟩
   refine rl_v rfl rfl rfl (ov_nil rfl rfl) <| rl_v rfl rfl rfl (ov_fieldS rfl Try.underlying102 rfl (fo := 1) rfl (by kernel_rfl) rfl) ?_
   refine rl_ow rfl (ow_storeL rfl rfl (by kernel_rfl) hO11 0 rfl rfl rfl rfl rfl) ?_
   rintro _ w13 ⟨rfl, hO14, hs15⟩
   have hW : WAt B w0 w13 A (X.setLg n ⟨(X.lg n).recs, (X.lg n).recs.length, 0, false⟩) Pl R := relog (rv' := rv) hlen hset (hw2 N rv _ (fun _ h => h) hr) hPl hO14
   refine rl_nil <| run_seq <| run_region <| rl_v rfl rfl rfl (ov_move rfl rfl) ?_
   refine rl_invoke (cStart n) rfl rfl rfl rfl rfl (mStart n _ _) rfl (start_any A (X.setLg n ⟨(X.lg n).recs, (X.lg n).recs.length, 0, false⟩) n B Pl R w0 w13 (setLg_rlen hn hl0 hln) hW) (fun e16 w17 hp18 => ?_)
   obtain ⟨rfl, hW2⟩ := hp18
   refine ⟨_, rfl, ?_⟩
   refine rl_nil <| run_seq <| run_region <| rl_v rfl rfl rfl (ov_assign rfl rfl) <| rl_nil <| run_ret Try.func32 (res1 Try.results32 rfl) ?_
   exact ⟨by rw [if_pos hd], by unfold MW.restart; dsimp only; rw [if_pos hd]; exact hW2⟩
theorem fuse_any (A : WA) (X : MW) (n v : Int) (B : Nat) (Pl R : List (Option Blk)) (w0 w : World) (hn : n = 0 ∨ n = 1 ∨ n = 2) (h : WAt B w0 w A X Pl R) :
  Calls Try.prog 42 #[ptr A.W, iv n, iv v] w fun e w' => e = .returned (iv (if v < 0 then 1 else 0)) ∧ WAt B w0 w' A (if v < 0 then X else X.unfuse n (max v 1)) Pl R := by
 obtain ⟨K, N, hO, hK, hPl⟩ := h
 obtain ⟨k, t, rv, rest, hk4, hk, hr, hset, hw2⟩ := hK.node A hn
 have hlen : k < (K.M A X ++ (N ++ R)).length := (List.getElem?_eq_some_iff.1 (hk (N ++ R))).1
 refine calls_of_run (F := [(0, _), (1, _), (2, _)]) Try.func42 rfl Try.ntmps42 rfl rfl <| run_seq <| run_region <| rl_v rfl rfl rfl (ov_assign rfl rfl) <| rl_nil <| run_seq <| run_region <| rl_v rfl rfl rfl (ov_move rfl rfl) <| rl_v rfl rfl rfl (ov_move rfl rfl) ?_
 refine rl_call callable_58 rfl rfl rfl rfl rfl rfl (node_any A X K n 0 B _ w0 w hn hO rfl) (fun e1 w2 hp3 => ?_)
 obtain ⟨rfl, hO2⟩ := hp3
 refine ⟨_, rfl, ?_⟩
 refine rl_v rfl rfl rfl (ov_move rfl rfl) <| rl_v rfl rfl rfl (ov_extract rfl rfl (by rfl)) ?_
 refine rl_v rfl rfl rfl (ov_extract rfl rfl (by rfl)) ?_
 refine rl_v rfl rfl rfl (ov_assign rfl rfl) <| rl_v rfl rfl rfl (ov_assign rfl rfl) <| rl_nil <| run_seq <| run_seq <| run_region <| rl_v rfl rfl rfl (ov_move rfl rfl) <| rl_v rfl rfl rfl (ov_neq rfl rfl rfl) <| rl_nil ?_
 first | refine run_cond_dec rfl (fun g1 => ?_) (fun g1n => ?_) | refine run_cond rfl (fun g1 => ?_) (fun g1n => ?_)
 ·exfalso; exact g1 rfl
 ·refine run_skip <| run_seq <| run_seq <| run_region <| rl_v rfl rfl rfl (ov_move rfl rfl) <| rl_v rfl rfl rfl (ov_lss rfl rfl rfl) <| rl_nil ?_
  first | refine run_cond_dec rfl (fun g2 => ?_) (fun g2n => ?_) | refine run_cond rfl (fun g2 => ?_) (fun g2n => ?_)
  ·refine run_seq <| run_region <| rl_v rfl rfl rfl (ov_assign rfl rfl) <| rl_nil <| run_ret Try.func42 (res1 Try.results42 rfl) ?_
   exact ⟨by rw [if_pos g2], by rw [if_pos g2]; exact ⟨K, N, hO2, hK, hPl⟩⟩
  ·refine run_skip <| run_seq <| run_region <| rl_v rfl rfl rfl (ov_move rfl rfl) ?_
   refine rl_invoke (cStore n) rfl rfl rfl rfl rfl (mStore n _ _) rfl (storeO n (A.node n) hO2) (fun e4 w5 hp6 => ?_)
   obtain ⟨rfl, hO3⟩ := hp6
   refine ⟨_, rfl, ?_⟩
   have hF := hO3.perm (perm_front (hk (N ++ R)))
   refine rl_v rfl rfl rfl (ov_move rfl rfl) <| rl_v rfl rfl rfl (ov_max rfl rfl rfl) <| rl_v rfl rfl rfl (ov_nil rfl rfl) <| rl_v rfl rfl rfl (ov_fieldS rfl Try.underlying102 rfl (fo := 2) rfl (by kernel_rfl) rfl) ?_
   refine rl_ow rfl (ow_storeL rfl rfl (by kernel_rfl) hF 0 rfl rfl rfl rfl rfl) ?_
   rintro _ w7 ⟨rfl, hO8, hs9⟩
   refine rl_nil <| run_seq <| run_region <| rl_v rfl rfl rfl (ov_assign rfl rfl) <| rl_nil <| run_ret Try.func42 (res1 Try.results42 rfl) ?_
   exact ⟨by rw [if_neg g2n], by rw [if_neg g2n]; exact relog (rv' := rv) hlen hset (hw2 N rv { X.lg n with fuse := max v 1 } (fun _ h => h) hr) hPl hO8⟩
theorem crash_any (A : WA) (X : MW) (n v : Int) (B : Nat) (Pl R : List (Option Blk)) (w0 w : World) (hn : n = 0 ∨ n = 1 ∨ n = 2) (hv : v ≤ 9223372036854775807) (hG : Good X) (h : WAt B w0 w A X Pl R) :
  Calls Try.prog 29 #[ptr A.W, iv n, iv v] w fun e w' => (v < 0 ∧ e = .returned (iv 1) ∧ WAt B w0 w' A X Pl R) ∨ (0 ≤ v ∧ ((X.lg n).down = true ∧ (X.lg n).safe = (X.lg n).recs.length) ∧ e = .returned (iv 80) ∧ WAt B w0 w' A X Pl R) ∨
   (0 ≤ v ∧ ¬ ((X.lg n).down = true ∧ (X.lg n).safe = (X.lg n).recs.length) ∧ e = .returned (iv 0) ∧ WAt B w0 w' A (X.crash n v) Pl R) := by
 obtain ⟨K, N, hO, hK, hPl⟩ := h
 obtain ⟨k, t, rv, rest, hk4, hk, hr, hset, hw2⟩ := hK.node A hn
 obtain ⟨ao, cap, hrv, _⟩ := hr.val
 have hlen : k < (K.M A X ++ (N ++ R)).length := (List.getElem?_eq_some_iff.1 (hk (N ++ R))).1
 have hl0 := hG.len (n := 0) (.inl rfl)
 have hln := hG.len hn
 have hsf := hG.sf n hn
 refine calls_of_run (F := [(0, _), (1, _), (2, _)]) Try.func29 rfl Try.ntmps29 rfl rfl <| run_seq <| run_region <| rl_v rfl rfl rfl (ov_assign rfl rfl) <| rl_nil <| run_seq <| run_region <| rl_v rfl rfl rfl (ov_move rfl rfl) <| rl_v rfl rfl rfl (ov_move rfl rfl) ?_
 refine rl_call callable_58 rfl rfl rfl rfl rfl rfl (node_any A X K n 0 B _ w0 w hn hO rfl) (fun e1 w2 hp3 => ?_)
 obtain ⟨rfl, hO2⟩ := hp3
 refine ⟨_, rfl, ?_⟩
 refine rl_v rfl rfl rfl (ov_move rfl rfl) <| rl_v rfl rfl rfl (ov_extract rfl rfl (by rfl)) ?_
 refine rl_v rfl rfl rfl (ov_extract rfl rfl (by rfl)) ?_
 refine rl_v rfl rfl rfl (ov_assign rfl rfl) <| rl_v rfl rfl rfl (ov_assign rfl rfl) <| rl_nil <| run_seq <| run_seq <| run_region <| rl_v rfl rfl rfl (ov_move rfl rfl) <| rl_v rfl rfl rfl (ov_neq rfl rfl rfl) <| rl_nil ?_
 first | refine run_cond_dec rfl (fun g1 => ?_) (fun g1n => ?_) | refine run_cond rfl (fun g1 => ?_) (fun g1n => ?_)
 ·exfalso; exact g1 rfl
 ·refine run_skip <| run_seq <| run_seq <| run_region <| rl_v rfl rfl rfl (ov_move rfl rfl) <| rl_v rfl rfl rfl (ov_lss rfl rfl rfl) <| rl_nil ?_
  first | refine run_cond_dec rfl (fun g2 => ?_) (fun g2n => ?_) | refine run_cond rfl (fun g2 => ?_) (fun g2n => ?_)
  ·refine run_seq <| run_region <| rl_v rfl rfl rfl (ov_assign rfl rfl) <| rl_nil <| run_ret Try.func29 (res1 Try.results29 rfl) ?_
   exact .inl ⟨g2, rfl, K, N, hO2, hK, hPl⟩
  ·refine run_skip <| run_seq <| run_region <| rl_v rfl rfl rfl (ov_move rfl rfl) ?_
   refine rl_invoke (cStore n) rfl rfl rfl rfl rfl (mStore n _ _) rfl (storeO n (A.node n) hO2) (fun e4 w5 hp6 => ?_)
   obtain ⟨rfl, hO3⟩ := hp6
   refine ⟨_, rfl, ?_⟩
   have hF := hO3.perm (perm_front (hk (N ++ R)))
   refine rl_v rfl rfl rfl (ov_assign rfl rfl) <| rl_nil <| run_seq <| run_seq <| run_quiet mixed (by kernel_rfl) ?_
   refine rq_v rfl rfl rfl (fun _ => ov_move rfl rfl) ?_
   refine rq_v rfl rfl rfl (fun _ => ov_nil rfl rfl) ?_
   refine rq_v rfl rfl rfl (fun _ => ov_fieldS rfl Try.underlying102 rfl (fo := 3) rfl (by kernel_rfl) rfl) ?_
   refine rq_v rfl rfl rfl (fun _ => ov_load rfl Try.underlying4 rfl rfl (by show World.cell? w5 _ = _; first | exact hF.cellL 0 rfl (off := 3) rfl)) ?_
   refine rq_v rfl rfl rfl (fun _ => ov_move rfl rfl) ?_
   first | refine rq_split_dec 27 rfl (fun g3 => ?_) (fun g3 => ?_) | refine rq_split 27 rfl (fun g3 => ?_) (fun g3 => ?_)
   ·refine rq_gv rfl rfl rfl rfl rfl (fun _ => ov_move rfl rfl) ?_
    refine rq_gv rfl rfl rfl rfl rfl (fun _ => ov_nil rfl rfl) ?_
    refine rq_gv rfl rfl rfl rfl rfl (fun _ => ov_fieldS rfl Try.underlying102 rfl (fo := 1) rfl (by kernel_rfl) rfl) ?_
    refine rq_gv rfl rfl rfl rfl rfl (fun _ => ov_load rfl Try.underlying3 rfl rfl (by show World.cell? w5 _ = _; first | exact hF.cellL 0 rfl (off := 1) rfl)) ?_
    refine rq_gv rfl rfl rfl rfl rfl (fun _ => ov_move rfl rfl) ?_
    refine rq_gv rfl rfl rfl rfl rfl (fun _ => ov_nil rfl rfl) ?_
    refine rq_gv rfl rfl rfl rfl rfl (fun _ => ov_fieldS rfl Try.underlying102 rfl (fo := 0) rfl (by kernel_rfl) rfl) ?_
    refine rq_gv rfl rfl rfl rfl rfl (fun _ => ov_load rfl Try.underlying100 rfl rfl (by show World.cell? w5 _ = _; first | exact hF.cellL 0 rfl (off := 0) (congrArg some hrv))) ?_
    refine rq_gv rfl rfl rfl rfl rfl (fun _ => ov_len rfl Try.underlying100 rfl) ?_
    refine rq_gv rfl rfl rfl rfl rfl (fun _ => ov_eql rfl rfl rfl) ?_
    refine rq_v rfl rfl rfl (fun _ => ov_pick_t rfl rfl rfl) ?_
    refine rq_nil (fun n8 => ?_)
    have hO10 := hF.drewN n8
    generalize World.drewN w5 n8 = w9 at hO10 ⊢
    first | refine run_cond_dec rfl (fun g4 => ?_) (fun g4n => ?_) | refine run_cond rfl (fun g4 => ?_) (fun g4n => ?_)
    ·refine run_seq <| run_region <| rl_v rfl rfl rfl (ov_assign rfl rfl) <| rl_nil <| run_ret Try.func29 (res1 Try.results29 rfl) ?_
     exact .inr (.inl ⟨by omega, ⟨g3, by omega⟩, rfl, K, N, hO10.perm (perm_front (hk (N ++ R))).symm, hK, hPl⟩)
    ·have hmn : 0 ≤ min v (((X.lg n).recs.length : Int) - (X.lg n).safe) ∧ min v (((X.lg n).recs.length : Int) - (X.lg n).safe) ≤ ((X.lg n).recs.length : Int) - (X.lg n).safe := ⟨by omega, by omega⟩
     generalize hsv : ((X.lg n).safe + min v (((X.lg n).recs.length : Int) - (X.lg n).safe)).toNat = sv at *
     have hsv2 : ((X.lg n).safe : Int) + min v (((X.lg n).recs.length : Int) - (X.lg n).safe) = sv := by omega
     refine run_skip <| run_seq <| run_tail 19 mixed (by kernel_rfl) ?_
     have hO12 := hO10.drew
     generalize World.drew w9 = w11 at hO12 ⊢
     refine rt_v rfl rfl rfl (ov_move rfl rfl) <| rt_v rfl rfl rfl (ov_nil rfl rfl) <| rt_v rfl rfl rfl (ov_fieldS rfl Try.underlying102 rfl (fo := 1) rfl (by kernel_rfl) rfl) ?_
     refine rt_v rfl rfl rfl (ov_load rfl Try.underlying3 rfl rfl (by exact hO12.cellL 0 rfl (off := 1) rfl)) ?_
     refine rt_v rfl rfl rfl (ov_move rfl rfl) <| rt_v rfl rfl rfl (ov_move rfl rfl) <| rt_v rfl rfl rfl (ov_nil rfl rfl) <| rt_v rfl rfl rfl (ov_fieldS rfl Try.underlying102 rfl (fo := 0) rfl (by kernel_rfl) rfl) ?_
     refine rt_v rfl rfl rfl (ov_load rfl Try.underlying100 rfl rfl (by exact hO12.cellL 0 rfl (off := 0) (congrArg some hrv))) ?_
     refine rt_v rfl rfl rfl (ov_len rfl Try.underlying100 rfl) <| rt_v rfl rfl rfl (ov_move rfl rfl) <| rt_v rfl rfl rfl (ov_nil rfl rfl) <| rt_v rfl rfl rfl (ov_fieldS rfl Try.underlying102 rfl (fo := 1) rfl (by kernel_rfl) rfl) ?_
     refine rt_v rfl rfl rfl (ov_load rfl Try.underlying3 rfl rfl (by exact hO12.cellL 0 rfl (off := 1) rfl)) ?_
     refine rt_v rfl rfl rfl (ov_sub rfl rfl rfl (by omega)) ?_
     refine rt_v rfl rfl rfl (ov_min rfl rfl rfl) <| rt_v rfl rfl rfl (ov_add rfl rfl rfl (by omega)) ?_
     refine rt_v rfl rfl rfl (ov_nil rfl rfl) <| rt_v rfl rfl rfl (ov_fieldS rfl Try.underlying102 rfl (fo := 1) rfl (by kernel_rfl) rfl) ?_
     refine rt_nil <| rl_ow rfl (ow_storeL rfl rfl (by kernel_rfl) hO12 0 rfl rfl rfl rfl rfl) ?_
     rintro _ w13 ⟨rfl, hO14, hs15⟩
     refine rl_nil <| run_seq <| run_tail 16 mixed (by kernel_rfl) ?_
     have hO17 := hO14.drew
     generalize World.drew w13 = w16 at hO17 ⊢
     refine rt_v rfl rfl rfl (ov_move rfl rfl) <| rt_v rfl rfl rfl (ov_move rfl rfl) <| rt_v rfl rfl rfl (ov_nil rfl rfl) <| rt_v rfl rfl rfl (ov_fieldS rfl Try.underlying102 rfl (fo := 0) rfl (by kernel_rfl) rfl) ?_
     refine rt_v rfl rfl rfl (ov_load rfl Try.underlying100 rfl rfl (by exact hO17.cellL 0 rfl (off := 0) (congrArg some hrv))) ?_
     refine rt_v rfl rfl rfl (ov_move rfl rfl) <| rt_v rfl rfl rfl (ov_nil rfl rfl) <| rt_v rfl rfl rfl (ov_fieldS rfl Try.underlying102 rfl (fo := 1) rfl (by kernel_rfl) rfl) ?_
     refine rt_v rfl rfl rfl (ov_load rfl Try.underlying3 rfl rfl (by exact hO17.cellL 0 rfl (off := 1) rfl)) ?_
     refine rt_v rfl rfl rfl (ov_move rfl rfl) <| rt_v rfl rfl rfl (ov_nil rfl rfl) <| rt_v rfl rfl rfl (ov_fieldS rfl Try.underlying102 rfl (fo := 1) rfl (by kernel_rfl) rfl) ?_
     refine rt_v rfl rfl rfl (ov_load rfl Try.underlying3 rfl rfl (by exact hO17.cellL 0 rfl (off := 1) rfl)) ?_
     refine rt_v rfl rfl rfl (ov_slice3 sv rfl Try.underlying100 (by kernel_rfl) (s := 2) rfl rfl rfl hsv2 hsv2 (by omega)) ?_
     refine rt_v rfl rfl rfl (ov_nil rfl rfl) <| rt_v rfl rfl rfl (ov_fieldS rfl Try.underlying102 rfl (fo := 0) rfl (by kernel_rfl) rfl) ?_
     refine rt_nil <| rl_ow rfl (ow_storeL rfl rfl (by kernel_rfl) hO17 0 rfl rfl rfl rfl rfl) ?_
     rintro _ w18 ⟨rfl, hO19, hs20⟩
     refine rl_nil <| run_seq <| run_region <| rl_v rfl rfl rfl (ov_move rfl rfl) <| rl_v rfl rfl rfl (ov_move rfl rfl) <| rl_v rfl rfl rfl (ov_nil rfl rfl) <| rl_v rfl rfl rfl (ov_fieldS rfl Try.underlying102 rfl (fo := 3) rfl (by kernel_rfl) rfl) ?_
     refine rl_ow rfl (ow_storeL rfl rfl (by kernel_rfl) hO19 0 rfl rfl rfl rfl rfl) ?_
     rintro _ w21 ⟨rfl, hO22, hs23⟩
     refine rl_v rfl rfl rfl (ov_nil rfl rfl) <| rl_v rfl rfl rfl (ov_fieldS rfl Try.underlying102 rfl (fo := 2) rfl (by kernel_rfl) rfl) ?_
     refine rl_ow rfl (ow_storeL rfl rfl (by kernel_rfl) hO22 0 rfl rfl rfl rfl rfl) ?_
     rintro _ w24 ⟨rfl, hO25, hs26⟩
     have hW : WAt B w0 w24 A (X.setLg n ⟨(X.lg n).recs.take sv, sv, 0, true⟩) Pl R := by
      refine relog (rv' := .slice ao sv sv) hlen hset (hw2 N _ _ (fun _ h => h) ?_) hPl ?_
      ·rw [hrv] at hr
       have hl : ((X.lg n).recs.take sv).length = sv := by simp; omega
       show PRow N _ 2 ((X.lg n).recs.take sv).length _
       rw [hl]
       refine (hr.take (m := sv) (by omega) (Nat.le_refl _)).congr fun i h0 h1 => ?_
       unfold cnt
       congr 1
       simp [List.getD_eq_getElem?_getD, List.getElem?_take, show i.toNat < sv by omega]
      ·have hOx := hO25
       simp only [List.set_cons_zero, List.set_cons_succ, hsv2] at hOx
       exact hOx
     refine rl_nil <| run_seq <| run_region <| rl_v rfl rfl rfl (ov_move rfl rfl) ?_
     refine rl_invoke (cStart n) rfl rfl rfl rfl rfl (mStart n _ _) rfl (start_any A (X.setLg n ⟨(X.lg n).recs.take sv, sv, 0, true⟩) n B Pl R w0 w24 (setLg_rlen hn hl0 (by simp; omega)) hW) (fun e27 w28 hp29 => ?_)
     obtain ⟨rfl, hW2⟩ := hp29
     refine ⟨_, rfl, ?_⟩
     refine rl_nil <| run_seq <| run_region <| rl_v rfl rfl rfl (ov_assign rfl rfl) <| rl_nil <| run_ret Try.func29 (res1 Try.results29 rfl) ?_
     exact .inr (.inr ⟨by omega, fun h => g4n (by rw [h.2]), rfl, by unfold MW.crash; dsimp only; rw [hsv]; exact hW2⟩)
   ·have g3n : ¬ (X.lg n).down = true := by rw [g3]; exact Bool.noConfusion
    refine rq_gskip rfl rfl rfl rfl rfl rfl <| rq_gskip rfl rfl rfl rfl rfl rfl <| rq_gskip rfl rfl rfl rfl rfl rfl <| rq_gskip rfl rfl rfl rfl rfl rfl <| rq_gskip rfl rfl rfl rfl rfl rfl <| rq_gskip rfl rfl rfl rfl rfl rfl <| rq_gskip rfl rfl rfl rfl rfl rfl <| rq_gskip rfl rfl rfl rfl rfl rfl <| rq_gskip rfl rfl rfl rfl rfl rfl <| rq_gskip rfl rfl rfl rfl rfl rfl <| rq_v rfl rfl rfl (fun _ => ov_pick_f rfl rfl rfl) ?_
    refine rq_nil (fun n30 => ?_)
    have hO32 := hF.drewN n30
    generalize World.drewN w5 n30 = w31 at hO32 ⊢
    refine run_cond_f rfl ?_
    have hmn : 0 ≤ min v (((X.lg n).recs.length : Int) - (X.lg n).safe) ∧ min v (((X.lg n).recs.length : Int) - (X.lg n).safe) ≤ ((X.lg n).recs.length : Int) - (X.lg n).safe := ⟨by omega, by omega⟩
    generalize hsv : ((X.lg n).safe + min v (((X.lg n).recs.length : Int) - (X.lg n).safe)).toNat = sv at *
    have hsv2 : ((X.lg n).safe : Int) + min v (((X.lg n).recs.length : Int) - (X.lg n).safe) = sv := by omega
    refine run_skip <| run_seq <| run_tail 19 mixed (by kernel_rfl) ?_
    have hO34 := hO32.drew
    generalize World.drew w31 = w33 at hO34 ⊢
    refine rt_v rfl rfl rfl (ov_move rfl rfl) <| rt_v rfl rfl rfl (ov_nil rfl rfl) <| rt_v rfl rfl rfl (ov_fieldS rfl Try.underlying102 rfl (fo := 1) rfl (by kernel_rfl) rfl) ?_
    refine rt_v rfl rfl rfl (ov_load rfl Try.underlying3 rfl rfl (by exact hO34.cellL 0 rfl (off := 1) rfl)) ?_
    refine rt_v rfl rfl rfl (ov_move rfl rfl) <| rt_v rfl rfl rfl (ov_move rfl rfl) <| rt_v rfl rfl rfl (ov_nil rfl rfl) <| rt_v rfl rfl rfl (ov_fieldS rfl Try.underlying102 rfl (fo := 0) rfl (by kernel_rfl) rfl) ?_
    refine rt_v rfl rfl rfl (ov_load rfl Try.underlying100 rfl rfl (by exact hO34.cellL 0 rfl (off := 0) (congrArg some hrv))) ?_
    refine rt_v rfl rfl rfl (ov_len rfl Try.underlying100 rfl) <| rt_v rfl rfl rfl (ov_move rfl rfl) <| rt_v rfl rfl rfl (ov_nil rfl rfl) <| rt_v rfl rfl rfl (ov_fieldS rfl Try.underlying102 rfl (fo := 1) rfl (by kernel_rfl) rfl) ?_
    refine rt_v rfl rfl rfl (ov_load rfl Try.underlying3 rfl rfl (by exact hO34.cellL 0 rfl (off := 1) rfl)) ?_
    refine rt_v rfl rfl rfl (ov_sub rfl rfl rfl (by omega)) ?_
    refine rt_v rfl rfl rfl (ov_min rfl rfl rfl) <| rt_v rfl rfl rfl (ov_add rfl rfl rfl (by omega)) ?_
    refine rt_v rfl rfl rfl (ov_nil rfl rfl) <| rt_v rfl rfl rfl (ov_fieldS rfl Try.underlying102 rfl (fo := 1) rfl (by kernel_rfl) rfl) ?_
    refine rt_nil <| rl_ow rfl (ow_storeL rfl rfl (by kernel_rfl) hO34 0 rfl rfl rfl rfl rfl) ?_
    rintro _ w35 ⟨rfl, hO36, hs37⟩
    refine rl_nil <| run_seq <| run_tail 16 mixed (by kernel_rfl) ?_
    have hO39 := hO36.drew
    generalize World.drew w35 = w38 at hO39 ⊢
    refine rt_v rfl rfl rfl (ov_move rfl rfl) <| rt_v rfl rfl rfl (ov_move rfl rfl) <| rt_v rfl rfl rfl (ov_nil rfl rfl) <| rt_v rfl rfl rfl (ov_fieldS rfl Try.underlying102 rfl (fo := 0) rfl (by kernel_rfl) rfl) ?_
    refine rt_v rfl rfl rfl (ov_load rfl Try.underlying100 rfl rfl (by exact hO39.cellL 0 rfl (off := 0) (congrArg some hrv))) ?_
    refine rt_v rfl rfl rfl (ov_move rfl rfl) <| rt_v rfl rfl rfl (ov_nil rfl rfl) <| rt_v rfl rfl rfl (ov_fieldS rfl Try.underlying102 rfl (fo := 1) rfl (by kernel_rfl) rfl) ?_
    refine rt_v rfl rfl rfl (ov_load rfl Try.underlying3 rfl rfl (by exact hO39.cellL 0 rfl (off := 1) rfl)) ?_
    refine rt_v rfl rfl rfl (ov_move rfl rfl) <| rt_v rfl rfl rfl (ov_nil rfl rfl) <| rt_v rfl rfl rfl (ov_fieldS rfl Try.underlying102 rfl (fo := 1) rfl (by kernel_rfl) rfl) ?_
    refine rt_v rfl rfl rfl (ov_load rfl Try.underlying3 rfl rfl (by exact hO39.cellL 0 rfl (off := 1) rfl)) ?_
    refine rt_v rfl rfl rfl (ov_slice3 sv rfl Try.underlying100 (by kernel_rfl) (s := 2) rfl rfl rfl hsv2 hsv2 (by omega)) ?_
    refine rt_v rfl rfl rfl (ov_nil rfl rfl) <| rt_v rfl rfl rfl (ov_fieldS rfl Try.underlying102 rfl (fo := 0) rfl (by kernel_rfl) rfl) ?_
    refine rt_nil <| rl_ow rfl (ow_storeL rfl rfl (by kernel_rfl) hO39 0 rfl rfl rfl rfl rfl) ?_
    rintro _ w40 ⟨rfl, hO41, hs42⟩
    refine rl_nil <| run_seq <| run_region <| rl_v rfl rfl rfl (ov_move rfl rfl) <| rl_v rfl rfl rfl (ov_move rfl rfl) <| rl_v rfl rfl rfl (ov_nil rfl rfl) <| rl_v rfl rfl rfl (ov_fieldS rfl Try.underlying102 rfl (fo := 3) rfl (by kernel_rfl) rfl) ?_
    refine rl_ow rfl (ow_storeL rfl rfl (by kernel_rfl) hO41 0 rfl rfl rfl rfl rfl) ?_
    rintro _ w43 ⟨rfl, hO44, hs45⟩
    refine rl_v rfl rfl rfl (ov_nil rfl rfl) <| rl_v rfl rfl rfl (ov_fieldS rfl Try.underlying102 rfl (fo := 2) rfl (by kernel_rfl) rfl) ?_
    refine rl_ow rfl (ow_storeL rfl rfl (by kernel_rfl) hO44 0 rfl rfl rfl rfl rfl) ?_
    rintro _ w46 ⟨rfl, hO47, hs48⟩
    have hW : WAt B w0 w46 A (X.setLg n ⟨(X.lg n).recs.take sv, sv, 0, true⟩) Pl R := by
     refine relog (rv' := .slice ao sv sv) hlen hset (hw2 N _ _ (fun _ h => h) ?_) hPl ?_
     ·rw [hrv] at hr
      have hl : ((X.lg n).recs.take sv).length = sv := by simp; omega
      show PRow N _ 2 ((X.lg n).recs.take sv).length _
      rw [hl]
      refine (hr.take (m := sv) (by omega) (Nat.le_refl _)).congr fun i h0 h1 => ?_
      unfold cnt
      congr 1
      simp [List.getD_eq_getElem?_getD, List.getElem?_take, show i.toNat < sv by omega]
     ·have hOx := hO47
      simp only [List.set_cons_zero, List.set_cons_succ, hsv2] at hOx
      exact hOx
    refine rl_nil <| run_seq <| run_region <| rl_v rfl rfl rfl (ov_move rfl rfl) ?_
    refine rl_invoke (cStart n) rfl rfl rfl rfl rfl (mStart n _ _) rfl (start_any A (X.setLg n ⟨(X.lg n).recs.take sv, sv, 0, true⟩) n B Pl R w0 w46 (setLg_rlen hn hl0 (by simp; omega)) hW) (fun e49 w50 hp51 => ?_)
    obtain ⟨rfl, hW2⟩ := hp51
    refine ⟨_, rfl, ?_⟩
    refine rl_nil <| run_seq <| run_region <| rl_v rfl rfl rfl (ov_assign rfl rfl) <| rl_nil <| run_ret Try.func29 (res1 Try.results29 rfl) ?_
    exact .inr (.inr ⟨by omega, fun h => g3n h.1, rfl, by unfold MW.crash; dsimp only; rw [hsv]; exact hW2⟩)
end Go.Proofs.Yteagflekbbchhaa
