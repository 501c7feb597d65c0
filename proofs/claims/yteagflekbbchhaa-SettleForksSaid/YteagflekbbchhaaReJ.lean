import Derived.Test.YteagflekbbchhaaReI
import Derived.Test.YteagflekbbchhaaSfO
import Derived.Test.YteagflekbbchhaaQui
set_option maxRecDepth 100000
namespace Go.Proofs.Yteagflekbbchhaa
open Go.RowKit Go.Proofs
theorem WAt.fr {B : Nat} {w0 w : World} {A : WA} {X : MW} {Pl R : List (Option Blk)} (h : WAt B w0 w A X Pl R) : ∃ K N, Own B w0 w (R ++ (K.M A X ++ N)) ∧ WOk X K N ∧ ∀ y ∈ Pl, y ∈ N := by
 obtain ⟨K, N, hO, hK, hPl⟩ := h
 refine ⟨K, N, hO.perm ?_, hK, hPl⟩
 rw [← List.append_assoc]
 exact List.perm_append_comm
theorem WAt.unfr {B : Nat} {w0 w : World} {A : WA} {X : MW} {K : WC} {N R Pl : List (Option Blk)} (hO : Own B w0 w (R ++ (K.M A X ++ N))) (hK : WOk X K N) (hPl : ∀ y ∈ Pl, y ∈ N) : WAt B w0 w A X Pl R :=
 ⟨K, N, hO.perm (List.perm_append_comm.trans (List.Perm.of_eq (List.append_assoc _ _ _))), hK, hPl⟩
theorem memL {N R T : List (Option Blk)} (h : ∀ x ∈ N, x ∈ R) : ∀ x ∈ N, x ∈ R ++ T := fun x hx => List.mem_append_left _ (h x hx)
theorem deliverC (A : WA) (X : MW) (n : Int) (B : Nat) (Pl R : List (Option Blk)) (w0 w : World) (hG : Good X) (hb : X.bag.length + 5000 < 4000000000000) (h : WAt B w0 w A X Pl R) :
  Calls Try.prog 43 #[ptr A.W, iv n] w fun e w' => e = .returned (iv (if 0 ≤ n ∧ n < X.bag.length then 0 else 4)) ∧ WAt B w0 w' A (if 0 ≤ n ∧ n < X.bag.length then X.deliver n.toNat else X) Pl R := by
 by_cases hi : 0 ≤ n ∧ n < X.bag.length
 ·rw [if_pos hi, if_pos hi]; exact deliver_any A X n B Pl R w0 w hi hG hb h
 ·rw [if_neg hi, if_neg hi]; exact deliver_none A X n B Pl R w0 w hi (by omega) h
theorem loseC (A : WA) (X : MW) (n : Int) (B : Nat) (Pl R : List (Option Blk)) (w0 w : World) (hb : X.bag.length + 5000 < 4000000000000) (h : WAt B w0 w A X Pl R) :
  Calls Try.prog 44 #[ptr A.W, iv n] w fun e w' => e = .returned (iv (if 0 ≤ n ∧ n < X.bag.length then 0 else 4)) ∧ WAt B w0 w' A (if 0 ≤ n ∧ n < X.bag.length then X.dropAt n.toNat else X) Pl R := by
 by_cases hi : 0 ≤ n ∧ n < X.bag.length
 ·rw [if_pos hi, if_pos hi]; exact lose_any A X n B Pl R w0 w hi (by omega) h
 ·rw [if_neg hi, if_neg hi]; exact lose_none A X n B Pl R w0 w hi (by omega) h
theorem copyC (A : WA) (X : MW) (n : Int) (B : Nat) (Pl R : List (Option Blk)) (w0 w : World) (hb : X.bag.length + 5000 < 4000000000000) (h : WAt B w0 w A X Pl R) :
  Calls Try.prog 45 #[ptr A.W, iv n] w fun e w' => e = .returned (iv (if 0 ≤ n ∧ n < X.bag.length then if X.bag.length ≤ 3000 then 0 else 6 else 4)) ∧ WAt B w0 w' A (if 0 ≤ n ∧ n < X.bag.length ∧ X.bag.length ≤ 3000 then X.send (X.bag.getD n.toNat Ms.z) else X) Pl R := by
 by_cases hi : 0 ≤ n ∧ n < X.bag.length
 ·rw [if_pos hi]
  refine (copy_any A X n B Pl R w0 w hi (by omega) h).mono fun _ _ h => ?_
  by_cases h3 : X.bag.length ≤ 3000
  ·rw [if_pos h3, if_pos (⟨hi.1, hi.2, h3⟩ : 0 ≤ n ∧ n < (X.bag.length : Int) ∧ X.bag.length ≤ 3000)]
   have := h
   rwa [if_neg (by omega), if_neg (by omega)] at this
  ·rw [if_neg h3, if_neg (fun h => h3 h.2.2 : ¬ (0 ≤ n ∧ n < (X.bag.length : Int) ∧ X.bag.length ≤ 3000))]
   have := h
   rwa [if_pos (by omega), if_pos (by omega)] at this
 ·rw [if_neg hi, if_neg fun h => hi ⟨h.1, h.2.1⟩]
  exact copy_none A X n B Pl R w0 w hi (by omega) h
theorem tickC (A : WA) (X : MW) (n : Int) (B : Nat) (Pl R : List (Option Blk)) (w0 w : World) (hG : Good X) (hb : X.bag.length + 5000 < 4000000000000) (h : WAt B w0 w A X Pl R) :
  Calls Try.prog 31 #[ptr A.W, iv n] w fun e w' => e = .returned (iv (if N3 n then if (X.lg n).down then 80 else 0 else 4)) ∧ WAt B w0 w' A (if N3 n then X.tick0 n else X) Pl R := by
 by_cases hi : N3 n
 ·rw [if_pos hi, if_pos hi]; exact tick_any A X n B Pl R w0 w hi hG hb h
 ·rw [if_neg hi, if_neg hi]; exact tick_none A X n B Pl R w0 w hi h
theorem crashC (A : WA) (X : MW) (n v : Int) (B : Nat) (Pl R : List (Option Blk)) (w0 w : World) (hv : v ≤ 9223372036854775807) (hG : Good X) (h : WAt B w0 w A X Pl R) :
  Calls Try.prog 29 #[ptr A.W, iv n, iv v] w fun e w' => e = .returned (iv (if N3 n then if v < 0 then 1 else if (X.lg n).down = true ∧ (X.lg n).safe = (X.lg n).recs.length then 80 else 0 else 4)) ∧ WAt B w0 w' A (if N3 n ∧ 0 ≤ v ∧ ¬ ((X.lg n).down = true ∧ (X.lg n).safe = (X.lg n).recs.length) then X.crash n v else X) Pl R := by
 by_cases hn : N3 n
 ·refine (crash_any A X n v B Pl R w0 w hn hv hG h).mono fun _ _ h => ?_
  rw [if_pos hn]
  rcases h with ⟨h1, h2, h3⟩ | ⟨h1, h2, h3, h4⟩ | ⟨h1, h2, h3, h4⟩
  ·exact ⟨by rw [h2, if_pos h1], by rw [if_neg (by omega)]; exact h3⟩
  ·exact ⟨by rw [h3, if_neg (by omega), if_pos h2], by rw [if_neg fun h => h.2.2 h2]; exact h4⟩
  ·exact ⟨by rw [h3, if_neg (by omega), if_neg h2], by rw [if_pos ⟨hn, h1, h2⟩]; exact h4⟩
 ·rw [if_neg hn, if_neg fun h => hn h.1]
  exact crash_none A X n v B Pl R w0 w hn h
theorem restartC (A : WA) (X : MW) (n : Int) (B : Nat) (Pl R : List (Option Blk)) (w0 w : World) (hG : Good X) (h : WAt B w0 w A X Pl R) :
  Calls Try.prog 32 #[ptr A.W, iv n] w fun e w' => e = .returned (iv (if N3 n then if (X.lg n).down then 0 else 5 else 4)) ∧ WAt B w0 w' A (if N3 n then X.restart n else X) Pl R := by
 by_cases hi : N3 n
 ·rw [if_pos hi, if_pos hi]; exact restart_any A X n B Pl R w0 w hi hG h
 ·rw [if_neg hi, if_neg hi]; exact restart_none A X n B Pl R w0 w hi h
theorem fuseC (A : WA) (X : MW) (n v : Int) (B : Nat) (Pl R : List (Option Blk)) (w0 w : World) (h : WAt B w0 w A X Pl R) :
  Calls Try.prog 42 #[ptr A.W, iv n, iv v] w fun e w' => e = .returned (iv (if N3 n then if v < 0 then 1 else 0 else 4)) ∧ WAt B w0 w' A (if N3 n ∧ 0 ≤ v then X.unfuse n (max v 1) else X) Pl R := by
 by_cases hn : N3 n
 ·rw [if_pos hn]
  refine (fuse_any A X n v B Pl R w0 w hn h).mono fun _ _ h => ⟨h.1, ?_⟩
  have := h.2
  by_cases hv : v < 0
  ·rw [if_pos hv] at this; rw [if_neg (by omega)]; exact this
  ·rw [if_neg hv] at this; rw [if_pos ⟨hn, by omega⟩]; exact this
 ·rw [if_neg hn, if_neg fun h => hn h.1]
  exact fuse_none A X n v B Pl R w0 w hn h
theorem heal_none (A : WA) (X : MW) (k : Int) (B : Nat) (Pl R : List (Option Blk)) (w0 w : World) (hk : ¬ (0 ≤ k ∧ k ≤ 1000)) (h : WAt B w0 w A X Pl R) :
  Calls Try.prog 18 #[ptr A.W, iv k] w fun e w' => e = .returned (.tuple #[iv 0, iv 1]) ∧ WAt B w0 w' A X Pl R := by
 obtain ⟨K, N, hO, hK, hPl⟩ := h
 refine calls_of_run (F := [(0, _), (1, _)]) Try.func18 rfl Try.ntmps18 rfl rfl <| run_seq <| run_region <| rl_v rfl rfl rfl (ov_assign rfl rfl) <| rl_v rfl rfl rfl (ov_assign rfl rfl) <| rl_nil <| run_seq <| run_seq <| run_region <| rl_v rfl rfl rfl (ov_move rfl rfl) <| rl_v rfl rfl rfl (ov_ptrnil rfl Try.underlying27 rfl) <| rl_nil <| run_cond_f rfl <| run_skip <| run_seq <| run_seq <| run_region_join 19 (.bool (decide ((k < 0 ∨ 1000 < k)))) [0, 1] (fun hk1 => ?_) ?_
 ·refine rl_v rfl rfl rfl (ov_move rfl rfl) <| rl_v rfl rfl rfl (ov_lss rfl rfl rfl) <| rl_v rfl rfl rfl (ov_move rfl rfl) ?_
  first | refine rl_split_dec 16 rfl (fun hg2 => ?_) (fun hg2 => ?_) | refine rl_split 16 rfl (fun hg2 => ?_) (fun hg2 => ?_)
  ·refine rl_gskip rfl rfl rfl rfl rfl rfl <| rl_gskip rfl rfl rfl rfl rfl rfl <| rl_v rfl rfl rfl (ov_pick_t rfl rfl rfl) ?_
   refine rl_nil (hk1 _ (jbt rfl (by omega)) (And.intro rfl (And.intro rfl trivial)))
  ·refine rl_gv rfl rfl rfl rfl rfl (ov_move rfl rfl) <| rl_gv rfl rfl rfl rfl rfl (ov_gtr rfl rfl rfl) <| rl_v rfl rfl rfl (ov_pick_f rfl rfl rfl) ?_
   refine rl_nil (hk1 _ (jbd rfl (by omega)) (And.intro rfl (And.intro rfl trivial)))
 ·show Run _ _ _ _ [(19, _), (0, _), (1, _)] _ _
  first | refine run_cond_dec rfl (fun c1 => ?_) (fun c2 => ?_) | refine run_cond rfl (fun c1 => ?_) (fun c2 => ?_)
  ·refine run_seq <| run_region <| rl_v rfl rfl rfl (ov_assign rfl rfl) <| rl_v rfl rfl rfl (ov_assign rfl rfl) <| rl_nil <| run_ret Try.func18 (res2 Try.results18 rfl rfl) ?_
   exact ⟨rfl, K, N, hO, hK, hPl⟩
  ·exfalso; omega
def MW.hl (X : MW) (k : Int) : MW := if 0 ≤ k ∧ k ≤ 1000 then X.heal k.toNat else X
def hcode (k : Int) : Int := if 0 ≤ k ∧ k ≤ 1000 then 0 else 1
theorem healC (A : WA) (X : MW) (k : Int) (B : Nat) (Pl R : List (Option Blk)) (w0 w : World) (hG : Good X) (hb : phi X + 12000000 < 4000000000000) (h : WAt B w0 w A X Pl R) :
  Calls Try.prog 18 #[ptr A.W, iv k] w fun e w' => e = .returned (.tuple #[iv (if hcode k = 0 then ((X.hl k).bag.length : Int) else 0), iv (hcode k)]) ∧ WAt B w0 w' A (X.hl k) Pl R := by
 unfold hcode MW.hl
 by_cases hk : 0 ≤ k ∧ k ≤ 1000
 ·rw [if_pos hk, if_pos hk]; exact heal_any A X k B Pl R w0 w hk hG hb h
 ·rw [if_neg hk, if_neg hk]; exact heal_none A X k B Pl R w0 w hk h
theorem rhealC (X : MW) (K : RK) (k : Int) (B : Nat) (N H : List (Option Blk)) (w0 w : World) (hG : Good X) (hL : LInv X) (hb : phi X + 12000000 < 4000000000000) (hO : Own B w0 w H) (hN : ∀ x ∈ N, x ∈ H) (hK : XIn N X K) :
  Calls Try.prog 70 #[rwv X K, iv k] w fun e w' => ∃ v', e = .returned (.tuple #[v', iv (hcode k)]) ∧ ROut B w0 w' v' (X.hl k) N H := by
 unfold hcode MW.hl
 by_cases hk : 0 ≤ k ∧ k ≤ 1000
 ·rw [if_pos hk, if_pos hk]; exact rheal_any X K k B N H w0 w hk hG hL hb hO hN hK
 ·rw [if_neg hk, if_neg hk]; exact rheal_none X K k B N H w0 w hk hO hK
def healN (k : Int) : Int := if 20 < k ∧ k ≤ 1000 then k % 20 else k
def MW.step (X : MW) (kind : Int) (d : Dl) (n kept : Int) : MW := if IntKind.u64.wrap kind % 16 < 15 then X.act kind d n kept else X.hl (healN kept)
theorem step_a {X : MW} {kind : Int} {d : Dl} {n kept : Int} (h : IntKind.u64.wrap kind % 16 < 15) : X.step kind d n kept = X.act kind d n kept := if_pos h
theorem step_h {X : MW} {kind : Int} {d : Dl} {n kept : Int} (h : ¬ IntKind.u64.wrap kind % 16 < 15) : X.step kind d n kept = X.hl (healN kept) := if_neg h
theorem healN_t {k : Int} (h : 20 < k ∧ k ≤ 1000) : healN k = k % 20 := if_pos h
theorem healN_f {k : Int} (h : ¬ (20 < k ∧ k ≤ 1000)) : healN k = k := if_neg h
theorem hl_t {X : MW} {k : Int} (h : hcode k = 0) : (if hcode k = 0 then ((X.hl k).bag.length : Int) else 0) = (X.hl k).bag.length := if_pos h
theorem hl_f {X : MW} {k : Int} (h : ¬ hcode k = 0) : (if hcode k = 0 then ((X.hl k).bag.length : Int) else 0) = 0 := if_neg h
theorem perm_front3 {α : Type} {x y z : α} (N' N R T : List α) : (N' ++ (x :: y :: z :: ((N ++ R) ++ T))).Perm (x :: y :: z :: (((N' ++ N) ++ R) ++ T)) := by
 have h1 : ∀ Q : List α, (N' ++ ([x, y, z] ++ Q)).Perm ([x, y, z] ++ (N' ++ Q)) := fun Q => by
  rw [← List.append_assoc, ← List.append_assoc]
  exact List.Perm.append_right _ List.perm_append_comm
 refine (h1 _).trans (List.Perm.of_eq ?_)
 simp
theorem ref_call3 {f : FuncId} {args : Array Value} {c : Value → Value} {B : Nat} {w0 w : World} {Y : MW} {N R Q T : List (Option Blk)} {x y z : Option Blk} (hO : Own B w0 w (x :: y :: z :: (((N ++ R) ++ Q) ++ T)))
  (hc : ∀ H, Own B w0 w H → (∀ x ∈ N ++ R, x ∈ H) → Calls Try.prog f args w fun e w' => ∃ v', e = .returned (c v') ∧ ROut B w0 w' v' Y (N ++ R) H) :
  Calls Try.prog f args w fun e w' => ∃ K' N', e = .returned (c (rwv Y K')) ∧ Own B w0 w' (x :: y :: z :: (((N' ++ R) ++ Q) ++ T)) ∧ XIn (N' ++ R) Y K' :=
 (hc _ hO (mem_c1 (mem_c1 (mem_c1 (memL (memL fun x h => h)))))).mono fun e w' ⟨v', h1, K', N', h2, h3, h4⟩ => by
  subst h2
  refine ⟨K', N' ++ N, h1, ?_, by rw [List.append_assoc]; exact h4⟩
  have h5 := h3.perm ((List.Perm.of_eq (by simp)).trans (perm_front3 (x := x) (y := y) (z := z) N' N R (Q ++ T)))
  rw [← List.append_assoc (N' ++ N ++ R)] at h5
  exact h5
theorem WAt.pm {B : Nat} {w0 w : World} {A : WA} {X : MW} {Pl R R' : List (Option Blk)} (h : WAt B w0 w A X Pl R) (hp : R.Perm R') : WAt B w0 w A X Pl R' := by
 obtain ⟨K, N, hO, hK, hPl⟩ := h.fr
 exact WAt.unfr (hO.perm (List.Perm.append_right _ hp)) hK hPl
theorem ret_true {v : Value} {p : Prop} {dp : Decidable p} (h : p) : Ending.returned (.tuple #[v, .bool (decide p)]) = .returned (.tuple #[v, .bool true]) := by rw [decide_eq_true h]
set_option maxHeartbeats 4000000 in
theorem do_any (A : WA) (X : MW) (K : RK) (kind : Int) (d : Dl) (n kept : Int) (B : Nat) (N Pl R Q : List (Option Blk)) (w0 w : World) (hk : kept ≤ 9223372036854775807) (hG : Good X) (hL : LInv X) (hb : phi X + 12000000 < 4000000000000) (hK : XIn (N ++ R) X K) (h : WAt B w0 w A X Pl ((N ++ R) ++ Q)) :
  Calls Try.prog 40 #[ptr A.W, rwv X K, .agg (actl kind d n kept).toArray] w fun e w' => ∃ K' N', e = .returned (.tuple #[rwv (X.step kind d n kept) K', .bool true]) ∧ WAt B w0 w' A (X.step kind d n kept) Pl ((N' ++ R) ++ Q) ∧ XIn (N' ++ R) (X.step kind d n kept) K' := by
 have hbl : X.bag.length + 5000 < 4000000000000 := by unfold phi at hb; omega
 have hm := Int.emod_nonneg (IntKind.u64.wrap kind) (show (16 : Int) ≠ 0 by decide)
 have hm2 := Int.emod_lt_of_pos (IntKind.u64.wrap kind) (show (0 : Int) < 16 by decide)
 obtain ⟨Kw, Nw, hO, hKw, hPl⟩ := h.fr
 refine calls_of_run (F := [(0, _), (1, _), (2, _)]) Try.func40 rfl Try.ntmps40 rfl rfl <| run_seq <| run_region <| rl_ow rfl (ow_box _ rfl rfl rfl rfl rfl hO) ?_
 rintro _ w1 ⟨bx, rfl, hO2, hs3⟩
 refine rl_ow rfl (ow_box _ rfl rfl rfl rfl rfl hO2) ?_
 rintro _ w4 ⟨ba, rfl, hO5, hs6⟩
 refine rl_ow rfl (ow_alloc _ rfl rfl rfl zero_69 rfl hO5) ?_
 rintro _ w7 ⟨br, rfl, hO8, hs9⟩
 refine rl_v rfl rfl rfl (ov_assign rfl rfl) <| rl_nil <| run_seq <| run_region <| rl_v rfl rfl rfl (ov_assign rfl rfl) <| rl_v rfl rfl rfl (ov_assign rfl rfl) <| rl_nil <| run_seq <| run_seq <| run_region <| rl_v rfl rfl rfl (ov_fieldS rfl Try.underlying51 rfl (fo := 0) rfl (by kernel_rfl) rfl) ?_
 refine rl_v rfl rfl rfl (ov_load rfl Try.underlying3 rfl rfl (by exact hO8.cellL 1 rfl (off := 0) rfl)) ?_
 refine rl_v rfl rfl rfl (ov_conv rfl Try.underlying3 Try.underlying36 rfl) <| rl_v rfl rfl rfl (ov_rem rfl rfl rfl (wrap_u64_nonneg _) (by omega)) ?_
 refine rl_nil <| run_block <| run_seq <| run_seq <| run_region <| rl_v rfl rfl rfl (ov_eql rfl rfl rfl) <| rl_v rfl rfl rfl (ov_assign rfl rfl) <| rl_nil ?_
 first | refine run_cond_dec rfl (fun e0 => ?_) (fun n0 => ?_) | refine run_cond rfl (fun e0 => ?_) (fun n0 => ?_)
 ·refine run_skip ?_
  first | refine run_cond_dec rfl (fun qq => ?_) (fun qn => ?_) | refine run_cond rfl (fun qq => ?_) (fun qn => ?_)
  ·refine run_seq <| run_region <| rl_v rfl rfl rfl (ov_loadW rfl Try.underlying69 rfl (by kernel_rfl) rfl hO8 2 rfl) ?_
   refine rl_v rfl rfl rfl (ov_fieldS rfl Try.underlying51 rfl (fo := 1) rfl (by kernel_rfl) rfl) ?_
   refine rl_v rfl rfl rfl (ov_loadN rfl Try.underlying34 rfl (by kernel_rfl) rfl ((hO8.rangeT 1 rfl 1 (cs := dll d) rfl))) ?_
   refine rl_call callable_62 rfl rfl rfl rfl rfl rfl (ref_call3 hO8 (fun H hO hN => rbegin_any X K d B (N ++ R) H w0 w7 hG (by omega) hO hN hK)) (fun e10 w11 hp12 => ?_)
   obtain ⟨K2, N2, rfl, hO2, hK2⟩ := hp12
   refine ⟨_, rfl, ?_⟩
   refine rl_v rfl rfl rfl (ov_move rfl rfl) <| rl_v rfl rfl rfl (ov_extract rfl rfl (by rfl)) ?_
   refine rl_v rfl rfl rfl (ov_extract rfl rfl (by rfl)) ?_
   refine rl_v rfl rfl rfl (ov_extract rfl rfl (by rfl)) ?_
   refine rl_ow rfl (ow_alloc _ rfl rfl rfl zero_69 rfl hO2) ?_
   rintro _ w13 ⟨b10, rfl, hO14, hs15⟩
   refine rl_ow rfl (ow_storeW rfl rfl (by kernel_rfl) hO14 0 rfl rfl (by rfl) rfl (by rfl)) ?_
   rintro _ w16 ⟨rfl, hO17, hs18⟩
   refine rl_v rfl rfl rfl (ov_assign rfl rfl) <| rl_v rfl rfl rfl (ov_assign rfl rfl) <| rl_nil <| run_seq <| run_region <| rl_v rfl rfl rfl (ov_move rfl rfl) <| rl_v rfl rfl rfl (ov_fieldS rfl Try.underlying51 rfl (fo := 1) rfl (by kernel_rfl) rfl) ?_
   refine rl_v rfl rfl rfl (ov_loadN rfl Try.underlying34 rfl (by kernel_rfl) rfl ((hO17.rangeT 2 rfl 1 (cs := dll d) rfl))) ?_
   refine rl_call callable_17 rfl rfl rfl rfl rfl rfl (begin_any A X d B Pl _ w0 w16 hG hbl (WAt.unfr (R := _ :: _ :: _ :: _ :: ((N2 ++ R) ++ Q)) hO17 hKw hPl)) (fun e19 w20 hp21 => ?_)
   obtain ⟨rfl, hW3⟩ := hp21
   refine ⟨_, rfl, ?_⟩
   obtain ⟨Kw3, Nw3, hO3, hKw3, hPl3⟩ := hW3.fr
   refine rl_v rfl rfl rfl (ov_move rfl rfl) <| rl_v rfl rfl rfl (ov_extract rfl rfl (by rfl)) ?_
   refine rl_v rfl rfl rfl (ov_extract rfl rfl (by rfl)) ?_
   refine rl_v rfl rfl rfl (ov_assign rfl rfl) <| rl_v rfl rfl rfl (ov_assign rfl rfl) <| rl_nil <| run_seq <| run_region <| rl_v rfl rfl rfl (ov_loadW rfl Try.underlying69 rfl (by kernel_rfl) rfl hO3 0 rfl) ?_
   refine rl_v rfl rfl rfl (ov_move rfl rfl) <| rl_v rfl rfl rfl (ov_move rfl rfl) <| rl_v rfl rfl rfl (ov_eql rfl rfl rfl) <| rl_v rfl rfl rfl (ov_move rfl rfl) ?_
   first | refine rl_yesD 83 rfl (rfl) ?_ | refine rl_yes 83 rfl (rfl) ?_
   refine rl_gv rfl rfl rfl rfl rfl (ov_move rfl rfl) <| rl_gv rfl rfl rfl rfl rfl (ov_move rfl rfl) <| rl_gv rfl rfl rfl rfl rfl (ov_eql rfl rfl rfl) <| rl_v rfl rfl rfl (ov_pick_t rfl rfl rfl) <| rl_ow rfl (ow_storeW rfl rfl (by kernel_rfl) hO3 1 rfl rfl (by rfl) rfl (by rfl)) ?_
   rintro _ w22 ⟨rfl, hO23, hs24⟩
   refine rl_v rfl rfl rfl (ov_assign rfl rfl) <| rl_nil <| run_ret Try.func40 (resW2 Try.results40 rfl rfl Try.underlying69 rfl (by kernel_rfl) hO23 1 rfl) ?_
   exact ⟨K2, N2, by rw [step_a (show IntKind.u64.wrap kind % 16 < 15 by omega), act_0 (by omega)]; exact ret_true rfl, by rw [step_a (show IntKind.u64.wrap kind % 16 < 15 by omega), act_0 (by omega)]; exact (WAt.unfr (R := _ :: _ :: _ :: _ :: ((N2 ++ R) ++ Q)) hO23 hKw3 hPl3).drop.drop.drop.drop, by rw [step_a (show IntKind.u64.wrap kind % 16 < 15 by omega), act_0 (by omega)]; exact hK2⟩
  ·exfalso; omega
 ·refine run_region <| rl_v rfl rfl rfl (ov_eql rfl rfl rfl) <| rl_v rfl rfl rfl (ov_assign rfl rfl) <| rl_nil ?_
  first | refine run_cond_dec rfl (fun e1 => ?_) (fun n1 => ?_) | refine run_cond rfl (fun e1 => ?_) (fun n1 => ?_)
  ·refine run_seq <| run_region <| rl_v rfl rfl rfl (ov_loadW rfl Try.underlying69 rfl (by kernel_rfl) rfl hO8 2 rfl) ?_
   refine rl_v rfl rfl rfl (ov_fieldS rfl Try.underlying51 rfl (fo := 1) rfl (by kernel_rfl) rfl) ?_
   refine rl_v rfl rfl rfl (ov_loadN rfl Try.underlying34 rfl (by kernel_rfl) rfl ((hO8.rangeT 1 rfl 1 (cs := dll d) rfl))) ?_
   refine rl_call callable_62 rfl rfl rfl rfl rfl rfl (ref_call3 hO8 (fun H hO hN => rbegin_any X K d B (N ++ R) H w0 w7 hG (by omega) hO hN hK)) (fun e25 w26 hp27 => ?_)
   obtain ⟨K2, N2, rfl, hO2, hK2⟩ := hp27
   refine ⟨_, rfl, ?_⟩
   refine rl_v rfl rfl rfl (ov_move rfl rfl) <| rl_v rfl rfl rfl (ov_extract rfl rfl (by rfl)) ?_
   refine rl_v rfl rfl rfl (ov_extract rfl rfl (by rfl)) ?_
   refine rl_v rfl rfl rfl (ov_extract rfl rfl (by rfl)) ?_
   refine rl_ow rfl (ow_alloc _ rfl rfl rfl zero_69 rfl hO2) ?_
   rintro _ w28 ⟨b10, rfl, hO29, hs30⟩
   refine rl_ow rfl (ow_storeW rfl rfl (by kernel_rfl) hO29 0 rfl rfl (by rfl) rfl (by rfl)) ?_
   rintro _ w31 ⟨rfl, hO32, hs33⟩
   refine rl_v rfl rfl rfl (ov_assign rfl rfl) <| rl_v rfl rfl rfl (ov_assign rfl rfl) <| rl_nil <| run_seq <| run_region <| rl_v rfl rfl rfl (ov_move rfl rfl) <| rl_v rfl rfl rfl (ov_fieldS rfl Try.underlying51 rfl (fo := 1) rfl (by kernel_rfl) rfl) ?_
   refine rl_v rfl rfl rfl (ov_loadN rfl Try.underlying34 rfl (by kernel_rfl) rfl ((hO32.rangeT 2 rfl 1 (cs := dll d) rfl))) ?_
   refine rl_call callable_17 rfl rfl rfl rfl rfl rfl (begin_any A X d B Pl _ w0 w31 hG hbl (WAt.unfr (R := _ :: _ :: _ :: _ :: ((N2 ++ R) ++ Q)) hO32 hKw hPl)) (fun e34 w35 hp36 => ?_)
   obtain ⟨rfl, hW3⟩ := hp36
   refine ⟨_, rfl, ?_⟩
   obtain ⟨Kw3, Nw3, hO3, hKw3, hPl3⟩ := hW3.fr
   refine rl_v rfl rfl rfl (ov_move rfl rfl) <| rl_v rfl rfl rfl (ov_extract rfl rfl (by rfl)) ?_
   refine rl_v rfl rfl rfl (ov_extract rfl rfl (by rfl)) ?_
   refine rl_v rfl rfl rfl (ov_assign rfl rfl) <| rl_v rfl rfl rfl (ov_assign rfl rfl) <| rl_nil <| run_seq <| run_region <| rl_v rfl rfl rfl (ov_loadW rfl Try.underlying69 rfl (by kernel_rfl) rfl hO3 0 rfl) ?_
   refine rl_v rfl rfl rfl (ov_move rfl rfl) <| rl_v rfl rfl rfl (ov_move rfl rfl) <| rl_v rfl rfl rfl (ov_eql rfl rfl rfl) <| rl_v rfl rfl rfl (ov_move rfl rfl) ?_
   first | refine rl_yesD 83 rfl (rfl) ?_ | refine rl_yes 83 rfl (rfl) ?_
   refine rl_gv rfl rfl rfl rfl rfl (ov_move rfl rfl) <| rl_gv rfl rfl rfl rfl rfl (ov_move rfl rfl) <| rl_gv rfl rfl rfl rfl rfl (ov_eql rfl rfl rfl) <| rl_v rfl rfl rfl (ov_pick_t rfl rfl rfl) <| rl_ow rfl (ow_storeW rfl rfl (by kernel_rfl) hO3 1 rfl rfl (by rfl) rfl (by rfl)) ?_
   rintro _ w37 ⟨rfl, hO38, hs39⟩
   refine rl_v rfl rfl rfl (ov_assign rfl rfl) <| rl_nil <| run_ret Try.func40 (resW2 Try.results40 rfl rfl Try.underlying69 rfl (by kernel_rfl) hO38 1 rfl) ?_
   exact ⟨K2, N2, by rw [step_a (show IntKind.u64.wrap kind % 16 < 15 by omega), act_0 (by omega)]; exact ret_true rfl, by rw [step_a (show IntKind.u64.wrap kind % 16 < 15 by omega), act_0 (by omega)]; exact (WAt.unfr (R := _ :: _ :: _ :: _ :: ((N2 ++ R) ++ Q)) hO38 hKw3 hPl3).drop.drop.drop.drop, by rw [step_a (show IntKind.u64.wrap kind % 16 < 15 by omega), act_0 (by omega)]; exact hK2⟩
  ·refine run_seq <| run_seq <| run_region <| rl_v rfl rfl rfl (ov_eql rfl rfl rfl) <| rl_v rfl rfl rfl (ov_assign rfl rfl) <| rl_nil ?_
   first | refine run_cond_dec rfl (fun e2 => ?_) (fun n2 => ?_) | refine run_cond rfl (fun e2 => ?_) (fun n2 => ?_)
   ·refine run_skip ?_
    first | refine run_cond_dec rfl (fun qq => ?_) (fun qn => ?_) | refine run_cond rfl (fun qq => ?_) (fun qn => ?_)
    ·refine run_seq <| run_region <| rl_v rfl rfl rfl (ov_loadW rfl Try.underlying69 rfl (by kernel_rfl) rfl hO8 2 rfl) ?_
     refine rl_v rfl rfl rfl (ov_fieldS rfl Try.underlying51 rfl (fo := 5) rfl (by kernel_rfl) rfl) ?_
     refine rl_v rfl rfl rfl (ov_load rfl Try.underlying3 rfl rfl (by exact hO8.cellL 1 rfl (off := 5) rfl)) ?_
     refine rl_call callable_63 rfl rfl rfl rfl rfl rfl (ref_call3 hO8 (fun H hO hN => rdeliver_any X K n B (N ++ R) H w0 w7 hG hL (by omega) hO hN hK)) (fun e40 w41 hp42 => ?_)
     obtain ⟨K2, N2, rfl, hO2, hK2⟩ := hp42
     refine ⟨_, rfl, ?_⟩
     refine rl_v rfl rfl rfl (ov_move rfl rfl) <| rl_v rfl rfl rfl (ov_extract rfl rfl (by rfl)) ?_
     refine rl_v rfl rfl rfl (ov_extract rfl rfl (by rfl)) ?_
     refine rl_ow rfl (ow_storeW rfl rfl (by kernel_rfl) hO2 2 rfl rfl (by rfl) rfl (by rfl)) ?_
     rintro _ w43 ⟨rfl, hO44, hs45⟩
     refine rl_v rfl rfl rfl (ov_assign rfl rfl) <| rl_nil <| run_region <| rl_v rfl rfl rfl (ov_move rfl rfl) <| rl_v rfl rfl rfl (ov_fieldS rfl Try.underlying51 rfl (fo := 5) rfl (by kernel_rfl) rfl) ?_
     refine rl_v rfl rfl rfl (ov_load rfl Try.underlying3 rfl rfl (by exact hO44.cellL 1 rfl (off := 5) rfl)) ?_
     refine rl_call callable_43 rfl rfl rfl rfl rfl rfl (deliverC A X n B Pl _ w0 w43 hG hbl (WAt.unfr (R := _ :: _ :: _ :: ((N2 ++ R) ++ Q)) hO44 hKw hPl)) (fun e46 w47 hp48 => ?_)
     obtain ⟨rfl, hW3⟩ := hp48
     refine ⟨_, rfl, ?_⟩
     obtain ⟨Kw3, Nw3, hO3, hKw3, hPl3⟩ := hW3.fr
     refine rl_v rfl rfl rfl (ov_assign rfl rfl) <| rl_nil <| run_inBlock <| run_seq <| run_region <| rl_v rfl rfl rfl (ov_loadW rfl Try.underlying69 rfl (by kernel_rfl) rfl hO3 2 rfl) ?_
     refine rl_v rfl rfl rfl (ov_move rfl rfl) <| rl_v rfl rfl rfl (ov_move rfl rfl) <| rl_v rfl rfl rfl (ov_eql rfl rfl rfl) <| rl_ow rfl (ow_storeW rfl rfl (by kernel_rfl) hO3 0 rfl rfl (by rfl) rfl (by rfl)) ?_
     rintro _ w49 ⟨rfl, hO50, hs51⟩
     refine rl_v rfl rfl rfl (ov_assign rfl rfl) <| rl_nil <| run_ret Try.func40 (resW2 Try.results40 rfl rfl Try.underlying69 rfl (by kernel_rfl) hO50 0 rfl) ?_
     exact ⟨K2, N2, by rw [step_a (show IntKind.u64.wrap kind % 16 < 15 by omega), act_1 (by omega)]; exact ret_true rfl, by rw [step_a (show IntKind.u64.wrap kind % 16 < 15 by omega), act_1 (by omega)]; exact (WAt.unfr (R := _ :: _ :: _ :: ((N2 ++ R) ++ Q)) hO50 hKw3 hPl3).drop.drop.drop, by rw [step_a (show IntKind.u64.wrap kind % 16 < 15 by omega), act_1 (by omega)]; exact hK2⟩
    ·exfalso; omega
   ·refine run_seq <| run_region <| rl_v rfl rfl rfl (ov_eql rfl rfl rfl) <| rl_v rfl rfl rfl (ov_assign rfl rfl) <| rl_nil ?_
    first | refine run_cond_dec rfl (fun e3 => ?_) (fun n3 => ?_) | refine run_cond rfl (fun e3 => ?_) (fun n3 => ?_)
    ·refine run_skip ?_
     first | refine run_cond_dec rfl (fun qq => ?_) (fun qn => ?_) | refine run_cond rfl (fun qq => ?_) (fun qn => ?_)
     ·refine run_seq <| run_region <| rl_v rfl rfl rfl (ov_loadW rfl Try.underlying69 rfl (by kernel_rfl) rfl hO8 2 rfl) ?_
      refine rl_v rfl rfl rfl (ov_fieldS rfl Try.underlying51 rfl (fo := 5) rfl (by kernel_rfl) rfl) ?_
      refine rl_v rfl rfl rfl (ov_load rfl Try.underlying3 rfl rfl (by exact hO8.cellL 1 rfl (off := 5) rfl)) ?_
      refine rl_call callable_63 rfl rfl rfl rfl rfl rfl (ref_call3 hO8 (fun H hO hN => rdeliver_any X K n B (N ++ R) H w0 w7 hG hL (by omega) hO hN hK)) (fun e52 w53 hp54 => ?_)
      obtain ⟨K2, N2, rfl, hO2, hK2⟩ := hp54
      refine ⟨_, rfl, ?_⟩
      refine rl_v rfl rfl rfl (ov_move rfl rfl) <| rl_v rfl rfl rfl (ov_extract rfl rfl (by rfl)) ?_
      refine rl_v rfl rfl rfl (ov_extract rfl rfl (by rfl)) ?_
      refine rl_ow rfl (ow_storeW rfl rfl (by kernel_rfl) hO2 2 rfl rfl (by rfl) rfl (by rfl)) ?_
      rintro _ w55 ⟨rfl, hO56, hs57⟩
      refine rl_v rfl rfl rfl (ov_assign rfl rfl) <| rl_nil <| run_region <| rl_v rfl rfl rfl (ov_move rfl rfl) <| rl_v rfl rfl rfl (ov_fieldS rfl Try.underlying51 rfl (fo := 5) rfl (by kernel_rfl) rfl) ?_
      refine rl_v rfl rfl rfl (ov_load rfl Try.underlying3 rfl rfl (by exact hO56.cellL 1 rfl (off := 5) rfl)) ?_
      refine rl_call callable_43 rfl rfl rfl rfl rfl rfl (deliverC A X n B Pl _ w0 w55 hG hbl (WAt.unfr (R := _ :: _ :: _ :: ((N2 ++ R) ++ Q)) hO56 hKw hPl)) (fun e58 w59 hp60 => ?_)
      obtain ⟨rfl, hW3⟩ := hp60
      refine ⟨_, rfl, ?_⟩
      obtain ⟨Kw3, Nw3, hO3, hKw3, hPl3⟩ := hW3.fr
      refine rl_v rfl rfl rfl (ov_assign rfl rfl) <| rl_nil <| run_inBlock <| run_seq <| run_region <| rl_v rfl rfl rfl (ov_loadW rfl Try.underlying69 rfl (by kernel_rfl) rfl hO3 2 rfl) ?_
      refine rl_v rfl rfl rfl (ov_move rfl rfl) <| rl_v rfl rfl rfl (ov_move rfl rfl) <| rl_v rfl rfl rfl (ov_eql rfl rfl rfl) <| rl_ow rfl (ow_storeW rfl rfl (by kernel_rfl) hO3 0 rfl rfl (by rfl) rfl (by rfl)) ?_
      rintro _ w61 ⟨rfl, hO62, hs63⟩
      refine rl_v rfl rfl rfl (ov_assign rfl rfl) <| rl_nil <| run_ret Try.func40 (resW2 Try.results40 rfl rfl Try.underlying69 rfl (by kernel_rfl) hO62 0 rfl) ?_
      exact ⟨K2, N2, by rw [step_a (show IntKind.u64.wrap kind % 16 < 15 by omega), act_1 (by omega)]; exact ret_true rfl, by rw [step_a (show IntKind.u64.wrap kind % 16 < 15 by omega), act_1 (by omega)]; exact (WAt.unfr (R := _ :: _ :: _ :: ((N2 ++ R) ++ Q)) hO62 hKw3 hPl3).drop.drop.drop, by rw [step_a (show IntKind.u64.wrap kind % 16 < 15 by omega), act_1 (by omega)]; exact hK2⟩
     ·exfalso; omega
    ·refine run_seq <| run_region <| rl_v rfl rfl rfl (ov_eql rfl rfl rfl) <| rl_v rfl rfl rfl (ov_assign rfl rfl) <| rl_nil ?_
     first | refine run_cond_dec rfl (fun e4 => ?_) (fun n4 => ?_) | refine run_cond rfl (fun e4 => ?_) (fun n4 => ?_)
     ·refine run_skip ?_
      first | refine run_cond_dec rfl (fun qq => ?_) (fun qn => ?_) | refine run_cond rfl (fun qq => ?_) (fun qn => ?_)
      ·refine run_seq <| run_region <| rl_v rfl rfl rfl (ov_loadW rfl Try.underlying69 rfl (by kernel_rfl) rfl hO8 2 rfl) ?_
       refine rl_v rfl rfl rfl (ov_fieldS rfl Try.underlying51 rfl (fo := 5) rfl (by kernel_rfl) rfl) ?_
       refine rl_v rfl rfl rfl (ov_load rfl Try.underlying3 rfl rfl (by exact hO8.cellL 1 rfl (off := 5) rfl)) ?_
       refine rl_call callable_63 rfl rfl rfl rfl rfl rfl (ref_call3 hO8 (fun H hO hN => rdeliver_any X K n B (N ++ R) H w0 w7 hG hL (by omega) hO hN hK)) (fun e64 w65 hp66 => ?_)
       obtain ⟨K2, N2, rfl, hO2, hK2⟩ := hp66
       refine ⟨_, rfl, ?_⟩
       refine rl_v rfl rfl rfl (ov_move rfl rfl) <| rl_v rfl rfl rfl (ov_extract rfl rfl (by rfl)) ?_
       refine rl_v rfl rfl rfl (ov_extract rfl rfl (by rfl)) ?_
       refine rl_ow rfl (ow_storeW rfl rfl (by kernel_rfl) hO2 2 rfl rfl (by rfl) rfl (by rfl)) ?_
       rintro _ w67 ⟨rfl, hO68, hs69⟩
       refine rl_v rfl rfl rfl (ov_assign rfl rfl) <| rl_nil <| run_region <| rl_v rfl rfl rfl (ov_move rfl rfl) <| rl_v rfl rfl rfl (ov_fieldS rfl Try.underlying51 rfl (fo := 5) rfl (by kernel_rfl) rfl) ?_
       refine rl_v rfl rfl rfl (ov_load rfl Try.underlying3 rfl rfl (by exact hO68.cellL 1 rfl (off := 5) rfl)) ?_
       refine rl_call callable_43 rfl rfl rfl rfl rfl rfl (deliverC A X n B Pl _ w0 w67 hG hbl (WAt.unfr (R := _ :: _ :: _ :: ((N2 ++ R) ++ Q)) hO68 hKw hPl)) (fun e70 w71 hp72 => ?_)
       obtain ⟨rfl, hW3⟩ := hp72
       refine ⟨_, rfl, ?_⟩
       obtain ⟨Kw3, Nw3, hO3, hKw3, hPl3⟩ := hW3.fr
       refine rl_v rfl rfl rfl (ov_assign rfl rfl) <| rl_nil <| run_inBlock <| run_seq <| run_region <| rl_v rfl rfl rfl (ov_loadW rfl Try.underlying69 rfl (by kernel_rfl) rfl hO3 2 rfl) ?_
       refine rl_v rfl rfl rfl (ov_move rfl rfl) <| rl_v rfl rfl rfl (ov_move rfl rfl) <| rl_v rfl rfl rfl (ov_eql rfl rfl rfl) <| rl_ow rfl (ow_storeW rfl rfl (by kernel_rfl) hO3 0 rfl rfl (by rfl) rfl (by rfl)) ?_
       rintro _ w73 ⟨rfl, hO74, hs75⟩
       refine rl_v rfl rfl rfl (ov_assign rfl rfl) <| rl_nil <| run_ret Try.func40 (resW2 Try.results40 rfl rfl Try.underlying69 rfl (by kernel_rfl) hO74 0 rfl) ?_
       exact ⟨K2, N2, by rw [step_a (show IntKind.u64.wrap kind % 16 < 15 by omega), act_1 (by omega)]; exact ret_true rfl, by rw [step_a (show IntKind.u64.wrap kind % 16 < 15 by omega), act_1 (by omega)]; exact (WAt.unfr (R := _ :: _ :: _ :: ((N2 ++ R) ++ Q)) hO74 hKw3 hPl3).drop.drop.drop, by rw [step_a (show IntKind.u64.wrap kind % 16 < 15 by omega), act_1 (by omega)]; exact hK2⟩
      ·exfalso; omega
     ·refine run_seq <| run_region <| rl_v rfl rfl rfl (ov_eql rfl rfl rfl) <| rl_v rfl rfl rfl (ov_assign rfl rfl) <| rl_nil ?_
      first | refine run_cond_dec rfl (fun e5 => ?_) (fun n5 => ?_) | refine run_cond rfl (fun e5 => ?_) (fun n5 => ?_)
      ·refine run_skip ?_
       first | refine run_cond_dec rfl (fun qq => ?_) (fun qn => ?_) | refine run_cond rfl (fun qq => ?_) (fun qn => ?_)
       ·refine run_seq <| run_region <| rl_v rfl rfl rfl (ov_loadW rfl Try.underlying69 rfl (by kernel_rfl) rfl hO8 2 rfl) ?_
        refine rl_v rfl rfl rfl (ov_fieldS rfl Try.underlying51 rfl (fo := 5) rfl (by kernel_rfl) rfl) ?_
        refine rl_v rfl rfl rfl (ov_load rfl Try.underlying3 rfl rfl (by exact hO8.cellL 1 rfl (off := 5) rfl)) ?_
        refine rl_call callable_63 rfl rfl rfl rfl rfl rfl (ref_call3 hO8 (fun H hO hN => rdeliver_any X K n B (N ++ R) H w0 w7 hG hL (by omega) hO hN hK)) (fun e76 w77 hp78 => ?_)
        obtain ⟨K2, N2, rfl, hO2, hK2⟩ := hp78
        refine ⟨_, rfl, ?_⟩
        refine rl_v rfl rfl rfl (ov_move rfl rfl) <| rl_v rfl rfl rfl (ov_extract rfl rfl (by rfl)) ?_
        refine rl_v rfl rfl rfl (ov_extract rfl rfl (by rfl)) ?_
        refine rl_ow rfl (ow_storeW rfl rfl (by kernel_rfl) hO2 2 rfl rfl (by rfl) rfl (by rfl)) ?_
        rintro _ w79 ⟨rfl, hO80, hs81⟩
        refine rl_v rfl rfl rfl (ov_assign rfl rfl) <| rl_nil <| run_region <| rl_v rfl rfl rfl (ov_move rfl rfl) <| rl_v rfl rfl rfl (ov_fieldS rfl Try.underlying51 rfl (fo := 5) rfl (by kernel_rfl) rfl) ?_
        refine rl_v rfl rfl rfl (ov_load rfl Try.underlying3 rfl rfl (by exact hO80.cellL 1 rfl (off := 5) rfl)) ?_
        refine rl_call callable_43 rfl rfl rfl rfl rfl rfl (deliverC A X n B Pl _ w0 w79 hG hbl (WAt.unfr (R := _ :: _ :: _ :: ((N2 ++ R) ++ Q)) hO80 hKw hPl)) (fun e82 w83 hp84 => ?_)
        obtain ⟨rfl, hW3⟩ := hp84
        refine ⟨_, rfl, ?_⟩
        obtain ⟨Kw3, Nw3, hO3, hKw3, hPl3⟩ := hW3.fr
        refine rl_v rfl rfl rfl (ov_assign rfl rfl) <| rl_nil <| run_inBlock <| run_seq <| run_region <| rl_v rfl rfl rfl (ov_loadW rfl Try.underlying69 rfl (by kernel_rfl) rfl hO3 2 rfl) ?_
        refine rl_v rfl rfl rfl (ov_move rfl rfl) <| rl_v rfl rfl rfl (ov_move rfl rfl) <| rl_v rfl rfl rfl (ov_eql rfl rfl rfl) <| rl_ow rfl (ow_storeW rfl rfl (by kernel_rfl) hO3 0 rfl rfl (by rfl) rfl (by rfl)) ?_
        rintro _ w85 ⟨rfl, hO86, hs87⟩
        refine rl_v rfl rfl rfl (ov_assign rfl rfl) <| rl_nil <| run_ret Try.func40 (resW2 Try.results40 rfl rfl Try.underlying69 rfl (by kernel_rfl) hO86 0 rfl) ?_
        exact ⟨K2, N2, by rw [step_a (show IntKind.u64.wrap kind % 16 < 15 by omega), act_1 (by omega)]; exact ret_true rfl, by rw [step_a (show IntKind.u64.wrap kind % 16 < 15 by omega), act_1 (by omega)]; exact (WAt.unfr (R := _ :: _ :: _ :: ((N2 ++ R) ++ Q)) hO86 hKw3 hPl3).drop.drop.drop, by rw [step_a (show IntKind.u64.wrap kind % 16 < 15 by omega), act_1 (by omega)]; exact hK2⟩
       ·exfalso; omega
      ·refine run_region <| rl_v rfl rfl rfl (ov_eql rfl rfl rfl) <| rl_v rfl rfl rfl (ov_assign rfl rfl) <| rl_nil ?_
       first | refine run_cond_dec rfl (fun e6 => ?_) (fun n6 => ?_) | refine run_cond rfl (fun e6 => ?_) (fun n6 => ?_)
       ·refine run_seq <| run_region <| rl_v rfl rfl rfl (ov_loadW rfl Try.underlying69 rfl (by kernel_rfl) rfl hO8 2 rfl) ?_
        refine rl_v rfl rfl rfl (ov_fieldS rfl Try.underlying51 rfl (fo := 5) rfl (by kernel_rfl) rfl) ?_
        refine rl_v rfl rfl rfl (ov_load rfl Try.underlying3 rfl rfl (by exact hO8.cellL 1 rfl (off := 5) rfl)) ?_
        refine rl_call callable_63 rfl rfl rfl rfl rfl rfl (ref_call3 hO8 (fun H hO hN => rdeliver_any X K n B (N ++ R) H w0 w7 hG hL (by omega) hO hN hK)) (fun e88 w89 hp90 => ?_)
        obtain ⟨K2, N2, rfl, hO2, hK2⟩ := hp90
        refine ⟨_, rfl, ?_⟩
        refine rl_v rfl rfl rfl (ov_move rfl rfl) <| rl_v rfl rfl rfl (ov_extract rfl rfl (by rfl)) ?_
        refine rl_v rfl rfl rfl (ov_extract rfl rfl (by rfl)) ?_
        refine rl_ow rfl (ow_storeW rfl rfl (by kernel_rfl) hO2 2 rfl rfl (by rfl) rfl (by rfl)) ?_
        rintro _ w91 ⟨rfl, hO92, hs93⟩
        refine rl_v rfl rfl rfl (ov_assign rfl rfl) <| rl_nil <| run_region <| rl_v rfl rfl rfl (ov_move rfl rfl) <| rl_v rfl rfl rfl (ov_fieldS rfl Try.underlying51 rfl (fo := 5) rfl (by kernel_rfl) rfl) ?_
        refine rl_v rfl rfl rfl (ov_load rfl Try.underlying3 rfl rfl (by exact hO92.cellL 1 rfl (off := 5) rfl)) ?_
        refine rl_call callable_43 rfl rfl rfl rfl rfl rfl (deliverC A X n B Pl _ w0 w91 hG hbl (WAt.unfr (R := _ :: _ :: _ :: ((N2 ++ R) ++ Q)) hO92 hKw hPl)) (fun e94 w95 hp96 => ?_)
        obtain ⟨rfl, hW3⟩ := hp96
        refine ⟨_, rfl, ?_⟩
        obtain ⟨Kw3, Nw3, hO3, hKw3, hPl3⟩ := hW3.fr
        refine rl_v rfl rfl rfl (ov_assign rfl rfl) <| rl_nil <| run_inBlock <| run_seq <| run_region <| rl_v rfl rfl rfl (ov_loadW rfl Try.underlying69 rfl (by kernel_rfl) rfl hO3 2 rfl) ?_
        refine rl_v rfl rfl rfl (ov_move rfl rfl) <| rl_v rfl rfl rfl (ov_move rfl rfl) <| rl_v rfl rfl rfl (ov_eql rfl rfl rfl) <| rl_ow rfl (ow_storeW rfl rfl (by kernel_rfl) hO3 0 rfl rfl (by rfl) rfl (by rfl)) ?_
        rintro _ w97 ⟨rfl, hO98, hs99⟩
        refine rl_v rfl rfl rfl (ov_assign rfl rfl) <| rl_nil <| run_ret Try.func40 (resW2 Try.results40 rfl rfl Try.underlying69 rfl (by kernel_rfl) hO98 0 rfl) ?_
        exact ⟨K2, N2, by rw [step_a (show IntKind.u64.wrap kind % 16 < 15 by omega), act_1 (by omega)]; exact ret_true rfl, by rw [step_a (show IntKind.u64.wrap kind % 16 < 15 by omega), act_1 (by omega)]; exact (WAt.unfr (R := _ :: _ :: _ :: ((N2 ++ R) ++ Q)) hO98 hKw3 hPl3).drop.drop.drop, by rw [step_a (show IntKind.u64.wrap kind % 16 < 15 by omega), act_1 (by omega)]; exact hK2⟩
       ·refine run_seq <| run_region <| rl_v rfl rfl rfl (ov_eql rfl rfl rfl) <| rl_v rfl rfl rfl (ov_assign rfl rfl) <| rl_nil ?_
        first | refine run_cond_dec rfl (fun e7 => ?_) (fun n7 => ?_) | refine run_cond rfl (fun e7 => ?_) (fun n7 => ?_)
        ·refine run_seq <| run_region <| rl_v rfl rfl rfl (ov_loadW rfl Try.underlying69 rfl (by kernel_rfl) rfl hO8 2 rfl) ?_
         refine rl_v rfl rfl rfl (ov_fieldS rfl Try.underlying51 rfl (fo := 5) rfl (by kernel_rfl) rfl) ?_
         refine rl_v rfl rfl rfl (ov_load rfl Try.underlying3 rfl rfl (by exact hO8.cellL 1 rfl (off := 5) rfl)) ?_
         refine rl_call callable_64 rfl rfl rfl rfl rfl rfl (ref_call3 hO8 (fun H hO hN => rlose_any X K n B (N ++ R) H w0 w7 hG (by omega) hO hN hK)) (fun e100 w101 hp102 => ?_)
         obtain ⟨K2, N2, rfl, hO2, hK2⟩ := hp102
         refine ⟨_, rfl, ?_⟩
         refine rl_v rfl rfl rfl (ov_move rfl rfl) <| rl_v rfl rfl rfl (ov_extract rfl rfl (by rfl)) ?_
         refine rl_v rfl rfl rfl (ov_extract rfl rfl (by rfl)) ?_
         refine rl_ow rfl (ow_storeW rfl rfl (by kernel_rfl) hO2 2 rfl rfl (by rfl) rfl (by rfl)) ?_
         rintro _ w103 ⟨rfl, hO104, hs105⟩
         refine rl_v rfl rfl rfl (ov_assign rfl rfl) <| rl_nil <| run_region <| rl_v rfl rfl rfl (ov_move rfl rfl) <| rl_v rfl rfl rfl (ov_fieldS rfl Try.underlying51 rfl (fo := 5) rfl (by kernel_rfl) rfl) ?_
         refine rl_v rfl rfl rfl (ov_load rfl Try.underlying3 rfl rfl (by exact hO104.cellL 1 rfl (off := 5) rfl)) ?_
         refine rl_call callable_44 rfl rfl rfl rfl rfl rfl (loseC A X n B Pl _ w0 w103 hbl (WAt.unfr (R := _ :: _ :: _ :: ((N2 ++ R) ++ Q)) hO104 hKw hPl)) (fun e106 w107 hp108 => ?_)
         obtain ⟨rfl, hW3⟩ := hp108
         refine ⟨_, rfl, ?_⟩
         obtain ⟨Kw3, Nw3, hO3, hKw3, hPl3⟩ := hW3.fr
         refine rl_v rfl rfl rfl (ov_assign rfl rfl) <| rl_nil <| run_inBlock <| run_seq <| run_region <| rl_v rfl rfl rfl (ov_loadW rfl Try.underlying69 rfl (by kernel_rfl) rfl hO3 2 rfl) ?_
         refine rl_v rfl rfl rfl (ov_move rfl rfl) <| rl_v rfl rfl rfl (ov_move rfl rfl) <| rl_v rfl rfl rfl (ov_eql rfl rfl rfl) <| rl_ow rfl (ow_storeW rfl rfl (by kernel_rfl) hO3 0 rfl rfl (by rfl) rfl (by rfl)) ?_
         rintro _ w109 ⟨rfl, hO110, hs111⟩
         refine rl_v rfl rfl rfl (ov_assign rfl rfl) <| rl_nil <| run_ret Try.func40 (resW2 Try.results40 rfl rfl Try.underlying69 rfl (by kernel_rfl) hO110 0 rfl) ?_
         exact ⟨K2, N2, by rw [step_a (show IntKind.u64.wrap kind % 16 < 15 by omega), act_2 (by omega)]; exact ret_true rfl, by rw [step_a (show IntKind.u64.wrap kind % 16 < 15 by omega), act_2 (by omega)]; exact (WAt.unfr (R := _ :: _ :: _ :: ((N2 ++ R) ++ Q)) hO110 hKw3 hPl3).drop.drop.drop, by rw [step_a (show IntKind.u64.wrap kind % 16 < 15 by omega), act_2 (by omega)]; exact hK2⟩
        ·refine run_seq <| run_region <| rl_v rfl rfl rfl (ov_eql rfl rfl rfl) <| rl_v rfl rfl rfl (ov_assign rfl rfl) <| rl_nil ?_
         first | refine run_cond_dec rfl (fun e8 => ?_) (fun n8 => ?_) | refine run_cond rfl (fun e8 => ?_) (fun n8 => ?_)
         ·refine run_seq <| run_region <| rl_v rfl rfl rfl (ov_loadW rfl Try.underlying69 rfl (by kernel_rfl) rfl hO8 2 rfl) ?_
          refine rl_v rfl rfl rfl (ov_fieldS rfl Try.underlying51 rfl (fo := 5) rfl (by kernel_rfl) rfl) ?_
          refine rl_v rfl rfl rfl (ov_load rfl Try.underlying3 rfl rfl (by exact hO8.cellL 1 rfl (off := 5) rfl)) ?_
          refine rl_call callable_65 rfl rfl rfl rfl rfl rfl (ref_call3 hO8 (fun H hO hN => rcopy_any X K n B (N ++ R) H w0 w7 hG (by omega) hO hN hK)) (fun e112 w113 hp114 => ?_)
          obtain ⟨K2, N2, rfl, hO2, hK2⟩ := hp114
          refine ⟨_, rfl, ?_⟩
          refine rl_v rfl rfl rfl (ov_move rfl rfl) <| rl_v rfl rfl rfl (ov_extract rfl rfl (by rfl)) ?_
          refine rl_v rfl rfl rfl (ov_extract rfl rfl (by rfl)) ?_
          refine rl_ow rfl (ow_storeW rfl rfl (by kernel_rfl) hO2 2 rfl rfl (by rfl) rfl (by rfl)) ?_
          rintro _ w115 ⟨rfl, hO116, hs117⟩
          refine rl_v rfl rfl rfl (ov_assign rfl rfl) <| rl_nil <| run_region <| rl_v rfl rfl rfl (ov_move rfl rfl) <| rl_v rfl rfl rfl (ov_fieldS rfl Try.underlying51 rfl (fo := 5) rfl (by kernel_rfl) rfl) ?_
          refine rl_v rfl rfl rfl (ov_load rfl Try.underlying3 rfl rfl (by exact hO116.cellL 1 rfl (off := 5) rfl)) ?_
          refine rl_call callable_45 rfl rfl rfl rfl rfl rfl (copyC A X n B Pl _ w0 w115 hbl (WAt.unfr (R := _ :: _ :: _ :: ((N2 ++ R) ++ Q)) hO116 hKw hPl)) (fun e118 w119 hp120 => ?_)
          obtain ⟨rfl, hW3⟩ := hp120
          refine ⟨_, rfl, ?_⟩
          obtain ⟨Kw3, Nw3, hO3, hKw3, hPl3⟩ := hW3.fr
          refine rl_v rfl rfl rfl (ov_assign rfl rfl) <| rl_nil <| run_inBlock <| run_seq <| run_region <| rl_v rfl rfl rfl (ov_loadW rfl Try.underlying69 rfl (by kernel_rfl) rfl hO3 2 rfl) ?_
          refine rl_v rfl rfl rfl (ov_move rfl rfl) <| rl_v rfl rfl rfl (ov_move rfl rfl) <| rl_v rfl rfl rfl (ov_eql rfl rfl rfl) <| rl_ow rfl (ow_storeW rfl rfl (by kernel_rfl) hO3 0 rfl rfl (by rfl) rfl (by rfl)) ?_
          rintro _ w121 ⟨rfl, hO122, hs123⟩
          refine rl_v rfl rfl rfl (ov_assign rfl rfl) <| rl_nil <| run_ret Try.func40 (resW2 Try.results40 rfl rfl Try.underlying69 rfl (by kernel_rfl) hO122 0 rfl) ?_
          exact ⟨K2, N2, by rw [step_a (show IntKind.u64.wrap kind % 16 < 15 by omega), act_3 (by omega)]; exact ret_true rfl, by rw [step_a (show IntKind.u64.wrap kind % 16 < 15 by omega), act_3 (by omega)]; exact (WAt.unfr (R := _ :: _ :: _ :: ((N2 ++ R) ++ Q)) hO122 hKw3 hPl3).drop.drop.drop, by rw [step_a (show IntKind.u64.wrap kind % 16 < 15 by omega), act_3 (by omega)]; exact hK2⟩
         ·refine run_seq <| run_seq <| run_region <| rl_v rfl rfl rfl (ov_eql rfl rfl rfl) <| rl_v rfl rfl rfl (ov_assign rfl rfl) <| rl_nil ?_
          first | refine run_cond_dec rfl (fun e9 => ?_) (fun n9 => ?_) | refine run_cond rfl (fun e9 => ?_) (fun n9 => ?_)
          ·refine run_skip ?_
           first | refine run_cond_dec rfl (fun qq => ?_) (fun qn => ?_) | refine run_cond rfl (fun qq => ?_) (fun qn => ?_)
           ·refine run_seq <| run_region <| rl_v rfl rfl rfl (ov_loadW rfl Try.underlying69 rfl (by kernel_rfl) rfl hO8 2 rfl) ?_
            refine rl_v rfl rfl rfl (ov_fieldS rfl Try.underlying51 rfl (fo := 5) rfl (by kernel_rfl) rfl) ?_
            refine rl_v rfl rfl rfl (ov_load rfl Try.underlying3 rfl rfl (by exact hO8.cellL 1 rfl (off := 5) rfl)) ?_
            refine rl_call callable_66 rfl rfl rfl rfl rfl rfl (ref_call3 hO8 (fun H hO hN => rTick_any X K n B (N ++ R) H w0 w7 hG hL (by omega) hO hN hK)) (fun e124 w125 hp126 => ?_)
            obtain ⟨K2, N2, rfl, hO2, hK2⟩ := hp126
            refine ⟨_, rfl, ?_⟩
            refine rl_v rfl rfl rfl (ov_move rfl rfl) <| rl_v rfl rfl rfl (ov_extract rfl rfl (by rfl)) ?_
            refine rl_v rfl rfl rfl (ov_extract rfl rfl (by rfl)) ?_
            refine rl_ow rfl (ow_storeW rfl rfl (by kernel_rfl) hO2 2 rfl rfl (by rfl) rfl (by rfl)) ?_
            rintro _ w127 ⟨rfl, hO128, hs129⟩
            refine rl_v rfl rfl rfl (ov_assign rfl rfl) <| rl_nil <| run_region <| rl_v rfl rfl rfl (ov_move rfl rfl) <| rl_v rfl rfl rfl (ov_fieldS rfl Try.underlying51 rfl (fo := 5) rfl (by kernel_rfl) rfl) ?_
            refine rl_v rfl rfl rfl (ov_load rfl Try.underlying3 rfl rfl (by exact hO128.cellL 1 rfl (off := 5) rfl)) ?_
            refine rl_call callable_31 rfl rfl rfl rfl rfl rfl (tickC A X n B Pl _ w0 w127 hG hbl (WAt.unfr (R := _ :: _ :: _ :: ((N2 ++ R) ++ Q)) hO128 hKw hPl)) (fun e130 w131 hp132 => ?_)
            obtain ⟨rfl, hW3⟩ := hp132
            refine ⟨_, rfl, ?_⟩
            obtain ⟨Kw3, Nw3, hO3, hKw3, hPl3⟩ := hW3.fr
            refine rl_v rfl rfl rfl (ov_assign rfl rfl) <| rl_nil <| run_inBlock <| run_seq <| run_region <| rl_v rfl rfl rfl (ov_loadW rfl Try.underlying69 rfl (by kernel_rfl) rfl hO3 2 rfl) ?_
            refine rl_v rfl rfl rfl (ov_move rfl rfl) <| rl_v rfl rfl rfl (ov_move rfl rfl) <| rl_v rfl rfl rfl (ov_eql rfl rfl rfl) <| rl_ow rfl (ow_storeW rfl rfl (by kernel_rfl) hO3 0 rfl rfl (by rfl) rfl (by rfl)) ?_
            rintro _ w133 ⟨rfl, hO134, hs135⟩
            refine rl_v rfl rfl rfl (ov_assign rfl rfl) <| rl_nil <| run_ret Try.func40 (resW2 Try.results40 rfl rfl Try.underlying69 rfl (by kernel_rfl) hO134 0 rfl) ?_
            exact ⟨K2, N2, by rw [step_a (show IntKind.u64.wrap kind % 16 < 15 by omega), act_4 (by omega)]; exact ret_true rfl, by rw [step_a (show IntKind.u64.wrap kind % 16 < 15 by omega), act_4 (by omega)]; exact (WAt.unfr (R := _ :: _ :: _ :: ((N2 ++ R) ++ Q)) hO134 hKw3 hPl3).drop.drop.drop, by rw [step_a (show IntKind.u64.wrap kind % 16 < 15 by omega), act_4 (by omega)]; exact hK2⟩
           ·exfalso; omega
          ·refine run_region <| rl_v rfl rfl rfl (ov_eql rfl rfl rfl) <| rl_v rfl rfl rfl (ov_assign rfl rfl) <| rl_nil ?_
           first | refine run_cond_dec rfl (fun e10 => ?_) (fun n10 => ?_) | refine run_cond rfl (fun e10 => ?_) (fun n10 => ?_)
           ·refine run_seq <| run_region <| rl_v rfl rfl rfl (ov_loadW rfl Try.underlying69 rfl (by kernel_rfl) rfl hO8 2 rfl) ?_
            refine rl_v rfl rfl rfl (ov_fieldS rfl Try.underlying51 rfl (fo := 5) rfl (by kernel_rfl) rfl) ?_
            refine rl_v rfl rfl rfl (ov_load rfl Try.underlying3 rfl rfl (by exact hO8.cellL 1 rfl (off := 5) rfl)) ?_
            refine rl_call callable_66 rfl rfl rfl rfl rfl rfl (ref_call3 hO8 (fun H hO hN => rTick_any X K n B (N ++ R) H w0 w7 hG hL (by omega) hO hN hK)) (fun e136 w137 hp138 => ?_)
            obtain ⟨K2, N2, rfl, hO2, hK2⟩ := hp138
            refine ⟨_, rfl, ?_⟩
            refine rl_v rfl rfl rfl (ov_move rfl rfl) <| rl_v rfl rfl rfl (ov_extract rfl rfl (by rfl)) ?_
            refine rl_v rfl rfl rfl (ov_extract rfl rfl (by rfl)) ?_
            refine rl_ow rfl (ow_storeW rfl rfl (by kernel_rfl) hO2 2 rfl rfl (by rfl) rfl (by rfl)) ?_
            rintro _ w139 ⟨rfl, hO140, hs141⟩
            refine rl_v rfl rfl rfl (ov_assign rfl rfl) <| rl_nil <| run_region <| rl_v rfl rfl rfl (ov_move rfl rfl) <| rl_v rfl rfl rfl (ov_fieldS rfl Try.underlying51 rfl (fo := 5) rfl (by kernel_rfl) rfl) ?_
            refine rl_v rfl rfl rfl (ov_load rfl Try.underlying3 rfl rfl (by exact hO140.cellL 1 rfl (off := 5) rfl)) ?_
            refine rl_call callable_31 rfl rfl rfl rfl rfl rfl (tickC A X n B Pl _ w0 w139 hG hbl (WAt.unfr (R := _ :: _ :: _ :: ((N2 ++ R) ++ Q)) hO140 hKw hPl)) (fun e142 w143 hp144 => ?_)
            obtain ⟨rfl, hW3⟩ := hp144
            refine ⟨_, rfl, ?_⟩
            obtain ⟨Kw3, Nw3, hO3, hKw3, hPl3⟩ := hW3.fr
            refine rl_v rfl rfl rfl (ov_assign rfl rfl) <| rl_nil <| run_inBlock <| run_seq <| run_region <| rl_v rfl rfl rfl (ov_loadW rfl Try.underlying69 rfl (by kernel_rfl) rfl hO3 2 rfl) ?_
            refine rl_v rfl rfl rfl (ov_move rfl rfl) <| rl_v rfl rfl rfl (ov_move rfl rfl) <| rl_v rfl rfl rfl (ov_eql rfl rfl rfl) <| rl_ow rfl (ow_storeW rfl rfl (by kernel_rfl) hO3 0 rfl rfl (by rfl) rfl (by rfl)) ?_
            rintro _ w145 ⟨rfl, hO146, hs147⟩
            refine rl_v rfl rfl rfl (ov_assign rfl rfl) <| rl_nil <| run_ret Try.func40 (resW2 Try.results40 rfl rfl Try.underlying69 rfl (by kernel_rfl) hO146 0 rfl) ?_
            exact ⟨K2, N2, by rw [step_a (show IntKind.u64.wrap kind % 16 < 15 by omega), act_4 (by omega)]; exact ret_true rfl, by rw [step_a (show IntKind.u64.wrap kind % 16 < 15 by omega), act_4 (by omega)]; exact (WAt.unfr (R := _ :: _ :: _ :: ((N2 ++ R) ++ Q)) hO146 hKw3 hPl3).drop.drop.drop, by rw [step_a (show IntKind.u64.wrap kind % 16 < 15 by omega), act_4 (by omega)]; exact hK2⟩
           ·refine run_seq <| run_region <| rl_v rfl rfl rfl (ov_eql rfl rfl rfl) <| rl_v rfl rfl rfl (ov_assign rfl rfl) <| rl_nil ?_
            first | refine run_cond_dec rfl (fun e11 => ?_) (fun n11 => ?_) | refine run_cond rfl (fun e11 => ?_) (fun n11 => ?_)
            ·refine run_seq <| run_region <| rl_v rfl rfl rfl (ov_loadW rfl Try.underlying69 rfl (by kernel_rfl) rfl hO8 2 rfl) ?_
             refine rl_v rfl rfl rfl (ov_fieldS rfl Try.underlying51 rfl (fo := 5) rfl (by kernel_rfl) rfl) ?_
             refine rl_v rfl rfl rfl (ov_load rfl Try.underlying3 rfl rfl (by exact hO8.cellL 1 rfl (off := 5) rfl)) ?_
             refine rl_v rfl rfl rfl (ov_fieldS rfl Try.underlying51 rfl (fo := 6) rfl (by kernel_rfl) rfl) ?_
             refine rl_v rfl rfl rfl (ov_load rfl Try.underlying3 rfl rfl (by exact hO8.cellL 1 rfl (off := 6) rfl)) ?_
             refine rl_call callable_67 rfl rfl rfl rfl rfl rfl (ref_call3 hO8 (fun H hO hN => rcrash_any X K n kept B (N ++ R) H w0 w7 hG hk (by omega) hO hN hK)) (fun e148 w149 hp150 => ?_)
             obtain ⟨K2, N2, rfl, hO2, hK2⟩ := hp150
             refine ⟨_, rfl, ?_⟩
             refine rl_v rfl rfl rfl (ov_move rfl rfl) <| rl_v rfl rfl rfl (ov_extract rfl rfl (by rfl)) ?_
             refine rl_v rfl rfl rfl (ov_extract rfl rfl (by rfl)) ?_
             refine rl_ow rfl (ow_storeW rfl rfl (by kernel_rfl) hO2 2 rfl rfl (by rfl) rfl (by rfl)) ?_
             rintro _ w151 ⟨rfl, hO152, hs153⟩
             refine rl_v rfl rfl rfl (ov_assign rfl rfl) <| rl_nil <| run_region <| rl_v rfl rfl rfl (ov_move rfl rfl) <| rl_v rfl rfl rfl (ov_fieldS rfl Try.underlying51 rfl (fo := 5) rfl (by kernel_rfl) rfl) ?_
             refine rl_v rfl rfl rfl (ov_load rfl Try.underlying3 rfl rfl (by exact hO152.cellL 1 rfl (off := 5) rfl)) ?_
             refine rl_v rfl rfl rfl (ov_fieldS rfl Try.underlying51 rfl (fo := 6) rfl (by kernel_rfl) rfl) ?_
             refine rl_v rfl rfl rfl (ov_load rfl Try.underlying3 rfl rfl (by exact hO152.cellL 1 rfl (off := 6) rfl)) ?_
             refine rl_call callable_29 rfl rfl rfl rfl rfl rfl (crashC A X n kept B Pl _ w0 w151 hk hG (WAt.unfr (R := _ :: _ :: _ :: ((N2 ++ R) ++ Q)) hO152 hKw hPl)) (fun e154 w155 hp156 => ?_)
             obtain ⟨rfl, hW3⟩ := hp156
             refine ⟨_, rfl, ?_⟩
             obtain ⟨Kw3, Nw3, hO3, hKw3, hPl3⟩ := hW3.fr
             refine rl_v rfl rfl rfl (ov_assign rfl rfl) <| rl_nil <| run_inBlock <| run_seq <| run_region <| rl_v rfl rfl rfl (ov_loadW rfl Try.underlying69 rfl (by kernel_rfl) rfl hO3 2 rfl) ?_
             refine rl_v rfl rfl rfl (ov_move rfl rfl) <| rl_v rfl rfl rfl (ov_move rfl rfl) <| rl_v rfl rfl rfl (ov_eql rfl rfl rfl) <| rl_ow rfl (ow_storeW rfl rfl (by kernel_rfl) hO3 0 rfl rfl (by rfl) rfl (by rfl)) ?_
             rintro _ w157 ⟨rfl, hO158, hs159⟩
             refine rl_v rfl rfl rfl (ov_assign rfl rfl) <| rl_nil <| run_ret Try.func40 (resW2 Try.results40 rfl rfl Try.underlying69 rfl (by kernel_rfl) hO158 0 rfl) ?_
             exact ⟨K2, N2, by rw [step_a (show IntKind.u64.wrap kind % 16 < 15 by omega), act_5 (by omega)]; exact ret_true rfl, by rw [step_a (show IntKind.u64.wrap kind % 16 < 15 by omega), act_5 (by omega)]; exact (WAt.unfr (R := _ :: _ :: _ :: ((N2 ++ R) ++ Q)) hO158 hKw3 hPl3).drop.drop.drop, by rw [step_a (show IntKind.u64.wrap kind % 16 < 15 by omega), act_5 (by omega)]; exact hK2⟩
            ·refine run_seq <| run_seq <| run_region <| rl_v rfl rfl rfl (ov_eql rfl rfl rfl) <| rl_v rfl rfl rfl (ov_assign rfl rfl) <| rl_nil ?_
             first | refine run_cond_dec rfl (fun e12 => ?_) (fun n12 => ?_) | refine run_cond rfl (fun e12 => ?_) (fun n12 => ?_)
             ·refine run_skip ?_
              first | refine run_cond_dec rfl (fun qq => ?_) (fun qn => ?_) | refine run_cond rfl (fun qq => ?_) (fun qn => ?_)
              ·refine run_seq <| run_region <| rl_v rfl rfl rfl (ov_loadW rfl Try.underlying69 rfl (by kernel_rfl) rfl hO8 2 rfl) ?_
               refine rl_v rfl rfl rfl (ov_fieldS rfl Try.underlying51 rfl (fo := 5) rfl (by kernel_rfl) rfl) ?_
               refine rl_v rfl rfl rfl (ov_load rfl Try.underlying3 rfl rfl (by exact hO8.cellL 1 rfl (off := 5) rfl)) ?_
               refine rl_call callable_68 rfl rfl rfl rfl rfl rfl (ref_call3 hO8 (fun H hO hN => rrestart_any X K n B (N ++ R) H w0 w7 hG (by omega) hO hN hK)) (fun e160 w161 hp162 => ?_)
               obtain ⟨K2, N2, rfl, hO2, hK2⟩ := hp162
               refine ⟨_, rfl, ?_⟩
               refine rl_v rfl rfl rfl (ov_move rfl rfl) <| rl_v rfl rfl rfl (ov_extract rfl rfl (by rfl)) ?_
               refine rl_v rfl rfl rfl (ov_extract rfl rfl (by rfl)) ?_
               refine rl_ow rfl (ow_storeW rfl rfl (by kernel_rfl) hO2 2 rfl rfl (by rfl) rfl (by rfl)) ?_
               rintro _ w163 ⟨rfl, hO164, hs165⟩
               refine rl_v rfl rfl rfl (ov_assign rfl rfl) <| rl_nil <| run_region <| rl_v rfl rfl rfl (ov_move rfl rfl) <| rl_v rfl rfl rfl (ov_fieldS rfl Try.underlying51 rfl (fo := 5) rfl (by kernel_rfl) rfl) ?_
               refine rl_v rfl rfl rfl (ov_load rfl Try.underlying3 rfl rfl (by exact hO164.cellL 1 rfl (off := 5) rfl)) ?_
               refine rl_call callable_32 rfl rfl rfl rfl rfl rfl (restartC A X n B Pl _ w0 w163 hG (WAt.unfr (R := _ :: _ :: _ :: ((N2 ++ R) ++ Q)) hO164 hKw hPl)) (fun e166 w167 hp168 => ?_)
               obtain ⟨rfl, hW3⟩ := hp168
               refine ⟨_, rfl, ?_⟩
               obtain ⟨Kw3, Nw3, hO3, hKw3, hPl3⟩ := hW3.fr
               refine rl_v rfl rfl rfl (ov_assign rfl rfl) <| rl_nil <| run_inBlock <| run_seq <| run_region <| rl_v rfl rfl rfl (ov_loadW rfl Try.underlying69 rfl (by kernel_rfl) rfl hO3 2 rfl) ?_
               refine rl_v rfl rfl rfl (ov_move rfl rfl) <| rl_v rfl rfl rfl (ov_move rfl rfl) <| rl_v rfl rfl rfl (ov_eql rfl rfl rfl) <| rl_ow rfl (ow_storeW rfl rfl (by kernel_rfl) hO3 0 rfl rfl (by rfl) rfl (by rfl)) ?_
               rintro _ w169 ⟨rfl, hO170, hs171⟩
               refine rl_v rfl rfl rfl (ov_assign rfl rfl) <| rl_nil <| run_ret Try.func40 (resW2 Try.results40 rfl rfl Try.underlying69 rfl (by kernel_rfl) hO170 0 rfl) ?_
               exact ⟨K2, N2, by rw [step_a (show IntKind.u64.wrap kind % 16 < 15 by omega), act_6 (by omega)]; exact ret_true rfl, by rw [step_a (show IntKind.u64.wrap kind % 16 < 15 by omega), act_6 (by omega)]; exact (WAt.unfr (R := _ :: _ :: _ :: ((N2 ++ R) ++ Q)) hO170 hKw3 hPl3).drop.drop.drop, by rw [step_a (show IntKind.u64.wrap kind % 16 < 15 by omega), act_6 (by omega)]; exact hK2⟩
              ·exfalso; omega
             ·refine run_region <| rl_v rfl rfl rfl (ov_eql rfl rfl rfl) <| rl_v rfl rfl rfl (ov_assign rfl rfl) <| rl_nil ?_
              first | refine run_cond_dec rfl (fun e13 => ?_) (fun n13 => ?_) | refine run_cond rfl (fun e13 => ?_) (fun n13 => ?_)
              ·refine run_seq <| run_region <| rl_v rfl rfl rfl (ov_loadW rfl Try.underlying69 rfl (by kernel_rfl) rfl hO8 2 rfl) ?_
               refine rl_v rfl rfl rfl (ov_fieldS rfl Try.underlying51 rfl (fo := 5) rfl (by kernel_rfl) rfl) ?_
               refine rl_v rfl rfl rfl (ov_load rfl Try.underlying3 rfl rfl (by exact hO8.cellL 1 rfl (off := 5) rfl)) ?_
               refine rl_call callable_68 rfl rfl rfl rfl rfl rfl (ref_call3 hO8 (fun H hO hN => rrestart_any X K n B (N ++ R) H w0 w7 hG (by omega) hO hN hK)) (fun e172 w173 hp174 => ?_)
               obtain ⟨K2, N2, rfl, hO2, hK2⟩ := hp174
               refine ⟨_, rfl, ?_⟩
               refine rl_v rfl rfl rfl (ov_move rfl rfl) <| rl_v rfl rfl rfl (ov_extract rfl rfl (by rfl)) ?_
               refine rl_v rfl rfl rfl (ov_extract rfl rfl (by rfl)) ?_
               refine rl_ow rfl (ow_storeW rfl rfl (by kernel_rfl) hO2 2 rfl rfl (by rfl) rfl (by rfl)) ?_
               rintro _ w175 ⟨rfl, hO176, hs177⟩
               refine rl_v rfl rfl rfl (ov_assign rfl rfl) <| rl_nil <| run_region <| rl_v rfl rfl rfl (ov_move rfl rfl) <| rl_v rfl rfl rfl (ov_fieldS rfl Try.underlying51 rfl (fo := 5) rfl (by kernel_rfl) rfl) ?_
               refine rl_v rfl rfl rfl (ov_load rfl Try.underlying3 rfl rfl (by exact hO176.cellL 1 rfl (off := 5) rfl)) ?_
               refine rl_call callable_32 rfl rfl rfl rfl rfl rfl (restartC A X n B Pl _ w0 w175 hG (WAt.unfr (R := _ :: _ :: _ :: ((N2 ++ R) ++ Q)) hO176 hKw hPl)) (fun e178 w179 hp180 => ?_)
               obtain ⟨rfl, hW3⟩ := hp180
               refine ⟨_, rfl, ?_⟩
               obtain ⟨Kw3, Nw3, hO3, hKw3, hPl3⟩ := hW3.fr
               refine rl_v rfl rfl rfl (ov_assign rfl rfl) <| rl_nil <| run_inBlock <| run_seq <| run_region <| rl_v rfl rfl rfl (ov_loadW rfl Try.underlying69 rfl (by kernel_rfl) rfl hO3 2 rfl) ?_
               refine rl_v rfl rfl rfl (ov_move rfl rfl) <| rl_v rfl rfl rfl (ov_move rfl rfl) <| rl_v rfl rfl rfl (ov_eql rfl rfl rfl) <| rl_ow rfl (ow_storeW rfl rfl (by kernel_rfl) hO3 0 rfl rfl (by rfl) rfl (by rfl)) ?_
               rintro _ w181 ⟨rfl, hO182, hs183⟩
               refine rl_v rfl rfl rfl (ov_assign rfl rfl) <| rl_nil <| run_ret Try.func40 (resW2 Try.results40 rfl rfl Try.underlying69 rfl (by kernel_rfl) hO182 0 rfl) ?_
               exact ⟨K2, N2, by rw [step_a (show IntKind.u64.wrap kind % 16 < 15 by omega), act_6 (by omega)]; exact ret_true rfl, by rw [step_a (show IntKind.u64.wrap kind % 16 < 15 by omega), act_6 (by omega)]; exact (WAt.unfr (R := _ :: _ :: _ :: ((N2 ++ R) ++ Q)) hO182 hKw3 hPl3).drop.drop.drop, by rw [step_a (show IntKind.u64.wrap kind % 16 < 15 by omega), act_6 (by omega)]; exact hK2⟩
              ·refine run_seq <| run_region <| rl_v rfl rfl rfl (ov_eql rfl rfl rfl) <| rl_v rfl rfl rfl (ov_assign rfl rfl) <| rl_nil ?_
               first | refine run_cond_dec rfl (fun e14 => ?_) (fun n14 => ?_) | refine run_cond rfl (fun e14 => ?_) (fun n14 => ?_)
               ·refine run_seq <| run_region <| rl_v rfl rfl rfl (ov_loadW rfl Try.underlying69 rfl (by kernel_rfl) rfl hO8 2 rfl) ?_
                refine rl_v rfl rfl rfl (ov_fieldS rfl Try.underlying51 rfl (fo := 5) rfl (by kernel_rfl) rfl) ?_
                refine rl_v rfl rfl rfl (ov_load rfl Try.underlying3 rfl rfl (by exact hO8.cellL 1 rfl (off := 5) rfl)) ?_
                refine rl_v rfl rfl rfl (ov_fieldS rfl Try.underlying51 rfl (fo := 6) rfl (by kernel_rfl) rfl) ?_
                refine rl_v rfl rfl rfl (ov_load rfl Try.underlying3 rfl rfl (by exact hO8.cellL 1 rfl (off := 6) rfl)) ?_
                refine rl_call callable_69 rfl rfl rfl rfl rfl rfl (ref_call3 hO8 (fun H hO hN => rfuse_any X K n kept B (N ++ R) H w0 w7 hG (by omega) hO hN hK)) (fun e184 w185 hp186 => ?_)
                obtain ⟨K2, N2, rfl, hO2, hK2⟩ := hp186
                refine ⟨_, rfl, ?_⟩
                refine rl_v rfl rfl rfl (ov_move rfl rfl) <| rl_v rfl rfl rfl (ov_extract rfl rfl (by rfl)) ?_
                refine rl_v rfl rfl rfl (ov_extract rfl rfl (by rfl)) ?_
                refine rl_ow rfl (ow_storeW rfl rfl (by kernel_rfl) hO2 2 rfl rfl (by rfl) rfl (by rfl)) ?_
                rintro _ w187 ⟨rfl, hO188, hs189⟩
                refine rl_v rfl rfl rfl (ov_assign rfl rfl) <| rl_nil <| run_region <| rl_v rfl rfl rfl (ov_move rfl rfl) <| rl_v rfl rfl rfl (ov_fieldS rfl Try.underlying51 rfl (fo := 5) rfl (by kernel_rfl) rfl) ?_
                refine rl_v rfl rfl rfl (ov_load rfl Try.underlying3 rfl rfl (by exact hO188.cellL 1 rfl (off := 5) rfl)) ?_
                refine rl_v rfl rfl rfl (ov_fieldS rfl Try.underlying51 rfl (fo := 6) rfl (by kernel_rfl) rfl) ?_
                refine rl_v rfl rfl rfl (ov_load rfl Try.underlying3 rfl rfl (by exact hO188.cellL 1 rfl (off := 6) rfl)) ?_
                refine rl_call callable_42 rfl rfl rfl rfl rfl rfl (fuseC A X n kept B Pl _ w0 w187 (WAt.unfr (R := _ :: _ :: _ :: ((N2 ++ R) ++ Q)) hO188 hKw hPl)) (fun e190 w191 hp192 => ?_)
                obtain ⟨rfl, hW3⟩ := hp192
                refine ⟨_, rfl, ?_⟩
                obtain ⟨Kw3, Nw3, hO3, hKw3, hPl3⟩ := hW3.fr
                refine rl_v rfl rfl rfl (ov_assign rfl rfl) <| rl_nil <| run_inBlock <| run_seq <| run_region <| rl_v rfl rfl rfl (ov_loadW rfl Try.underlying69 rfl (by kernel_rfl) rfl hO3 2 rfl) ?_
                refine rl_v rfl rfl rfl (ov_move rfl rfl) <| rl_v rfl rfl rfl (ov_move rfl rfl) <| rl_v rfl rfl rfl (ov_eql rfl rfl rfl) <| rl_ow rfl (ow_storeW rfl rfl (by kernel_rfl) hO3 0 rfl rfl (by rfl) rfl (by rfl)) ?_
                rintro _ w193 ⟨rfl, hO194, hs195⟩
                refine rl_v rfl rfl rfl (ov_assign rfl rfl) <| rl_nil <| run_ret Try.func40 (resW2 Try.results40 rfl rfl Try.underlying69 rfl (by kernel_rfl) hO194 0 rfl) ?_
                exact ⟨K2, N2, by rw [step_a (show IntKind.u64.wrap kind % 16 < 15 by omega), act_7 (by omega)]; exact ret_true rfl, by rw [step_a (show IntKind.u64.wrap kind % 16 < 15 by omega), act_7 (by omega)]; exact (WAt.unfr (R := _ :: _ :: _ :: ((N2 ++ R) ++ Q)) hO194 hKw3 hPl3).drop.drop.drop, by rw [step_a (show IntKind.u64.wrap kind % 16 < 15 by omega), act_7 (by omega)]; exact hK2⟩
               ·refine run_seq <| run_region <| rl_v rfl rfl rfl (ov_fieldS rfl Try.underlying51 rfl (fo := 6) rfl (by kernel_rfl) rfl) ?_
                refine rl_v rfl rfl rfl (ov_load rfl Try.underlying3 rfl rfl (by exact hO8.cellL 1 rfl (off := 6) rfl)) ?_
                refine rl_v rfl rfl rfl (ov_assign rfl rfl) <| rl_nil <| run_seq <| run_seq <| run_region_join 32 (.bool (decide ((20 < kept ∧ kept ≤ 1000)))) [0, 4, 6, 15] (fun hk196 => ?_) ?_
                ·refine rl_v rfl rfl rfl (ov_move rfl rfl) <| rl_v rfl rfl rfl (ov_gtr rfl rfl rfl) <| rl_v rfl rfl rfl (ov_move rfl rfl) ?_
                 first | refine rl_split_dec 29 rfl (fun hg197 => ?_) (fun hg197 => ?_) | refine rl_split 29 rfl (fun hg197 => ?_) (fun hg197 => ?_)
                 ·refine rl_gv rfl rfl rfl rfl rfl (ov_move rfl rfl) <| rl_gv rfl rfl rfl rfl rfl (ov_leq rfl rfl rfl) <| rl_v rfl rfl rfl (ov_pick_t rfl rfl rfl) ?_
                  refine rl_nil (hk196 _ (jbd rfl (by omega)) (And.intro rfl (And.intro rfl (And.intro rfl (And.intro rfl trivial)))))
                 ·refine rl_gskip rfl rfl rfl rfl rfl rfl <| rl_gskip rfl rfl rfl rfl rfl rfl <| rl_v rfl rfl rfl (ov_pick_f rfl rfl rfl) ?_
                  refine rl_nil (hk196 _ (jbf rfl (by omega)) (And.intro rfl (And.intro rfl (And.intro rfl (And.intro rfl trivial)))))
                ·show Run _ _ _ _ [(32, _), (0, _), (4, _), (6, _), (15, _)] _ _
                 first | refine run_cond_dec rfl (fun hh => ?_) (fun hh => ?_) | refine run_cond rfl (fun hh => ?_) (fun hh => ?_)
                 ·refine run_region <| rl_v rfl rfl rfl (ov_move rfl rfl) <| rl_v rfl rfl rfl (ov_rem rfl rfl rfl (by omega) (by omega)) ?_
                  refine rl_v rfl rfl rfl (ov_assign rfl rfl) <| rl_nil <| run_seq <| run_region <| rl_v rfl rfl rfl (ov_loadW rfl Try.underlying69 rfl (by kernel_rfl) rfl hO8 2 rfl) ?_
                  refine rl_v rfl rfl rfl (ov_move rfl rfl) ?_
                  refine rl_call callable_70 rfl rfl rfl rfl rfl rfl (ref_call3 hO8 (fun H hO hN => rhealC X K (kept % 20) B (N ++ R) H w0 w7 hG hL hb hO hN hK)) (fun e198 w199 hp200 => ?_)
                  obtain ⟨K2, N2, rfl, hO2, hK2⟩ := hp200
                  refine ⟨_, rfl, ?_⟩
                  refine rl_v rfl rfl rfl (ov_move rfl rfl) <| rl_v rfl rfl rfl (ov_extract rfl rfl (by rfl)) ?_
                  refine rl_v rfl rfl rfl (ov_extract rfl rfl (by rfl)) ?_
                  refine rl_ow rfl (ow_alloc _ rfl rfl rfl zero_69 rfl hO2) ?_
                  rintro _ w201 ⟨b16, rfl, hO202, hs203⟩
                  refine rl_ow rfl (ow_storeW rfl rfl (by kernel_rfl) hO202 0 rfl rfl (by rfl) rfl (by rfl)) ?_
                  rintro _ w204 ⟨rfl, hO205, hs206⟩
                  refine rl_v rfl rfl rfl (ov_assign rfl rfl) <| rl_nil <| run_seq <| run_region <| rl_v rfl rfl rfl (ov_move rfl rfl) <| rl_v rfl rfl rfl (ov_move rfl rfl) ?_
                  refine rl_call callable_18 rfl rfl rfl rfl rfl rfl (healC A X (kept % 20) B Pl _ w0 w204 hG hb (WAt.unfr (R := _ :: _ :: _ :: _ :: ((N2 ++ R) ++ Q)) hO205 hKw hPl)) (fun e207 w208 hp209 => ?_)
                  obtain ⟨rfl, hW3⟩ := hp209
                  refine ⟨_, rfl, ?_⟩
                  obtain ⟨Kw3, Nw3, hO3, hKw3, hPl3⟩ := hW3.fr
                  refine rl_v rfl rfl rfl (ov_move rfl rfl) <| rl_v rfl rfl rfl (ov_extract rfl rfl (by rfl)) ?_
                  refine rl_v rfl rfl rfl (ov_extract rfl rfl (by rfl)) ?_
                  refine rl_v rfl rfl rfl (ov_assign rfl rfl) <| rl_v rfl rfl rfl (ov_assign rfl rfl) <| rl_nil <| run_seq <| run_region <| rl_v rfl rfl rfl (ov_assign rfl rfl) <| rl_nil <| run_seq <| run_seq <| run_region <| rl_v rfl rfl rfl (ov_move rfl rfl) <| rl_v rfl rfl rfl (ov_eql rfl rfl rfl) <| rl_nil ?_
                  first | refine run_cond_dec rfl (fun f1 => ?_) (fun f2 => ?_) | refine run_cond rfl (fun f1 => ?_) (fun f2 => ?_)
                  ·refine run_region <| rl_v rfl rfl rfl (ov_fieldS rfl Try.underlying69 rfl (fo := 6) rfl (by kernel_rfl) rfl) ?_
                   refine rl_v rfl rfl rfl (ov_load rfl Try.underlying63 rfl rfl (by exact hO3.cellL 0 rfl rfl)) ?_
                   refine rl_v rfl rfl rfl (ov_len rfl Try.underlying63 rfl) <| rl_v rfl rfl rfl (ov_assign rfl rfl) <| rl_nil <| run_seq <| run_region <| rl_v rfl rfl rfl (ov_loadW rfl Try.underlying69 rfl (by kernel_rfl) rfl hO3 0 rfl) ?_
                   refine rl_v rfl rfl rfl (ov_move rfl rfl) <| rl_v rfl rfl rfl (ov_move rfl rfl) <| rl_v rfl rfl rfl (ov_eql rfl rfl rfl) <| rl_v rfl rfl rfl (ov_move rfl rfl) ?_
                   first | refine rl_yesD 56 rfl (rfl) ?_ | refine rl_yes 56 rfl (rfl) ?_
                   refine rl_gv rfl rfl rfl rfl rfl (ov_move rfl rfl) <| rl_gv rfl rfl rfl rfl rfl (ov_move rfl rfl) <| rl_gv rfl rfl rfl rfl rfl (ov_eql rfl rfl rfl) <| rl_v rfl rfl rfl (ov_pick_t rfl rfl rfl) <| rl_ow rfl (ow_storeW rfl rfl (by kernel_rfl) hO3 1 rfl rfl (by rfl) rfl (by rfl)) ?_
                   rintro _ w210 ⟨rfl, hO211, hs212⟩
                   refine rl_v rfl rfl rfl (ov_assign rfl rfl) <| rl_nil <| run_ret Try.func40 (resW2 Try.results40 rfl rfl Try.underlying69 rfl (by kernel_rfl) hO211 1 rfl) ?_
                   exact ⟨K2, N2, by rw [step_h (show ¬ IntKind.u64.wrap kind % 16 < 15 by omega), healN_t hh]; exact ret_true (hl_t f1), by rw [step_h (show ¬ IntKind.u64.wrap kind % 16 < 15 by omega), healN_t hh]; exact (WAt.unfr (R := _ :: _ :: _ :: _ :: ((N2 ++ R) ++ Q)) hO211 hKw3 hPl3).drop.drop.drop.drop, by rw [step_h (show ¬ IntKind.u64.wrap kind % 16 < 15 by omega), healN_t hh]; exact hK2⟩
                  ·refine run_skip <| run_seq <| run_region <| rl_v rfl rfl rfl (ov_loadW rfl Try.underlying69 rfl (by kernel_rfl) rfl hO3 0 rfl) ?_
                   refine rl_v rfl rfl rfl (ov_move rfl rfl) <| rl_v rfl rfl rfl (ov_move rfl rfl) <| rl_v rfl rfl rfl (ov_eql rfl rfl rfl) <| rl_v rfl rfl rfl (ov_move rfl rfl) ?_
                   first | refine rl_yesD 56 rfl (rfl) ?_ | refine rl_yes 56 rfl (rfl) ?_
                   refine rl_gv rfl rfl rfl rfl rfl (ov_move rfl rfl) <| rl_gv rfl rfl rfl rfl rfl (ov_move rfl rfl) <| rl_gv rfl rfl rfl rfl rfl (ov_eql rfl rfl rfl) <| rl_v rfl rfl rfl (ov_pick_t rfl rfl rfl) <| rl_ow rfl (ow_storeW rfl rfl (by kernel_rfl) hO3 1 rfl rfl (by rfl) rfl (by rfl)) ?_
                   rintro _ w213 ⟨rfl, hO214, hs215⟩
                   refine rl_v rfl rfl rfl (ov_assign rfl rfl) <| rl_nil <| run_ret Try.func40 (resW2 Try.results40 rfl rfl Try.underlying69 rfl (by kernel_rfl) hO214 1 rfl) ?_
                   exact ⟨K2, N2, by rw [step_h (show ¬ IntKind.u64.wrap kind % 16 < 15 by omega), healN_t hh]; exact ret_true (hl_f f2), by rw [step_h (show ¬ IntKind.u64.wrap kind % 16 < 15 by omega), healN_t hh]; exact (WAt.unfr (R := _ :: _ :: _ :: _ :: ((N2 ++ R) ++ Q)) hO214 hKw3 hPl3).drop.drop.drop.drop, by rw [step_h (show ¬ IntKind.u64.wrap kind % 16 < 15 by omega), healN_t hh]; exact hK2⟩
                 ·refine run_skip <| run_seq <| run_region <| rl_v rfl rfl rfl (ov_loadW rfl Try.underlying69 rfl (by kernel_rfl) rfl hO8 2 rfl) ?_
                  refine rl_v rfl rfl rfl (ov_move rfl rfl) ?_
                  refine rl_call callable_70 rfl rfl rfl rfl rfl rfl (ref_call3 hO8 (fun H hO hN => rhealC X K (kept) B (N ++ R) H w0 w7 hG hL hb hO hN hK)) (fun e216 w217 hp218 => ?_)
                  obtain ⟨K2, N2, rfl, hO2, hK2⟩ := hp218
                  refine ⟨_, rfl, ?_⟩
                  refine rl_v rfl rfl rfl (ov_move rfl rfl) <| rl_v rfl rfl rfl (ov_extract rfl rfl (by rfl)) ?_
                  refine rl_v rfl rfl rfl (ov_extract rfl rfl (by rfl)) ?_
                  refine rl_ow rfl (ow_alloc _ rfl rfl rfl zero_69 rfl hO2) ?_
                  rintro _ w219 ⟨b16, rfl, hO220, hs221⟩
                  refine rl_ow rfl (ow_storeW rfl rfl (by kernel_rfl) hO220 0 rfl rfl (by rfl) rfl (by rfl)) ?_
                  rintro _ w222 ⟨rfl, hO223, hs224⟩
                  refine rl_v rfl rfl rfl (ov_assign rfl rfl) <| rl_nil <| run_seq <| run_region <| rl_v rfl rfl rfl (ov_move rfl rfl) <| rl_v rfl rfl rfl (ov_move rfl rfl) ?_
                  refine rl_call callable_18 rfl rfl rfl rfl rfl rfl (healC A X (kept) B Pl _ w0 w222 hG hb (WAt.unfr (R := _ :: _ :: _ :: _ :: ((N2 ++ R) ++ Q)) hO223 hKw hPl)) (fun e225 w226 hp227 => ?_)
                  obtain ⟨rfl, hW3⟩ := hp227
                  refine ⟨_, rfl, ?_⟩
                  obtain ⟨Kw3, Nw3, hO3, hKw3, hPl3⟩ := hW3.fr
                  refine rl_v rfl rfl rfl (ov_move rfl rfl) <| rl_v rfl rfl rfl (ov_extract rfl rfl (by rfl)) ?_
                  refine rl_v rfl rfl rfl (ov_extract rfl rfl (by rfl)) ?_
                  refine rl_v rfl rfl rfl (ov_assign rfl rfl) <| rl_v rfl rfl rfl (ov_assign rfl rfl) <| rl_nil <| run_seq <| run_region <| rl_v rfl rfl rfl (ov_assign rfl rfl) <| rl_nil <| run_seq <| run_seq <| run_region <| rl_v rfl rfl rfl (ov_move rfl rfl) <| rl_v rfl rfl rfl (ov_eql rfl rfl rfl) <| rl_nil ?_
                  first | refine run_cond_dec rfl (fun f1 => ?_) (fun f2 => ?_) | refine run_cond rfl (fun f1 => ?_) (fun f2 => ?_)
                  ·refine run_region <| rl_v rfl rfl rfl (ov_fieldS rfl Try.underlying69 rfl (fo := 6) rfl (by kernel_rfl) rfl) ?_
                   refine rl_v rfl rfl rfl (ov_load rfl Try.underlying63 rfl rfl (by exact hO3.cellL 0 rfl rfl)) ?_
                   refine rl_v rfl rfl rfl (ov_len rfl Try.underlying63 rfl) <| rl_v rfl rfl rfl (ov_assign rfl rfl) <| rl_nil <| run_seq <| run_region <| rl_v rfl rfl rfl (ov_loadW rfl Try.underlying69 rfl (by kernel_rfl) rfl hO3 0 rfl) ?_
                   refine rl_v rfl rfl rfl (ov_move rfl rfl) <| rl_v rfl rfl rfl (ov_move rfl rfl) <| rl_v rfl rfl rfl (ov_eql rfl rfl rfl) <| rl_v rfl rfl rfl (ov_move rfl rfl) ?_
                   first | refine rl_yesD 56 rfl (rfl) ?_ | refine rl_yes 56 rfl (rfl) ?_
                   refine rl_gv rfl rfl rfl rfl rfl (ov_move rfl rfl) <| rl_gv rfl rfl rfl rfl rfl (ov_move rfl rfl) <| rl_gv rfl rfl rfl rfl rfl (ov_eql rfl rfl rfl) <| rl_v rfl rfl rfl (ov_pick_t rfl rfl rfl) <| rl_ow rfl (ow_storeW rfl rfl (by kernel_rfl) hO3 1 rfl rfl (by rfl) rfl (by rfl)) ?_
                   rintro _ w228 ⟨rfl, hO229, hs230⟩
                   refine rl_v rfl rfl rfl (ov_assign rfl rfl) <| rl_nil <| run_ret Try.func40 (resW2 Try.results40 rfl rfl Try.underlying69 rfl (by kernel_rfl) hO229 1 rfl) ?_
                   exact ⟨K2, N2, by rw [step_h (show ¬ IntKind.u64.wrap kind % 16 < 15 by omega), healN_f hh]; exact ret_true (hl_t f1), by rw [step_h (show ¬ IntKind.u64.wrap kind % 16 < 15 by omega), healN_f hh]; exact (WAt.unfr (R := _ :: _ :: _ :: _ :: ((N2 ++ R) ++ Q)) hO229 hKw3 hPl3).drop.drop.drop.drop, by rw [step_h (show ¬ IntKind.u64.wrap kind % 16 < 15 by omega), healN_f hh]; exact hK2⟩
                  ·refine run_skip <| run_seq <| run_region <| rl_v rfl rfl rfl (ov_loadW rfl Try.underlying69 rfl (by kernel_rfl) rfl hO3 0 rfl) ?_
                   refine rl_v rfl rfl rfl (ov_move rfl rfl) <| rl_v rfl rfl rfl (ov_move rfl rfl) <| rl_v rfl rfl rfl (ov_eql rfl rfl rfl) <| rl_v rfl rfl rfl (ov_move rfl rfl) ?_
                   first | refine rl_yesD 56 rfl (rfl) ?_ | refine rl_yes 56 rfl (rfl) ?_
                   refine rl_gv rfl rfl rfl rfl rfl (ov_move rfl rfl) <| rl_gv rfl rfl rfl rfl rfl (ov_move rfl rfl) <| rl_gv rfl rfl rfl rfl rfl (ov_eql rfl rfl rfl) <| rl_v rfl rfl rfl (ov_pick_t rfl rfl rfl) <| rl_ow rfl (ow_storeW rfl rfl (by kernel_rfl) hO3 1 rfl rfl (by rfl) rfl (by rfl)) ?_
                   rintro _ w231 ⟨rfl, hO232, hs233⟩
                   refine rl_v rfl rfl rfl (ov_assign rfl rfl) <| rl_nil <| run_ret Try.func40 (resW2 Try.results40 rfl rfl Try.underlying69 rfl (by kernel_rfl) hO232 1 rfl) ?_
                   exact ⟨K2, N2, by rw [step_h (show ¬ IntKind.u64.wrap kind % 16 < 15 by omega), healN_f hh]; exact ret_true (hl_f f2), by rw [step_h (show ¬ IntKind.u64.wrap kind % 16 < 15 by omega), healN_f hh]; exact (WAt.unfr (R := _ :: _ :: _ :: _ :: ((N2 ++ R) ++ Q)) hO232 hKw3 hPl3).drop.drop.drop.drop, by rw [step_h (show ¬ IntKind.u64.wrap kind % 16 < 15 by omega), healN_f hh]; exact hK2⟩
theorem do_at (P : List (Option Blk)) (A : WA) (X : MW) (K : RK) (kind : Int) (d : Dl) (n kept : Int) (B : Nat) (N Pl R : List (Option Blk)) (w0 w : World) (hk : kept ≤ 9223372036854775807) (hG : Good X) (hL : LInv X) (hb : phi X + 12000000 < 4000000000000) (hK : XIn (N ++ R) X K) (h : WAt B w0 w A X Pl (P ++ (N ++ R))) :
  Calls Try.prog 40 #[ptr A.W, rwv X K, .agg (actl kind d n kept).toArray] w fun e w' => ∃ K' N', e = .returned (.tuple #[rwv (X.step kind d n kept) K', .bool true]) ∧ WAt B w0 w' A (X.step kind d n kept) Pl (P ++ (N' ++ R)) ∧ XIn (N' ++ R) (X.step kind d n kept) K' :=
 (do_any A X K kind d n kept B N Pl R P w0 w hk hG hL hb hK (h.pm List.perm_append_comm)).mono fun e w' ⟨K', N', h1, h2, h3⟩ => ⟨K', N', h1, h2.pm List.perm_append_comm, h3⟩
end Go.Proofs.Yteagflekbbchhaa
