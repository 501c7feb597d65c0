import Derived.Test.YteagflekbbchhaaSfD
set_option maxRecDepth 100000
namespace Go.Proofs.Yteagflekbbchhaa
open Go.RowKit Go.Proofs
theorem mem_app2 {A : WA} {X : MW} {K : WC} {N R : List (Option Blk)} : ∀ x ∈ N, x ∈ K.M A X ++ (N ++ R) := fun _ hx => List.mem_append_right _ (List.mem_append_left _ hx)
theorem balances_any (A : WA) (X : MW) (n : Int) (B : Nat) (Pl R : List (Option Blk)) (w0 w : World) (hn : n = 1 ∨ n = 2) (hG : Good X) (h : WAt B w0 w A X Pl R) :
  Calls Try.prog 24 #[ptr A.W, iv n] w fun e w' => ∃ v c, e = .returned (.tuple #[v, iv 0]) ∧ IRow v 2 (X.fst n).length (fun i => iv (X.bal n i)) c ∧ WAt B w0 w' A X Pl (c :: R) := by
 obtain ⟨K, N, hO, hK, hPl⟩ := h
 obtain ⟨k, rv, fv, hk4, hk, hr, hv⟩ := hK.site A hn
 refine calls_of_run (F := [(0, _), (1, _)]) Try.func24 rfl Try.ntmps24 rfl rfl <| run_seq <| run_region <| rl_v rfl rfl rfl (ov_assign rfl rfl) <| rl_v rfl rfl rfl (ov_assign rfl rfl) <| rl_nil <| run_seq <| run_region <| rl_v rfl rfl rfl (ov_move rfl rfl) <| rl_v rfl rfl rfl (ov_move rfl rfl) ?_
 refine rl_call callable_51 rfl rfl rfl rfl rfl rfl (site_any A X K n 0 B _ w0 w hn hO rfl) (fun e1 w2 hp3 => ?_)
 obtain ⟨rfl, hOa⟩ := hp3
 refine ⟨_, rfl, ?_⟩
 refine rl_v rfl rfl rfl (ov_move rfl rfl) <| rl_v rfl rfl rfl (ov_extract rfl rfl (by rfl)) ?_
 refine rl_v rfl rfl rfl (ov_extract rfl rfl (by rfl)) ?_
 refine rl_v rfl rfl rfl (ov_assign rfl rfl) <| rl_v rfl rfl rfl (ov_assign rfl rfl) <| rl_nil <| run_seq <| run_seq <| run_region <| rl_v rfl rfl rfl (ov_move rfl rfl) <| rl_v rfl rfl rfl (ov_neq rfl rfl rfl) <| rl_nil ?_
 first | refine run_cond_dec rfl (fun g1 => ?_) (fun g1n => ?_) | refine run_cond rfl (fun g1 => ?_) (fun g1n => ?_)
 ·exfalso; exact g1 rfl
 ·refine run_skip <| run_seq <| run_region <| rl_v rfl rfl rfl (ov_move rfl rfl) ?_
  refine rl_call callable_52 rfl rfl rfl rfl rfl rfl (accounts_any A X K n rv fv k 0 B _ N w0 w2 hn hG hOa (hk _) rfl hK hr hv mem_app2) (fun e4 w5 hp6 => ?_)
  obtain ⟨v1, v2, c1, c2, rfl, hR1, hR2, hOb⟩ := hp6
  refine ⟨_, rfl, ?_⟩
  refine rl_v rfl rfl rfl (ov_move rfl rfl) <| rl_v rfl rfl rfl (ov_extract rfl rfl (by rfl)) ?_
  refine rl_v rfl rfl rfl (ov_extract rfl rfl (by rfl)) ?_
  refine rl_v rfl rfl rfl (ov_assign rfl rfl) <| rl_v rfl rfl rfl (ov_assign rfl rfl) <| rl_nil <| run_seq <| run_region <| rl_v rfl rfl rfl (ov_move rfl rfl) <| rl_v rfl rfl rfl (ov_assign rfl rfl) <| rl_v rfl rfl rfl (ov_assign rfl rfl) <| rl_nil <| run_ret Try.func24 (res2 Try.results24 rfl rfl) ?_
  exact ⟨v1, c1, rfl, hR1, WAt.push hOb.tail hK hPl⟩
theorem free_any (A : WA) (X : MW) (n : Int) (B : Nat) (Pl R : List (Option Blk)) (w0 w : World) (hn : n = 1 ∨ n = 2) (hG : Good X) (h : WAt B w0 w A X Pl R) :
  Calls Try.prog 16 #[ptr A.W, iv n] w fun e w' => ∃ v c, e = .returned (.tuple #[v, iv 0]) ∧ IRow v 2 (X.fst n).length (fun i => iv (X.free n i)) c ∧ WAt B w0 w' A X Pl (c :: R) := by
 obtain ⟨K, N, hO, hK, hPl⟩ := h
 obtain ⟨k, rv, fv, hk4, hk, hr, hv⟩ := hK.site A hn
 refine calls_of_run (F := [(0, _), (1, _)]) Try.func16 rfl Try.ntmps16 rfl rfl <| run_seq <| run_region <| rl_v rfl rfl rfl (ov_assign rfl rfl) <| rl_v rfl rfl rfl (ov_assign rfl rfl) <| rl_nil <| run_seq <| run_region <| rl_v rfl rfl rfl (ov_move rfl rfl) <| rl_v rfl rfl rfl (ov_move rfl rfl) ?_
 refine rl_call callable_51 rfl rfl rfl rfl rfl rfl (site_any A X K n 0 B _ w0 w hn hO rfl) (fun e1 w2 hp3 => ?_)
 obtain ⟨rfl, hOa⟩ := hp3
 refine ⟨_, rfl, ?_⟩
 refine rl_v rfl rfl rfl (ov_move rfl rfl) <| rl_v rfl rfl rfl (ov_extract rfl rfl (by rfl)) ?_
 refine rl_v rfl rfl rfl (ov_extract rfl rfl (by rfl)) ?_
 refine rl_v rfl rfl rfl (ov_assign rfl rfl) <| rl_v rfl rfl rfl (ov_assign rfl rfl) <| rl_nil <| run_seq <| run_seq <| run_region <| rl_v rfl rfl rfl (ov_move rfl rfl) <| rl_v rfl rfl rfl (ov_neq rfl rfl rfl) <| rl_nil ?_
 first | refine run_cond_dec rfl (fun g1 => ?_) (fun g1n => ?_) | refine run_cond rfl (fun g1 => ?_) (fun g1n => ?_)
 ·exfalso; exact g1 rfl
 ·refine run_skip <| run_seq <| run_region <| rl_v rfl rfl rfl (ov_move rfl rfl) ?_
  refine rl_call callable_52 rfl rfl rfl rfl rfl rfl (accounts_any A X K n rv fv k 0 B _ N w0 w2 hn hG hOa (hk _) rfl hK hr hv mem_app2) (fun e4 w5 hp6 => ?_)
  obtain ⟨v1, v2, c1, c2, rfl, hR1, hR2, hOb⟩ := hp6
  refine ⟨_, rfl, ?_⟩
  refine rl_v rfl rfl rfl (ov_move rfl rfl) <| rl_v rfl rfl rfl (ov_extract rfl rfl (by rfl)) ?_
  refine rl_v rfl rfl rfl (ov_extract rfl rfl (by rfl)) ?_
  refine rl_v rfl rfl rfl (ov_assign rfl rfl) <| rl_v rfl rfl rfl (ov_assign rfl rfl) <| rl_nil <| run_seq <| run_region <| rl_v rfl rfl rfl (ov_move rfl rfl) <| rl_v rfl rfl rfl (ov_assign rfl rfl) <| rl_v rfl rfl rfl (ov_assign rfl rfl) <| rl_nil <| run_ret Try.func16 (res2 Try.results16 rfl rfl) ?_
  exact ⟨v2, c2, rfl, hR2, WAt.push (hOb.sub (.cons_cons _ (.cons _ (.refl _)))) hK hPl⟩
theorem deals_any (A : WA) (X : MW) (B : Nat) (Pl R : List (Option Blk)) (w0 w : World) (hG : Good X) (h : WAt B w0 w A X Pl R) :
  Calls Try.prog 22 #[ptr A.W] w fun e w' => ∃ v c, e = .returned v ∧ SRow v 41 4 X.deals.length (cnt dll Dl.z X.deals) c ∧ WAt B w0 w' A X Pl (c :: R) := by
 have hdn := hG.dn
 obtain ⟨K, N, hO, hK, hPl⟩ := h
 obtain ⟨dao, dcap, hdv, hdc⟩ := hK.dv.val
 have hdr := hK.dv
 rw [hdv] at hdr
 have hsrc : Src (K.M A X ++ (N ++ R)) dao 4 X.deals.length (cnt dll Dl.z X.deals) := Src.of_prow hdr mem_app2
 refine calls_of_run (F := [(0, _)]) Try.func22 rfl Try.ntmps22 rfl rfl <| run_seq <| run_region <| rl_v rfl rfl rfl (ov_assign rfl rfl) <| rl_nil <| run_seq <| run_seq <| run_region <| rl_v rfl rfl rfl (ov_move rfl rfl) <| rl_v rfl rfl rfl (ov_ptrnil rfl Try.underlying27 rfl) <| rl_nil <| run_cond_f rfl <| run_skip <| run_seq <| run_region <| rl_v rfl rfl rfl (ov_move rfl rfl) <| rl_v rfl rfl rfl (ov_nil rfl rfl) <| rl_v rfl rfl rfl (ov_fieldS rfl Try.underlying97 rfl (fo := 4) rfl (by kernel_rfl) rfl) ?_
 refine rl_v rfl rfl rfl (ov_load rfl Try.underlying52 rfl rfl (by exact hO.cellL 0 rfl (off := 4) (congrArg some hdv))) ?_
 refine rl_call callable_57 rfl rfl rfl rfl rfl rfl (cloneD_any dao X.deals.length dcap B (cnt dll Dl.z X.deals) _ w0 w hO hsrc (fun _ _ _ => ⟨rfl, rfl⟩) (by omega)) (fun e1 w2 hp3 => ?_)
 obtain ⟨v, c, rfl, hR, hOb⟩ := hp3
 refine ⟨_, rfl, ?_⟩
 refine rl_v rfl rfl rfl (ov_assign rfl rfl) <| rl_nil <| run_ret Try.func22 (res1 Try.results22 rfl) ?_
 exact ⟨v, c, rfl, hR, WAt.push hOb hK hPl⟩
theorem bag_any (A : WA) (X : MW) (B : Nat) (Pl R : List (Option Blk)) (w0 w : World) (hb : X.bag.length ≤ 4000000000000) (h : WAt B w0 w A X Pl R) :
  Calls Try.prog 38 #[ptr A.W] w fun e w' => ∃ v c, e = .returned v ∧ SRow v 87 4 X.bag.length (cnt msl Ms.z X.bag) c ∧ WAt B w0 w' A X Pl (c :: R) := by
 obtain ⟨K, N, hO, hK, hPl⟩ := h
 obtain ⟨ao, cap, hbv, hcap, gb, hga, hrow⟩ := bagRow hK
 have hbg := hK.bv
 rw [hbv] at hbg
 have hsrc : Src (K.M A X ++ (N ++ R)) ao 4 X.bag.length (cnt msl Ms.z X.bag) := Src.of_row hbg (k := 5) rfl
 refine calls_of_run (F := [(0, _)]) Try.func38 rfl Try.ntmps38 rfl rfl <| run_seq <| run_region <| rl_v rfl rfl rfl (ov_assign rfl rfl) <| rl_nil <| run_seq <| run_seq <| run_region <| rl_v rfl rfl rfl (ov_move rfl rfl) <| rl_v rfl rfl rfl (ov_ptrnil rfl Try.underlying27 rfl) <| rl_nil <| run_cond_f rfl <| run_skip <| run_seq <| run_region <| rl_v rfl rfl rfl (ov_move rfl rfl) <| rl_v rfl rfl rfl (ov_nil rfl rfl) <| rl_v rfl rfl rfl (ov_fieldS rfl Try.underlying97 rfl (fo := 8) rfl (by kernel_rfl) rfl) ?_
 refine rl_v rfl rfl rfl (ov_load rfl Try.underlying79 rfl rfl (by exact hO.cellL 0 rfl (off := 8) (congrArg some hbv))) ?_
 refine rl_call callable_61 rfl rfl rfl rfl rfl rfl (cloneM_any ao X.bag.length cap B (cnt msl Ms.z X.bag) _ w0 w hO hsrc (fun _ _ _ => cnt_len) (by omega)) (fun e1 w2 hp3 => ?_)
 obtain ⟨v, c, rfl, hR, hOb⟩ := hp3
 refine ⟨_, rfl, ?_⟩
 refine rl_v rfl rfl rfl (ov_assign rfl rfl) <| rl_nil <| run_ret Try.func38 (res1 Try.results38 rfl) ?_
 exact ⟨v, c, rfl, hR, WAt.push hOb hK hPl⟩
theorem restart_none (A : WA) (X : MW) (n : Int) (B : Nat) (Pl R : List (Option Blk)) (w0 w : World) (hn : ¬ (n = 0 ∨ n = 1 ∨ n = 2)) (h : WAt B w0 w A X Pl R) :
  Calls Try.prog 32 #[ptr A.W, iv n] w fun e w' => e = .returned (iv 4) ∧ WAt B w0 w' A X Pl R := by
 obtain ⟨K, N, hO, hK, hPl⟩ := h
 refine calls_of_run (F := [(0, _), (1, _)]) Try.func32 rfl Try.ntmps32 rfl rfl <| run_seq <| run_region <| rl_v rfl rfl rfl (ov_assign rfl rfl) <| rl_nil <| run_seq <| run_region <| rl_v rfl rfl rfl (ov_move rfl rfl) <| rl_v rfl rfl rfl (ov_move rfl rfl) ?_
 refine rl_call callable_58 rfl rfl rfl rfl rfl rfl (node_none A.W n B _ w0 w hn hO) (fun e1 w2 hp3 => ?_)
 obtain ⟨rfl, hOa⟩ := hp3
 refine ⟨_, rfl, ?_⟩
 refine rl_v rfl rfl rfl (ov_move rfl rfl) <| rl_v rfl rfl rfl (ov_extract rfl rfl (by rfl)) ?_
 refine rl_v rfl rfl rfl (ov_extract rfl rfl (by rfl)) ?_
 refine rl_v rfl rfl rfl (ov_assign rfl rfl) <| rl_v rfl rfl rfl (ov_assign rfl rfl) <| rl_nil <| run_seq <| run_seq <| run_region <| rl_v rfl rfl rfl (ov_move rfl rfl) <| rl_v rfl rfl rfl (ov_neq rfl rfl rfl) <| rl_nil ?_
 first | refine run_cond_dec rfl (fun g1 => ?_) (fun g1n => ?_) | refine run_cond rfl (fun g1 => ?_) (fun g1n => ?_)
 ·refine run_seq <| run_region <| rl_v rfl rfl rfl (ov_move rfl rfl) <| rl_v rfl rfl rfl (ov_assign rfl rfl) <| rl_nil <| run_ret Try.func32 (res1 Try.results32 rfl) ?_
  exact ⟨rfl, K, N, hOa, hK, hPl⟩
 ·exfalso; exact absurd g1n (by decide)
theorem tick_none (A : WA) (X : MW) (n : Int) (B : Nat) (Pl R : List (Option Blk)) (w0 w : World) (hn : ¬ (n = 0 ∨ n = 1 ∨ n = 2)) (h : WAt B w0 w A X Pl R) :
  Calls Try.prog 31 #[ptr A.W, iv n] w fun e w' => e = .returned (iv 4) ∧ WAt B w0 w' A X Pl R := by
 obtain ⟨K, N, hO, hK, hPl⟩ := h
 refine calls_of_run (F := [(0, _), (1, _)]) Try.func31 rfl Try.ntmps31 rfl rfl <| run_seq <| run_region <| rl_v rfl rfl rfl (ov_assign rfl rfl) <| rl_nil <| run_seq <| run_region <| rl_v rfl rfl rfl (ov_move rfl rfl) <| rl_v rfl rfl rfl (ov_move rfl rfl) ?_
 refine rl_call callable_58 rfl rfl rfl rfl rfl rfl (node_none A.W n B _ w0 w hn hO) (fun e1 w2 hp3 => ?_)
 obtain ⟨rfl, hOa⟩ := hp3
 refine ⟨_, rfl, ?_⟩
 refine rl_v rfl rfl rfl (ov_move rfl rfl) <| rl_v rfl rfl rfl (ov_extract rfl rfl (by rfl)) ?_
 refine rl_v rfl rfl rfl (ov_extract rfl rfl (by rfl)) ?_
 refine rl_v rfl rfl rfl (ov_assign rfl rfl) <| rl_v rfl rfl rfl (ov_assign rfl rfl) <| rl_nil <| run_seq <| run_seq <| run_region <| rl_v rfl rfl rfl (ov_move rfl rfl) <| rl_v rfl rfl rfl (ov_neq rfl rfl rfl) <| rl_nil ?_
 first | refine run_cond_dec rfl (fun g1 => ?_) (fun g1n => ?_) | refine run_cond rfl (fun g1 => ?_) (fun g1n => ?_)
 ·refine run_seq <| run_region <| rl_v rfl rfl rfl (ov_move rfl rfl) <| rl_v rfl rfl rfl (ov_assign rfl rfl) <| rl_nil <| run_ret Try.func31 (res1 Try.results31 rfl) ?_
  exact ⟨rfl, K, N, hOa, hK, hPl⟩
 ·exfalso; exact absurd g1n (by decide)
theorem crash_none (A : WA) (X : MW) (n v : Int) (B : Nat) (Pl R : List (Option Blk)) (w0 w : World) (hn : ¬ (n = 0 ∨ n = 1 ∨ n = 2)) (h : WAt B w0 w A X Pl R) :
  Calls Try.prog 29 #[ptr A.W, iv n, iv v] w fun e w' => e = .returned (iv 4) ∧ WAt B w0 w' A X Pl R := by
 obtain ⟨K, N, hO, hK, hPl⟩ := h
 refine calls_of_run (F := [(0, _), (1, _), (2, _)]) Try.func29 rfl Try.ntmps29 rfl rfl <| run_seq <| run_region <| rl_v rfl rfl rfl (ov_assign rfl rfl) <| rl_nil <| run_seq <| run_region <| rl_v rfl rfl rfl (ov_move rfl rfl) <| rl_v rfl rfl rfl (ov_move rfl rfl) ?_
 refine rl_call callable_58 rfl rfl rfl rfl rfl rfl (node_none A.W n B _ w0 w hn hO) (fun e1 w2 hp3 => ?_)
 obtain ⟨rfl, hOa⟩ := hp3
 refine ⟨_, rfl, ?_⟩
 refine rl_v rfl rfl rfl (ov_move rfl rfl) <| rl_v rfl rfl rfl (ov_extract rfl rfl (by rfl)) ?_
 refine rl_v rfl rfl rfl (ov_extract rfl rfl (by rfl)) ?_
 refine rl_v rfl rfl rfl (ov_assign rfl rfl) <| rl_v rfl rfl rfl (ov_assign rfl rfl) <| rl_nil <| run_seq <| run_seq <| run_region <| rl_v rfl rfl rfl (ov_move rfl rfl) <| rl_v rfl rfl rfl (ov_neq rfl rfl rfl) <| rl_nil ?_
 first | refine run_cond_dec rfl (fun g1 => ?_) (fun g1n => ?_) | refine run_cond rfl (fun g1 => ?_) (fun g1n => ?_)
 ·refine run_seq <| run_region <| rl_v rfl rfl rfl (ov_move rfl rfl) <| rl_v rfl rfl rfl (ov_assign rfl rfl) <| rl_nil <| run_ret Try.func29 (res1 Try.results29 rfl) ?_
  exact ⟨rfl, K, N, hOa, hK, hPl⟩
 ·exfalso; exact absurd g1n (by decide)
theorem fuse_none (A : WA) (X : MW) (n v : Int) (B : Nat) (Pl R : List (Option Blk)) (w0 w : World) (hn : ¬ (n = 0 ∨ n = 1 ∨ n = 2)) (h : WAt B w0 w A X Pl R) :
  Calls Try.prog 42 #[ptr A.W, iv n, iv v] w fun e w' => e = .returned (iv 4) ∧ WAt B w0 w' A X Pl R := by
 obtain ⟨K, N, hO, hK, hPl⟩ := h
 refine calls_of_run (F := [(0, _), (1, _), (2, _)]) Try.func42 rfl Try.ntmps42 rfl rfl <| run_seq <| run_region <| rl_v rfl rfl rfl (ov_assign rfl rfl) <| rl_nil <| run_seq <| run_region <| rl_v rfl rfl rfl (ov_move rfl rfl) <| rl_v rfl rfl rfl (ov_move rfl rfl) ?_
 refine rl_call callable_58 rfl rfl rfl rfl rfl rfl (node_none A.W n B _ w0 w hn hO) (fun e1 w2 hp3 => ?_)
 obtain ⟨rfl, hOa⟩ := hp3
 refine ⟨_, rfl, ?_⟩
 refine rl_v rfl rfl rfl (ov_move rfl rfl) <| rl_v rfl rfl rfl (ov_extract rfl rfl (by rfl)) ?_
 refine rl_v rfl rfl rfl (ov_extract rfl rfl (by rfl)) ?_
 refine rl_v rfl rfl rfl (ov_assign rfl rfl) <| rl_v rfl rfl rfl (ov_assign rfl rfl) <| rl_nil <| run_seq <| run_seq <| run_region <| rl_v rfl rfl rfl (ov_move rfl rfl) <| rl_v rfl rfl rfl (ov_neq rfl rfl rfl) <| rl_nil ?_
 first | refine run_cond_dec rfl (fun g1 => ?_) (fun g1n => ?_) | refine run_cond rfl (fun g1 => ?_) (fun g1n => ?_)
 ·refine run_seq <| run_region <| rl_v rfl rfl rfl (ov_move rfl rfl) <| rl_v rfl rfl rfl (ov_assign rfl rfl) <| rl_nil <| run_ret Try.func42 (res1 Try.results42 rfl) ?_
  exact ⟨rfl, K, N, hOa, hK, hPl⟩
 ·exfalso; exact absurd g1n (by decide)
instance (n : Int) : Decidable (N3 n) := by unfold N3; exact inferInstance
def MW.act (X : MW) (kind : Int) (d : Dl) (n kept : Int) : MW :=
 let k := IntKind.u64.wrap kind % 16
 if k = 0 ∨ k = 1 then if bcode X d = 0 then X.begin d else X
 else if 2 ≤ k ∧ k ≤ 6 then if 0 ≤ n ∧ n < X.bag.length then X.deliver n.toNat else X
 else if k = 7 then if 0 ≤ n ∧ n < X.bag.length then X.dropAt n.toNat else X
 else if k = 8 then if 0 ≤ n ∧ n < X.bag.length ∧ X.bag.length ≤ 3000 then X.send (X.bag.getD n.toNat Ms.z) else X
 else if k = 9 ∨ k = 10 then if N3 n then X.tick0 n else X
 else if k = 11 then if N3 n ∧ 0 ≤ kept ∧ ¬ ((X.lg n).down = true ∧ (X.lg n).safe = (X.lg n).recs.length) then X.crash n kept else X
 else if k = 12 ∨ k = 13 then if N3 n then X.restart n else X
 else if k = 14 then if N3 n ∧ 0 ≤ kept then X.unfuse n (max kept 1) else X
 else X.heal (IntKind.i64.wrap (IntKind.u64.wrap kept % 20)).toNat
theorem act_0 {X : MW} {kind : Int} {d : Dl} {n kept : Int} (h : (IntKind.u64.wrap kind % 16) = 0 ∨ (IntKind.u64.wrap kind % 16) = 1) : X.act kind d n kept = if bcode X d = 0 then X.begin d else X := by
 unfold MW.act
 dsimp only
 rw [if_pos (by omega)]
theorem act_1 {X : MW} {kind : Int} {d : Dl} {n kept : Int} (h : 2 ≤ (IntKind.u64.wrap kind % 16) ∧ (IntKind.u64.wrap kind % 16) ≤ 6) : X.act kind d n kept = if 0 ≤ n ∧ n < X.bag.length then X.deliver n.toNat else X := by
 unfold MW.act
 dsimp only
 rw [if_neg (by omega), if_pos (by omega)]
theorem act_2 {X : MW} {kind : Int} {d : Dl} {n kept : Int} (h : (IntKind.u64.wrap kind % 16) = 7) : X.act kind d n kept = if 0 ≤ n ∧ n < X.bag.length then X.dropAt n.toNat else X := by
 unfold MW.act
 dsimp only
 rw [if_neg (by omega), if_neg (by omega), if_pos (by omega)]
theorem act_3 {X : MW} {kind : Int} {d : Dl} {n kept : Int} (h : (IntKind.u64.wrap kind % 16) = 8) : X.act kind d n kept = if 0 ≤ n ∧ n < X.bag.length ∧ X.bag.length ≤ 3000 then X.send (X.bag.getD n.toNat Ms.z) else X := by
 unfold MW.act
 dsimp only
 rw [if_neg (by omega), if_neg (by omega), if_neg (by omega), if_pos (by omega)]
theorem act_4 {X : MW} {kind : Int} {d : Dl} {n kept : Int} (h : (IntKind.u64.wrap kind % 16) = 9 ∨ (IntKind.u64.wrap kind % 16) = 10) : X.act kind d n kept = if N3 n then X.tick0 n else X := by
 unfold MW.act
 dsimp only
 rw [if_neg (by omega), if_neg (by omega), if_neg (by omega), if_neg (by omega), if_pos (by omega)]
theorem act_5 {X : MW} {kind : Int} {d : Dl} {n kept : Int} (h : (IntKind.u64.wrap kind % 16) = 11) : X.act kind d n kept = if N3 n ∧ 0 ≤ kept ∧ ¬ ((X.lg n).down = true ∧ (X.lg n).safe = (X.lg n).recs.length) then X.crash n kept else X := by
 unfold MW.act
 dsimp only
 rw [if_neg (by omega), if_neg (by omega), if_neg (by omega), if_neg (by omega), if_neg (by omega), if_pos (by omega)]
theorem act_6 {X : MW} {kind : Int} {d : Dl} {n kept : Int} (h : (IntKind.u64.wrap kind % 16) = 12 ∨ (IntKind.u64.wrap kind % 16) = 13) : X.act kind d n kept = if N3 n then X.restart n else X := by
 unfold MW.act
 dsimp only
 rw [if_neg (by omega), if_neg (by omega), if_neg (by omega), if_neg (by omega), if_neg (by omega), if_neg (by omega), if_pos (by omega)]
theorem act_7 {X : MW} {kind : Int} {d : Dl} {n kept : Int} (h : (IntKind.u64.wrap kind % 16) = 14) : X.act kind d n kept = if N3 n ∧ 0 ≤ kept then X.unfuse n (max kept 1) else X := by
 unfold MW.act
 dsimp only
 rw [if_neg (by omega), if_neg (by omega), if_neg (by omega), if_neg (by omega), if_neg (by omega), if_neg (by omega), if_neg (by omega), if_pos (by omega)]
def actl (kind : Int) (d : Dl) (n kept : Int) : List Value := [iv kind, iv d.b, iv d.s, iv d.m, iv d.g, iv n, iv kept]
def TogOk (a b : Int) : Prop := ¬ (a = 2 ∧ b ≠ 2 ∧ b ≠ 1 ∨ b = 2 ∧ a ≠ 2 ∧ a ≠ 1)
instance (a b : Int) : Decidable (TogOk a b) := by unfold TogOk; exact inferInstance
theorem okCfg {mem pat : Int} {f1 f2 : List Int} (hm : 1 ≤ mem ∧ mem ≤ 1000) (hp : 1 ≤ pat ∧ pat ≤ 1000) (h1 : (f1.length : Int) = mem) (h2 : (f2.length : Int) = mem) (hf1 : ∀ x ∈ f1, 0 ≤ x ∧ x ≤ 1000000000000) (hf2 : ∀ x ∈ f2, 0 ≤ x ∧ x ≤ 1000000000000) : ¬ CfgBad mem pat f1 f2 := by
 have key : ∀ f : List Int, (∀ x ∈ f, 0 ≤ x ∧ x ≤ 1000000000000) → ¬ BadP (gl f) f.length := by
  rintro f hf ⟨i, h0, h1, h2⟩
  have := hf (f.getD i.toNat 0) (by rw [List.getD_eq_getElem?_getD, List.getElem?_eq_getElem (by omega)]; exact List.getElem_mem _)
  unfold gl at h2
  omega
 have k1 := key f1 hf1
 have k2 := key f2 hf2
 unfold CfgBad
 rintro (h | h | h | h | h | h | h | h)
 ·omega
 ·omega
 ·omega
 ·omega
 ·exact h h1
 ·exact h h2
 ·exact k1 h
 ·exact k2 h
theorem newOk (mem pat : Int) (f1 f2 : List Int) (ma ga : Option Addr) (mc gc B : Nat) (H : List (Option Blk)) (w0 w : World) (hO : Own B w0 w H) (h1 : SrcI H ma f1.length (gl f1)) (h2 : SrcI H ga f2.length (gl f2)) (hm : 1 ≤ mem ∧ mem ≤ 1000) (hp : 1 ≤ pat ∧ pat ≤ 1000) (hl1 : (f1.length : Int) = mem) (hl2 : (f2.length : Int) = mem) (hf1 : ∀ x ∈ f1, 0 ≤ x ∧ x ≤ 1000000000000) (hf2 : ∀ x ∈ f2, 0 ≤ x ∧ x ≤ 1000000000000) :
  Calls Try.prog 14 #[.agg #[iv mem, iv pat, .slice ma f1.length mc, .slice ga f2.length gc]] w fun e w' => ∃ A, e = .returned (.tuple #[ptr A.W, iv 0]) ∧ WAt B w0 w' A (MW.init mem pat f1 f2) [] H :=
 (new_any mem pat f1 f2 ma ga mc gc B H w0 w hO h1 h2 (by omega) (by omega)).mono fun _ _ h => h.elim (fun h => absurd h.1 (okCfg hm hp hl1 hl2 hf1 hf2)) (fun h => h.2)
theorem Good.init {mem pat : Int} {f1 f2 : List Int} (hm : 1 ≤ mem ∧ mem ≤ 1000) (hp : 1 ≤ pat ∧ pat ≤ 1000) (hl1 : (f1.length : Int) = mem) (hl2 : (f2.length : Int) = mem) (hf1 : ∀ x ∈ f1, 0 ≤ x ∧ x ≤ 1000000000000) (hf2 : ∀ x ∈ f2, 0 ≤ x ∧ x ≤ 1000000000000) : Good (MW.init mem pat f1 f2) := by
 have hz : ∀ n, ((MW.init mem pat f1 f2).lg n) = Lg.z := fun n => by unfold MW.lg; split; rfl; split <;> rfl
 have hf : ∀ n, (MW.init mem pat f1 f2).fst n = if n = 1 then f1 else f2 := fun n => rfl
 refine ⟨⟨hm, hp, fun n _ => ?_, fun n _ => ?_, Nat.zero_le _, fun d h1 h2 => ?_, fun n _ r hr => ?_, fun n _ => ?_, fun n _ => ?_, fun n _ => ?_, fun m hm => ?_, fun d => ?_, fun d => ?_⟩, fun d hd => ?_⟩
 ·rw [hf]; split; exact hl1; exact hl2
 ·rw [hf]; split; exact hf1; exact hf2
 ·have : d ≤ 0 := h2; omega
 ·rw [hz] at hr; exact nomatch hr
 ·rw [hz]; exact List.nodup_nil
 ·rw [hz]; exact ⟨Int.le_refl _, show (0 : Int) ≤ _ by decide⟩
 ·rw [hz]; exact Nat.le_refl _
 ·exact nomatch hm
 ·exact ⟨Int.le_refl _, show (0 : Int) < pat by omega⟩
 ·exact ⟨Int.le_refl _, show (0 : Int) ≤ 4 by decide⟩
 ·exact absurd (show (0 : Int) = 1 from hd) (by decide)
def awX : MW := (MW.init 2 3 [10, 0] [0, 5]).begin ⟨1, 2, 7, 2⟩
theorem aw1 : (awX.heal 11).bag.length = 0 := by kernel_rfl
theorem aw2 : (awX.heal 11).bal 1 0 = 3 := by kernel_rfl
theorem aw3 : (awX.heal 11).bal 1 1 = 7 := by kernel_rfl
theorem aw4 : (awX.heal 11).f1.length = 2 := by kernel_rfl
theorem aw5 : bcode (MW.init 2 3 [10, 0] [0, 5]) ⟨1, 2, 7, 2⟩ = 0 := by kernel_rfl
theorem WAt.own {B : Nat} {w0 w : World} {A : WA} {X : MW} {Pl R : List (Option Blk)} (h : WAt B w0 w A X Pl R) : Own B w0 w R := by
 obtain ⟨K, N, hO, _⟩ := h
 exact hO.sub ((List.sublist_append_right N R).trans (List.sublist_append_right _ _))
theorem awBegin (A : WA) (B : Nat) (R : List (Option Blk)) (w0 w : World) (h : WAt B w0 w A (MW.init 2 3 [10, 0] [0, 5]) [] R) :
  Calls Try.prog 17 #[ptr A.W, .agg #[iv 1, iv 2, iv 7, iv 2]] w fun e w' => e = .returned (.tuple #[iv 1, iv 0]) ∧ WAt B w0 w' A awX [] R :=
 (begin_any A (MW.init 2 3 [10, 0] [0, 5]) ⟨1, 2, 7, 2⟩ B [] R w0 w (Good.init (by decide) (by decide) rfl rfl (by decide) (by decide)) (by decide) h).mono fun e w' h => by
  rw [aw5] at h
  exact h
theorem awHeal (A : WA) (B : Nat) (R : List (Option Blk)) (w0 w : World) (hG : Good awX) (h : WAt B w0 w A awX [] R) :
  Calls Try.prog 18 #[ptr A.W, iv 11] w fun e w' => e = .returned (.tuple #[iv 0, iv 0]) ∧ WAt B w0 w' A (awX.heal 11) [] R :=
 (heal_any A awX 11 B [] R w0 w (by decide) hG (by decide) h).mono fun e w' h => by
  rw [show (11 : Int).toNat = 11 from rfl, aw1] at h
  exact h
theorem awBal (A : WA) (B : Nat) (R : List (Option Blk)) (w0 w : World) (hG : Good awX) (h : WAt B w0 w A (awX.heal 11) [] R) :
  Calls Try.prog 24 #[ptr A.W, iv 1] w fun e w' => ∃ v c, e = .returned (.tuple #[v, iv 0]) ∧ IRow v 2 2 (fun i => iv (gl [3, 7] i)) c ∧ WAt B w0 w' A (awX.heal 11) [] (c :: R) :=
 (balances_any A (awX.heal 11) 1 B [] R w0 w (.inl rfl) (hG.heal 11) h).mono fun e w' ⟨v, c, h1, h2, h3⟩ => ⟨v, c, h1, by
  have e4 : ((awX.heal 11).fst 1).length = 2 := aw4
  rw [e4] at h2
  refine h2.congr fun i h0 h1 => congrArg iv ?_
  have : i = 0 ∨ i = 1 := by omega
  rcases this with rfl | rfl
  ·exact aw2
  ·exact aw3, h3⟩
theorem awake_any (B : Nat) (H : List (Option Blk)) (w0 w : World) (hO : Own B w0 w H) :
  Calls Try.prog 20 #[] w fun e w' => e = .returned (.bool true) ∧ Own B w0 w' H := by
 refine calls_of_run (F := []) Try.func20 rfl Try.ntmps20 rfl rfl <| run_seq <| run_region <| rl_v rfl rfl rfl (ov_assign rfl rfl) <| rl_nil <| run_seq <| run_region <| rl_ow rfl (ow_build1 [_, _] rfl rfl rfl rfl rfl Try.underlying22 info_2 (by decide) hO rfl rfl) ?_
 rintro _ w1 ⟨b10, rfl, hO2, hs3⟩
 refine rl_ow rfl (ow_build1 [_, _] rfl rfl rfl rfl rfl Try.underlying22 info_2 (by decide) hO2 rfl rfl) ?_
 rintro _ w4 ⟨b11, rfl, hO5, hs6⟩
 have s1 : SrcI (some (vch b11 2 2 fun i => [Value.int IntKind.i64 0, Value.int IntKind.i64 5].getD i.toNat undef) :: some (vch b10 2 2 fun i => [Value.int IntKind.i64 10, Value.int IntKind.i64 0].getD i.toNat undef) :: H) (some ⟨b10, 0, none⟩) 2 (gl [10, 0]) := fun B w0 w hO => (hO.reads 1 rfl 2 (Nat.le_refl _)).congr fun i hi => by
  have : i = 0 ∨ i = 1 := by omega
  rcases this with rfl | rfl <;> rfl
 have s2 : SrcI (some (vch b11 2 2 fun i => [Value.int IntKind.i64 0, Value.int IntKind.i64 5].getD i.toNat undef) :: some (vch b10 2 2 fun i => [Value.int IntKind.i64 10, Value.int IntKind.i64 0].getD i.toNat undef) :: H) (some ⟨b11, 0, none⟩) 2 (gl [0, 5]) := fun B w0 w hO => (hO.reads 0 rfl 2 (Nat.le_refl _)).congr fun i hi => by
  have : i = 0 ∨ i = 1 := by omega
  rcases this with rfl | rfl <;> rfl
 have hG0 : Good (MW.init 2 3 [10, 0] [0, 5]) := Good.init (by decide) (by decide) rfl rfl (by decide) (by decide)
 have hD : Dl.Ok (MW.init 2 3 [10, 0] [0, 5]) ⟨1, 2, 7, 2⟩ := by unfold Dl.Ok; decide
 have hG1 : Good awX := hG0.begin hD (by decide)
 refine rl_v rfl rfl rfl (ov_buildL rfl lay_31 rfl (us := [_, _, _, _]) rfl) ?_
 refine rl_call callable_14 rfl rfl rfl rfl rfl rfl (newOk 2 3 [10, 0] [0, 5] (some ⟨b10, 0, none⟩) (some ⟨b11, 0, none⟩) 2 2 B _ w0 w4 hO5 s1 s2 (by decide) (by decide) rfl rfl (by decide) (by decide)) (fun e7 w8 hp9 => ?_)
 obtain ⟨A, rfl, hW⟩ := hp9
 refine ⟨_, rfl, ?_⟩
 refine rl_v rfl rfl rfl (ov_move rfl rfl) <| rl_v rfl rfl rfl (ov_extract rfl rfl (by rfl)) ?_
 refine rl_v rfl rfl rfl (ov_extract rfl rfl (by rfl)) ?_
 refine rl_v rfl rfl rfl (ov_assign rfl rfl) <| rl_v rfl rfl rfl (ov_assign rfl rfl) <| rl_nil <| run_seq <| run_seq <| run_region <| rl_v rfl rfl rfl (ov_move rfl rfl) <| rl_v rfl rfl rfl (ov_neq rfl rfl rfl) <| rl_v rfl rfl rfl (ov_move rfl rfl) ?_
 first | refine rl_split_dec 18 rfl (fun g1 => ?_) (fun g1 => ?_) | refine rl_split 18 rfl (fun g1 => ?_) (fun g1 => ?_)
 ·refine rl_gskip rfl rfl rfl rfl rfl rfl <| rl_gskip rfl rfl rfl rfl rfl rfl <| rl_v rfl rfl rfl (ov_pick_t rfl rfl rfl) <| rl_nil ?_
  exfalso; exact g1 rfl
 ·refine rl_gv rfl rfl rfl rfl rfl (ov_move rfl rfl) <| rl_gv rfl rfl rfl rfl rfl (ov_ptrnil rfl Try.underlying27 rfl) <| rl_v rfl rfl rfl (ov_pick_f rfl rfl rfl) <| rl_nil <| run_cond_f rfl <| run_skip <| run_seq <| run_region <| rl_v rfl rfl rfl (ov_move rfl rfl) <| rl_v rfl rfl rfl (ov_buildL rfl lay_41 rfl (us := [_, _, _, _]) rfl) ?_
  refine rl_call callable_17 rfl rfl rfl rfl rfl rfl (awBegin A B _ w0 w8 hW) (fun e11 w12 hp13 => ?_)
  obtain ⟨rfl, hW1⟩ := hp13
  refine ⟨_, rfl, ?_⟩
  refine rl_v rfl rfl rfl (ov_move rfl rfl) <| rl_v rfl rfl rfl (ov_extract rfl rfl (by rfl)) ?_
  refine rl_v rfl rfl rfl (ov_extract rfl rfl (by rfl)) ?_
  refine rl_v rfl rfl rfl (ov_assign rfl rfl) <| rl_v rfl rfl rfl (ov_assign rfl rfl) <| rl_nil <| run_seq <| run_region <| rl_v rfl rfl rfl (ov_move rfl rfl) ?_
  refine rl_call callable_18 rfl rfl rfl rfl rfl rfl (awHeal A B _ w0 w12 hG1 hW1) (fun e14 w15 hp16 => ?_)
  obtain ⟨rfl, hW2⟩ := hp16
  refine ⟨_, rfl, ?_⟩
  refine rl_v rfl rfl rfl (ov_move rfl rfl) <| rl_v rfl rfl rfl (ov_extract rfl rfl (by rfl)) ?_
  refine rl_v rfl rfl rfl (ov_extract rfl rfl (by rfl)) ?_
  refine rl_v rfl rfl rfl (ov_assign rfl rfl) <| rl_v rfl rfl rfl (ov_assign rfl rfl) <| rl_nil <| run_seq <| run_region <| rl_v rfl rfl rfl (ov_move rfl rfl) ?_
  refine rl_call callable_24 rfl rfl rfl rfl rfl rfl (awBal A B _ w0 w15 hG1 hW2) (fun e17 w18 hp19 => ?_)
  obtain ⟨v, c, rfl, hR, hW3⟩ := hp19
  refine ⟨_, rfl, ?_⟩
  obtain ⟨va, vc, rfl⟩ := hR.val
  obtain ⟨K3, N3', hO3, hK3, hPl3⟩ := hW3.pull
  obtain ⟨vb, vo, hva, hrow⟩ := (hR.reads hO3 0 rfl).open
  refine rl_v rfl rfl rfl (ov_move rfl rfl) <| rl_v rfl rfl rfl (ov_extract rfl rfl (by rfl)) ?_
  refine rl_v rfl rfl rfl (ov_extract rfl rfl (by rfl)) ?_
  refine rl_v rfl rfl rfl (ov_assign rfl rfl) <| rl_v rfl rfl rfl (ov_assign rfl rfl) <| rl_nil <| run_seq <| run_region_join 0 (.bool (decide (True))) [] (fun hk20 => ?_) ?_
  ·refine rl_v rfl rfl rfl (ov_move rfl rfl) <| rl_v rfl rfl rfl (ov_eql rfl rfl rfl) <| rl_v rfl rfl rfl (ov_move rfl rfl) ?_
   first | refine rl_split_dec 40 rfl (fun q1 => ?_) (fun q1 => ?_) | refine rl_split 40 rfl (fun q1 => ?_) (fun q1 => ?_)
   ·refine rl_gv rfl rfl rfl rfl rfl (ov_move rfl rfl) <| rl_gv rfl rfl rfl rfl rfl (ov_eql rfl rfl rfl) <| rl_v rfl rfl rfl (ov_pick_t rfl rfl rfl) <| rl_v rfl rfl rfl (ov_move rfl rfl) ?_
    first | refine rl_split_dec 44 rfl (fun q2 => ?_) (fun q2 => ?_) | refine rl_split 44 rfl (fun q2 => ?_) (fun q2 => ?_)
    ·refine rl_gv rfl rfl rfl rfl rfl (ov_move rfl rfl) <| rl_gv rfl rfl rfl rfl rfl (ov_eql rfl rfl rfl) <| rl_v rfl rfl rfl (ov_pick_t rfl rfl rfl) <| rl_v rfl rfl rfl (ov_move rfl rfl) ?_
     first | refine rl_split_dec 48 rfl (fun q3 => ?_) (fun q3 => ?_) | refine rl_split 48 rfl (fun q3 => ?_) (fun q3 => ?_)
     ·refine rl_gv rfl rfl rfl rfl rfl (ov_move rfl rfl) <| rl_gv rfl rfl rfl rfl rfl (ov_eql rfl rfl rfl) <| rl_v rfl rfl rfl (ov_pick_t rfl rfl rfl) <| rl_v rfl rfl rfl (ov_move rfl rfl) ?_
      first | refine rl_split_dec 52 rfl (fun q4 => ?_) (fun q4 => ?_) | refine rl_split 52 rfl (fun q4 => ?_) (fun q4 => ?_)
      ·refine rl_gv rfl rfl rfl rfl rfl (ov_move rfl rfl) <| rl_gv rfl rfl rfl rfl rfl (ov_eql rfl rfl rfl) <| rl_v rfl rfl rfl (ov_pick_t rfl rfl rfl) <| rl_v rfl rfl rfl (ov_move rfl rfl) ?_
       first | refine rl_split_dec 56 rfl (fun q5 => ?_) (fun q5 => ?_) | refine rl_split 56 rfl (fun q5 => ?_) (fun q5 => ?_)
       ·refine rl_gv rfl rfl rfl rfl rfl (ov_move rfl rfl) <| rl_gv rfl rfl rfl rfl rfl (ov_len rfl Try.underlying22 rfl) <| rl_gv rfl rfl rfl rfl rfl (ov_eql rfl rfl rfl) <| rl_v rfl rfl rfl (ov_pick_t rfl rfl rfl) <| rl_v rfl rfl rfl (ov_move rfl rfl) ?_
        first | refine rl_split_dec 61 rfl (fun q6 => ?_) (fun q6 => ?_) | refine rl_split 61 rfl (fun q6 => ?_) (fun q6 => ?_)
        ·refine rl_gv rfl rfl rfl rfl rfl (ov_move rfl rfl) <| rl_gv rfl rfl rfl rfl rfl (ov_index1 rfl Try.underlying22 (by kernel_rfl) rfl rfl ⟨by omega, by omega⟩ (by exact (hva (by omega)))) ?_
         refine rl_gv rfl rfl rfl rfl rfl (ov_load rfl Try.underlying2 rfl rfl (by exact hrow _ (Below.refl _ _) 0 (by omega) (by omega))) ?_
         refine rl_gv rfl rfl rfl rfl rfl (ov_eql rfl rfl rfl) <| rl_v rfl rfl rfl (ov_pick_t rfl rfl rfl) <| rl_v rfl rfl rfl (ov_move rfl rfl) ?_
         first | refine rl_split_dec 67 rfl (fun q7 => ?_) (fun q7 => ?_) | refine rl_split 67 rfl (fun q7 => ?_) (fun q7 => ?_)
         ·refine rl_gv rfl rfl rfl rfl rfl (ov_move rfl rfl) <| rl_gv rfl rfl rfl rfl rfl (ov_index1 rfl Try.underlying22 (by kernel_rfl) rfl rfl ⟨by omega, by omega⟩ (by exact (hva (by omega)))) ?_
          refine rl_gv rfl rfl rfl rfl rfl (ov_load rfl Try.underlying2 rfl rfl (by exact hrow _ (Below.refl _ _) 1 (by omega) (by omega))) ?_
          refine rl_gv rfl rfl rfl rfl rfl (ov_eql rfl rfl rfl) <| rl_v rfl rfl rfl (ov_pick_t rfl rfl rfl) <| rl_v rfl rfl rfl (ov_assign rfl rfl) ?_
          refine rl_nil (hk20 _ (jbd rfl (by simp_all [gl])) trivial)
         ·refine rl_gskip rfl rfl rfl rfl rfl rfl <| rl_gskip rfl rfl rfl rfl rfl rfl <| rl_gskip rfl rfl rfl rfl rfl rfl <| rl_gskip rfl rfl rfl rfl rfl rfl <| rl_v rfl rfl rfl (ov_pick_f rfl rfl rfl) <| rl_v rfl rfl rfl (ov_assign rfl rfl) ?_
          refine rl_nil (hk20 _ (jbf rfl (by simp_all [gl])) trivial)
        ·refine rl_gskip rfl rfl rfl rfl rfl rfl <| rl_gskip rfl rfl rfl rfl rfl rfl <| rl_gskip rfl rfl rfl rfl rfl rfl <| rl_gskip rfl rfl rfl rfl rfl rfl <| rl_v rfl rfl rfl (ov_pick_f rfl rfl rfl) <| rl_v rfl rfl rfl (ov_move rfl rfl) <| rl_gskip rfl rfl rfl rfl rfl rfl <| rl_gskip rfl rfl rfl rfl rfl rfl <| rl_gskip rfl rfl rfl rfl rfl rfl <| rl_gskip rfl rfl rfl rfl rfl rfl <| rl_v rfl rfl rfl (ov_pick_f rfl rfl rfl) <| rl_v rfl rfl rfl (ov_assign rfl rfl) ?_
         refine rl_nil (hk20 _ (jbf rfl (by omega)) trivial)
       ·refine rl_gskip rfl rfl rfl rfl rfl rfl <| rl_gskip rfl rfl rfl rfl rfl rfl <| rl_gskip rfl rfl rfl rfl rfl rfl <| rl_v rfl rfl rfl (ov_pick_f rfl rfl rfl) <| rl_v rfl rfl rfl (ov_move rfl rfl) <| rl_gskip rfl rfl rfl rfl rfl rfl <| rl_gskip rfl rfl rfl rfl rfl rfl <| rl_gskip rfl rfl rfl rfl rfl rfl <| rl_gskip rfl rfl rfl rfl rfl rfl <| rl_v rfl rfl rfl (ov_pick_f rfl rfl rfl) <| rl_v rfl rfl rfl (ov_move rfl rfl) <| rl_gskip rfl rfl rfl rfl rfl rfl <| rl_gskip rfl rfl rfl rfl rfl rfl <| rl_gskip rfl rfl rfl rfl rfl rfl <| rl_gskip rfl rfl rfl rfl rfl rfl <| rl_v rfl rfl rfl (ov_pick_f rfl rfl rfl) <| rl_v rfl rfl rfl (ov_assign rfl rfl) ?_
        refine rl_nil (hk20 _ (jbf rfl (by omega)) trivial)
      ·refine rl_gskip rfl rfl rfl rfl rfl rfl <| rl_gskip rfl rfl rfl rfl rfl rfl <| rl_v rfl rfl rfl (ov_pick_f rfl rfl rfl) <| rl_v rfl rfl rfl (ov_move rfl rfl) <| rl_gskip rfl rfl rfl rfl rfl rfl <| rl_gskip rfl rfl rfl rfl rfl rfl <| rl_gskip rfl rfl rfl rfl rfl rfl <| rl_v rfl rfl rfl (ov_pick_f rfl rfl rfl) <| rl_v rfl rfl rfl (ov_move rfl rfl) <| rl_gskip rfl rfl rfl rfl rfl rfl <| rl_gskip rfl rfl rfl rfl rfl rfl <| rl_gskip rfl rfl rfl rfl rfl rfl <| rl_gskip rfl rfl rfl rfl rfl rfl <| rl_v rfl rfl rfl (ov_pick_f rfl rfl rfl) <| rl_v rfl rfl rfl (ov_move rfl rfl) <| rl_gskip rfl rfl rfl rfl rfl rfl <| rl_gskip rfl rfl rfl rfl rfl rfl <| rl_gskip rfl rfl rfl rfl rfl rfl <| rl_gskip rfl rfl rfl rfl rfl rfl <| rl_v rfl rfl rfl (ov_pick_f rfl rfl rfl) <| rl_v rfl rfl rfl (ov_assign rfl rfl) ?_
       refine rl_nil (hk20 _ (jbf rfl (by omega)) trivial)
     ·refine rl_gskip rfl rfl rfl rfl rfl rfl <| rl_gskip rfl rfl rfl rfl rfl rfl <| rl_v rfl rfl rfl (ov_pick_f rfl rfl rfl) <| rl_v rfl rfl rfl (ov_move rfl rfl) <| rl_gskip rfl rfl rfl rfl rfl rfl <| rl_gskip rfl rfl rfl rfl rfl rfl <| rl_v rfl rfl rfl (ov_pick_f rfl rfl rfl) <| rl_v rfl rfl rfl (ov_move rfl rfl) <| rl_gskip rfl rfl rfl rfl rfl rfl <| rl_gskip rfl rfl rfl rfl rfl rfl <| rl_gskip rfl rfl rfl rfl rfl rfl <| rl_v rfl rfl rfl (ov_pick_f rfl rfl rfl) <| rl_v rfl rfl rfl (ov_move rfl rfl) <| rl_gskip rfl rfl rfl rfl rfl rfl <| rl_gskip rfl rfl rfl rfl rfl rfl <| rl_gskip rfl rfl rfl rfl rfl rfl <| rl_gskip rfl rfl rfl rfl rfl rfl <| rl_v rfl rfl rfl (ov_pick_f rfl rfl rfl) <| rl_v rfl rfl rfl (ov_move rfl rfl) <| rl_gskip rfl rfl rfl rfl rfl rfl <| rl_gskip rfl rfl rfl rfl rfl rfl <| rl_gskip rfl rfl rfl rfl rfl rfl <| rl_gskip rfl rfl rfl rfl rfl rfl <| rl_v rfl rfl rfl (ov_pick_f rfl rfl rfl) ?_
      refine rl_v rfl rfl rfl (ov_assign rfl rfl) ?_
      refine rl_nil (hk20 _ (jbf rfl (by omega)) trivial)
    ·refine rl_gskip rfl rfl rfl rfl rfl rfl <| rl_gskip rfl rfl rfl rfl rfl rfl <| rl_v rfl rfl rfl (ov_pick_f rfl rfl rfl) <| rl_v rfl rfl rfl (ov_move rfl rfl) <| rl_gskip rfl rfl rfl rfl rfl rfl <| rl_gskip rfl rfl rfl rfl rfl rfl <| rl_v rfl rfl rfl (ov_pick_f rfl rfl rfl) <| rl_v rfl rfl rfl (ov_move rfl rfl) <| rl_gskip rfl rfl rfl rfl rfl rfl <| rl_gskip rfl rfl rfl rfl rfl rfl <| rl_v rfl rfl rfl (ov_pick_f rfl rfl rfl) <| rl_v rfl rfl rfl (ov_move rfl rfl) <| rl_gskip rfl rfl rfl rfl rfl rfl <| rl_gskip rfl rfl rfl rfl rfl rfl <| rl_gskip rfl rfl rfl rfl rfl rfl <| rl_v rfl rfl rfl (ov_pick_f rfl rfl rfl) <| rl_v rfl rfl rfl (ov_move rfl rfl) <| rl_gskip rfl rfl rfl rfl rfl rfl <| rl_gskip rfl rfl rfl rfl rfl rfl <| rl_gskip rfl rfl rfl rfl rfl rfl <| rl_gskip rfl rfl rfl rfl rfl rfl <| rl_v rfl rfl rfl (ov_pick_f rfl rfl rfl) <| rl_v rfl rfl rfl (ov_move rfl rfl) <| rl_gskip rfl rfl rfl rfl rfl rfl ?_
     refine rl_gskip rfl rfl rfl rfl rfl rfl <| rl_gskip rfl rfl rfl rfl rfl rfl <| rl_gskip rfl rfl rfl rfl rfl rfl <| rl_v rfl rfl rfl (ov_pick_f rfl rfl rfl) <| rl_v rfl rfl rfl (ov_assign rfl rfl) ?_
     refine rl_nil (hk20 _ (jbf rfl (by omega)) trivial)
   ·refine rl_gskip rfl rfl rfl rfl rfl rfl <| rl_gskip rfl rfl rfl rfl rfl rfl <| rl_v rfl rfl rfl (ov_pick_f rfl rfl rfl) <| rl_v rfl rfl rfl (ov_move rfl rfl) <| rl_gskip rfl rfl rfl rfl rfl rfl <| rl_gskip rfl rfl rfl rfl rfl rfl <| rl_v rfl rfl rfl (ov_pick_f rfl rfl rfl) <| rl_v rfl rfl rfl (ov_move rfl rfl) <| rl_gskip rfl rfl rfl rfl rfl rfl <| rl_gskip rfl rfl rfl rfl rfl rfl <| rl_v rfl rfl rfl (ov_pick_f rfl rfl rfl) <| rl_v rfl rfl rfl (ov_move rfl rfl) <| rl_gskip rfl rfl rfl rfl rfl rfl <| rl_gskip rfl rfl rfl rfl rfl rfl <| rl_v rfl rfl rfl (ov_pick_f rfl rfl rfl) <| rl_v rfl rfl rfl (ov_move rfl rfl) <| rl_gskip rfl rfl rfl rfl rfl rfl <| rl_gskip rfl rfl rfl rfl rfl rfl <| rl_gskip rfl rfl rfl rfl rfl rfl <| rl_v rfl rfl rfl (ov_pick_f rfl rfl rfl) <| rl_v rfl rfl rfl (ov_move rfl rfl) <| rl_gskip rfl rfl rfl rfl rfl rfl <| rl_gskip rfl rfl rfl rfl rfl rfl <| rl_gskip rfl rfl rfl rfl rfl rfl ?_
    refine rl_gskip rfl rfl rfl rfl rfl rfl <| rl_v rfl rfl rfl (ov_pick_f rfl rfl rfl) <| rl_v rfl rfl rfl (ov_move rfl rfl) <| rl_gskip rfl rfl rfl rfl rfl rfl <| rl_gskip rfl rfl rfl rfl rfl rfl <| rl_gskip rfl rfl rfl rfl rfl rfl <| rl_gskip rfl rfl rfl rfl rfl rfl <| rl_v rfl rfl rfl (ov_pick_f rfl rfl rfl) <| rl_v rfl rfl rfl (ov_assign rfl rfl) ?_
    refine rl_nil (hk20 _ (jbf rfl (by omega)) trivial)
  ·show Run _ _ _ _ [(0, _)] _ _
   refine run_ret Try.func20 (res1 Try.results20 rfl) ?_
   exact ⟨by simp, (WAt.push hO3 hK3 hPl3).own.tail.tail.tail⟩
end Go.Proofs.Yteagflekbbchhaa
