import Derived.Test.YtfbbagnpdfafjaaSeN
set_option maxRecDepth 100000
namespace Go.Proofs.Ytfbbagnpdfafjaa
open Go.RowKit Go.Proofs
section
variable {P : Program} {f N : Nat} {o : Oper} {ops : Array Oper} {rest : List Oper} {k : List Item} {F : Fr} {w : World} {R : Ending → World → Prop}
end
theorem nodeCell {A : WA} {X : MW} {K : WC} {B j : Nat} {w0 w : World} {H : List (Option Blk)} {n : Int} {q : Nat} (hO : Own B w0 w H) (hw : H[j]? = some (some (lch A.W 184 (wcells A X K)))) (hn : n = 0 ∨ n = 1 ∨ n = 2) (hq : q = 5 + n.toNat) : w.cell? ⟨A.W, q, none⟩ = some (nodeV A n) := by
 subst hq
 rcases hn with rfl | rfl | rfl
 ·exact hO.cellL j hw (off := 5) rfl
 ·exact hO.cellL j hw (off := 6) rfl
 ·exact hO.cellL j hw (off := 7) rfl
theorem node_any (A : WA) (X : MW) (K : WC) (n : Int) (j B : Nat) (H : List (Option Blk)) (w0 w : World) (hn : n = 0 ∨ n = 1 ∨ n = 2) (hO : Own B w0 w H) (hw : H[j]? = some (some (lch A.W 184 (wcells A X K)))) :
  Calls Try.prog 134 #[ptr A.W, iv n] w fun e w' => e = .returned (.tuple #[nodeV A n, iv 0]) ∧ Own B w0 w' H := by
 refine calls_of_run (F := [(0, _), (1, _)]) Try.func134 rfl Try.ntmps134 rfl rfl <| run_seq <| run_region <| rl_v rfl rfl rfl (ov_assign rfl rfl) <| rl_v rfl rfl rfl (ov_assign rfl rfl) <| rl_nil <| run_seq <| run_seq <| run_region <| rl_v rfl rfl rfl (ov_move rfl rfl) <| rl_v rfl rfl rfl (ov_ptrnil rfl Try.underlying100 rfl) <| rl_nil <| run_cond_f rfl <| run_skip <| run_seq <| run_seq <| run_region <| rl_v rfl rfl rfl (ov_move rfl rfl) <| rl_v rfl rfl rfl (ov_lss rfl rfl rfl) <| rl_v rfl rfl rfl (ov_move rfl rfl) ?_
 first | refine rl_split_dec 10 rfl (fun g1 => ?_) (fun g1 => ?_) | refine rl_split 10 rfl (fun g1 => ?_) (fun g1 => ?_)
 ·refine rl_gskip rfl rfl rfl rfl rfl rfl <| rl_gskip rfl rfl rfl rfl rfl rfl <| rl_v rfl rfl rfl (ov_pick_t rfl rfl rfl) <| rl_nil ?_
  exfalso; omega
 ·refine rl_gv rfl rfl rfl rfl rfl (ov_move rfl rfl) <| rl_gv rfl rfl rfl rfl rfl (ov_gtr rfl rfl rfl) <| rl_v rfl rfl rfl (ov_pick_f rfl rfl rfl) <| rl_nil ?_
  first | refine run_cond_dec rfl (fun g2 => ?_) (fun g2n => ?_) | refine run_cond rfl (fun g2 => ?_) (fun g2n => ?_)
  ·exfalso; omega
  ·refine run_skip <| run_seq <| run_region <| rl_v rfl rfl rfl (ov_move rfl rfl) <| rl_v rfl rfl rfl (ov_move rfl rfl) <| rl_v rfl rfl rfl (ov_nil rfl rfl) <| rl_v rfl rfl rfl (ov_fieldS rfl Try.underlying184 rfl (fo := 5) rfl (by kernel_rfl) rfl) ?_
   refine rl_v rfl rfl rfl (ov_indexA1 rfl Try.underlying181 (by kernel_rfl) rfl rfl ⟨by omega, by omega⟩) ?_
   refine rl_v rfl rfl rfl (ov_load rfl Try.underlying180 rfl rfl (by exact nodeCell hO hw hn (by omega))) ?_
   refine rl_v rfl rfl rfl (ov_assign rfl rfl) <| rl_v rfl rfl rfl (ov_assign rfl rfl) <| rl_nil <| run_ret Try.func134 (res2 Try.results134 rfl rfl) ?_
   exact ⟨rfl, hO⟩
theorem storeO (n : Int) (b : Nat) {B : Nat} {H : List (Option Blk)} {w0 w : World} (hO : Own B w0 w H) : Calls Try.prog (fStore n) #[ptr b] w fun e w' => e = .returned (ptr b) ∧ Own B w0 w' H :=
 (store_any n b w).mono fun _ _ h => ⟨h.1, h.2 ▸ hO⟩
theorem wup_any (A : WA) (X : MW) (n : Int) (B : Nat) (Pl R : List (Option Blk)) (w0 w : World) (hn : n = 0 ∨ n = 1 ∨ n = 2) (h : WAt B w0 w A X Pl R) :
  Calls Try.prog 101 #[ptr A.W, iv n] w fun e w' => e = .returned (.bool (!(X.lg n).down)) ∧ WAt B w0 w' A X Pl R := by
 obtain ⟨K, N, hO, hK, hPl⟩ := h
 obtain ⟨k, t, rv, rest, hk4, hk, hr, hset, hw2⟩ := hK.node A hn
 refine calls_of_run (F := [(0, _), (1, _)]) Try.func101 rfl Try.ntmps101 rfl rfl <| run_seq <| run_region <| rl_v rfl rfl rfl (ov_assign rfl rfl) <| rl_nil <| run_seq <| run_region <| rl_v rfl rfl rfl (ov_move rfl rfl) <| rl_v rfl rfl rfl (ov_move rfl rfl) ?_
 refine rl_call callable_134 rfl rfl rfl rfl rfl rfl (node_any A X K n 0 B _ w0 w hn hO rfl) (fun e1 w2 hp3 => ?_)
 obtain ⟨rfl, hO2⟩ := hp3
 refine ⟨_, rfl, ?_⟩
 refine rl_v rfl rfl rfl (ov_move rfl rfl) <| rl_v rfl rfl rfl (ov_extract rfl rfl (by rfl)) ?_
 refine rl_v rfl rfl rfl (ov_extract rfl rfl (by rfl)) ?_
 refine rl_v rfl rfl rfl (ov_assign rfl rfl) <| rl_v rfl rfl rfl (ov_assign rfl rfl) <| rl_nil <| run_seq <| run_region <| rl_v rfl rfl rfl (ov_move rfl rfl) <| rl_v rfl rfl rfl (ov_eql rfl rfl rfl) <| rl_v rfl rfl rfl (ov_move rfl rfl) ?_
 first | refine rl_split_dec 15 rfl (fun g1 => ?_) (fun g1 => ?_) | refine rl_split 15 rfl (fun g1 => ?_) (fun g1 => ?_)
 ·refine rl_gv rfl rfl rfl rfl rfl (ov_move rfl rfl) ?_
  refine rl_ginvoke (cStore n) rfl rfl rfl rfl rfl rfl rfl (mStore n _ _) rfl (storeO n (A.node n) hO2) (fun e5 w6 hp7 => ?_)
  obtain ⟨rfl, hO3⟩ := hp7
  refine ⟨_, rfl, ?_⟩
  refine rl_gv rfl rfl rfl rfl rfl (ov_nil rfl rfl) <| rl_gv rfl rfl rfl rfl rfl (ov_fieldS rfl Try.underlying189 rfl (fo := 3) rfl (by kernel_rfl) rfl) ?_
  refine rl_gv rfl rfl rfl rfl rfl (ov_load rfl Try.underlying4 rfl rfl (by exact hO3.cellL k (hk _) (off := 3) rfl)) ?_
  refine rl_gv rfl rfl rfl rfl rfl (ov_not rfl rfl) <| rl_v rfl rfl rfl (ov_pick_t rfl rfl rfl) <| rl_v rfl rfl rfl (ov_assign rfl rfl) <| rl_nil <| run_ret Try.func101 (res1 Try.results101 rfl) ?_
  exact ⟨rfl, K, N, hO3, hK, hPl⟩
 ·exfalso; exact g1 rfl
section
variable {P : Program} {N : Nat} {o : Oper} {F : Fr} {w : World} {B : Nat} {w0 : World} {H : List (Option Blk)}
end
theorem bagRow {X : MW} {K : WC} {N : List (Option Blk)} (hK : WOk X K N) : ∃ ao cap, K.bv = .slice ao X.bag.length cap ∧ X.bag.length ≤ cap ∧ (∃ b, (0 < X.bag.length → ao = some ⟨b, 0, none⟩) ∧ ∀ {B : Nat} {w0 w : World} {H : List (Option Blk)}, Own B w0 w H → K.cb ∈ H → ∀ i : Int, 0 ≤ i → i < X.bag.length → ∀ fo, fo < 4 → w.cell? ⟨b, 0 + i.toNat * 4 + fo, none⟩ = some ((cnt msl Ms.z X.bag i).getD fo undef)) := by
 have hp := PRow.of_row hK.bv (N := [K.cb]) (List.mem_singleton.2 rfl)
 obtain ⟨ao, cap, h1, h2⟩ := hp.val
 rw [h1] at hp
 obtain ⟨b, hb, hr⟩ := hp.open
 exact ⟨ao, cap, h1, h2, b, hb, fun hO hc => hr hO (fun x hx => by rw [List.mem_singleton.1 hx]; exact hc)⟩
end Go.Proofs.Ytfbbagnpdfafjaa
set_option maxRecDepth 100000
namespace Go.Proofs.Ytfbbagnpdfafjaa
open Go.RowKit Go.Proofs
def N3 (n : Int) : Prop := n = 0 ∨ n = 1 ∨ n = 2
end Go.Proofs.Ytfbbagnpdfafjaa
