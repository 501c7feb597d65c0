import Derived.Test.YteagflekbbchhaaRgA
import Derived.Test.YteagflekbbchhaaReW
set_option maxRecDepth 100000
namespace Go.Proofs.Yteagflekbbchhaa
open Go.RowKit Go.Proofs
theorem newX (mem pat : Int) (f1 f2 : List Int) (ma ga : Option Addr) (mc gc B : Nat) (H : List (Option Blk)) (w0 w : World) (hO : Own B w0 w H) (h1 : SrcI H ma f1.length (gl f1)) (h2 : SrcI H ga f2.length (gl f2)) (hl1 : f1.length ≤ 4000000000000) (hl2 : f2.length ≤ 4000000000000) :
  Calls Try.prog 14 #[.agg #[iv mem, iv pat, .slice ma f1.length mc, .slice ga f2.length gc]] w fun e w' => ∃ ad c T, e = .returned (.tuple #[.pointer ad, iv c]) ∧ Own B w0 w' (H ++ T) ∧
   ((CfgBad mem pat f1 f2 ∧ ad = none ∧ c = 1) ∨ (¬ CfgBad mem pat f1 f2 ∧ ∃ (A : WA) (K : WC) (N : List (Option Blk)), ad = some ⟨A.W, 0, none⟩ ∧ c = 0 ∧ T = K.M A (MW.init mem pat f1 f2) ++ N ∧ WOk (MW.init mem pat f1 f2) K N)) :=
 (new_any mem pat f1 f2 ma ga mc gc B H w0 w hO h1 h2 hl1 hl2).mono fun e w' h => by
  rcases h with ⟨h1, h2, h3⟩ | ⟨h1, A, h2, h3⟩
  ·exact ⟨none, 1, [], h2, by rw [List.append_nil]; exact h3, .inl ⟨h1, rfl, rfl⟩⟩
  ·obtain ⟨K, N, hO, hK, _⟩ := h3.fr
   exact ⟨_, 0, _, h2, hO, .inr ⟨h1, A, K, N, rfl, rfl, rfl, hK⟩⟩
theorem validX (mem pat : Int) (f1 f2 : List Int) (s1 s2 : Option Addr) (z1 z2 B : Nat) (H : List (Option Blk)) (w0 w : World) (hO : Own B w0 w H) (h1 : SrcI H s1 f1.length (gl f1)) (h2 : SrcI H s2 f2.length (gl f2)) :
  Calls Try.prog 47 #[.agg #[iv mem, iv pat, .slice s1 f1.length z1, .slice s2 f2.length z2]] w fun e w' => ∃ b : Bool, e = .returned (.bool b) ∧ (b = true ↔ ¬ CfgBad mem pat f1 f2) ∧ Own B w0 w' H :=
 (valid_any mem pat f1 f2 s1 s2 z1 z2 B H w0 w hO h1 h2).mono fun e w' h => by
  rcases h with ⟨h1, h2, h3⟩ | ⟨h1, h2, h3⟩
  ·exact ⟨false, h2, ⟨fun h => Bool.noConfusion h, fun h => absurd h1 h⟩, h3⟩
  ·exact ⟨true, h2, ⟨fun _ => h1, fun _ => rfl⟩, h3⟩
theorem rowCut {v : Value} {E : TypeId} {k : Nat} {G : Int → Int} {c : Option Blk} (h : IRow v E k (fun i => iv (G i)) c) : IRow v E (cutI G k).length (fun i => iv (gl (cutI G k) i)) c := by
 rw [cutI_len]
 exact h.congr fun i h0 h1 => by rw [cutI_gl G k h0 h1]
set_option maxHeartbeats 1600000 in
theorem settleWorlds_any (m p : Int) (a1 a2 : Option Addr) (n1 n2 c1 c2 : Nat) (G1 G2 : Int → Int) (w : World) (h1 : IAt w.heap.size w a1 n1 (fun i => iv (G1 i))) (h2 : IAt w.heap.size w a2 n2 (fun i => iv (G2 i))) (hc1 : n1 ≤ c1) (hc2 : n2 ≤ c2) :
  Calls Try.prog 11 #[.agg #[iv m, iv p, .slice a1 n1 c1, .slice a2 n2 c2]] w fun e w' => e = .returned (.bool true) ∧ Below w.heap.size w w' := by
 refine calls_of_run (F := [(0, _)]) Try.func11 rfl Try.ntmps11 rfl rfl <| run_seq <| run_region <| rl_ow rfl (ow_box _ rfl rfl rfl rfl rfl (Own.init w)) ?_
 rintro _ w1 ⟨b1, rfl, hO2, hs3⟩
 refine rl_v rfl rfl rfl (ov_assign rfl rfl) <| rl_nil <| run_seq <| run_region <| rl_v rfl rfl rfl (ov_assign rfl rfl) <| rl_nil <| run_seq <| run_region <| rl_v rfl rfl rfl (ov_move rfl rfl) <| rl_v rfl rfl rfl (ov_buildL rfl lay_41 rfl (us := [_, _, _, _]) rfl) ?_
 refine rl_call callable_17 rfl rfl rfl rfl rfl rfl (begin_nil ⟨1, 2, 0, 0⟩ w.heap.size _ w w1 hO2) (fun e4 w5 hp6 => ?_)
 obtain ⟨rfl, hOn0⟩ := hp6
 refine ⟨_, rfl, ?_⟩
 refine rl_v rfl rfl rfl (ov_move rfl rfl) <| rl_v rfl rfl rfl (ov_extract rfl rfl (by rfl)) ?_
 refine rl_v rfl rfl rfl (ov_extract rfl rfl (by rfl)) ?_
 refine rl_v rfl rfl rfl (ov_assign rfl rfl) <| rl_v rfl rfl rfl (ov_assign rfl rfl) <| rl_nil <| run_seq <| run_region <| rl_v rfl rfl rfl (ov_move rfl rfl) ?_
 refine rl_call callable_18 rfl rfl rfl rfl rfl rfl (heal_nil 1 w.heap.size _ w w5 hOn0) (fun e7 w8 hp9 => ?_)
 obtain ⟨rfl, hOn1⟩ := hp9
 refine ⟨_, rfl, ?_⟩
 refine rl_v rfl rfl rfl (ov_move rfl rfl) <| rl_v rfl rfl rfl (ov_extract rfl rfl (by rfl)) ?_
 refine rl_v rfl rfl rfl (ov_extract rfl rfl (by rfl)) ?_
 refine rl_v rfl rfl rfl (ov_assign rfl rfl) <| rl_v rfl rfl rfl (ov_assign rfl rfl) <| rl_nil <| run_seq <| run_region <| rl_v rfl rfl rfl (ov_move rfl rfl) ?_
 refine rl_call callable_24 rfl rfl rfl rfl rfl rfl (balances_nil 1 w.heap.size _ w w8 hOn1) (fun e10 w11 hp12 => ?_)
 obtain ⟨rfl, hOn2⟩ := hp12
 refine ⟨_, rfl, ?_⟩
 refine rl_v rfl rfl rfl (ov_move rfl rfl) <| rl_v rfl rfl rfl (ov_extract rfl rfl (by rfl)) ?_
 refine rl_v rfl rfl rfl (ov_extract rfl rfl (by rfl)) ?_
 refine rl_v rfl rfl rfl (ov_assign rfl rfl) <| rl_v rfl rfl rfl (ov_assign rfl rfl) <| rl_nil <| run_seq <| run_region <| rl_v rfl rfl rfl (ov_move rfl rfl) ?_
 refine rl_call callable_16 rfl rfl rfl rfl rfl rfl (free_nil 1 w.heap.size _ w w11 hOn2) (fun e13 w14 hp15 => ?_)
 obtain ⟨rfl, hOn3⟩ := hp15
 refine ⟨_, rfl, ?_⟩
 refine rl_v rfl rfl rfl (ov_move rfl rfl) <| rl_v rfl rfl rfl (ov_extract rfl rfl (by rfl)) ?_
 refine rl_v rfl rfl rfl (ov_extract rfl rfl (by rfl)) ?_
 refine rl_v rfl rfl rfl (ov_assign rfl rfl) <| rl_v rfl rfl rfl (ov_assign rfl rfl) <| rl_nil <| run_seq <| run_region <| rl_v rfl rfl rfl (ov_move rfl rfl) ?_
 refine rl_call callable_23 rfl rfl rfl rfl rfl rfl (log_nil 0 w.heap.size _ w w14 hOn3) (fun e16 w17 hp18 => ?_)
 obtain ⟨rfl, hOn4⟩ := hp18
 refine ⟨_, rfl, ?_⟩
 refine rl_v rfl rfl rfl (ov_move rfl rfl) <| rl_v rfl rfl rfl (ov_extract rfl rfl (by rfl)) ?_
 refine rl_v rfl rfl rfl (ov_extract rfl rfl (by rfl)) ?_
 refine rl_v rfl rfl rfl (ov_assign rfl rfl) <| rl_v rfl rfl rfl (ov_assign rfl rfl) <| rl_nil <| run_seq <| run_seq <| run_region <| rl_v rfl rfl rfl (ov_move rfl rfl) <| rl_v rfl rfl rfl (ov_neq rfl rfl rfl) <| rl_v rfl rfl rfl (ov_move rfl rfl) ?_
 first | refine rl_noD 53 rfl (fun h => h rfl) ?_ | refine rl_no 53 rfl (fun h => h rfl) ?_
 refine rl_gv rfl rfl rfl rfl rfl (ov_move rfl rfl) <| rl_gv rfl rfl rfl rfl rfl (ov_neq rfl rfl rfl) <| rl_v rfl rfl rfl (ov_pick_f rfl rfl rfl) <| rl_v rfl rfl rfl (ov_move rfl rfl) ?_
 first | refine rl_noD 57 rfl (fun h => h rfl) ?_ | refine rl_no 57 rfl (fun h => h rfl) ?_
 refine rl_gv rfl rfl rfl rfl rfl (ov_move rfl rfl) <| rl_gv rfl rfl rfl rfl rfl (ov_neq rfl rfl rfl) <| rl_v rfl rfl rfl (ov_pick_f rfl rfl rfl) <| rl_v rfl rfl rfl (ov_move rfl rfl) ?_
 first | refine rl_noD 61 rfl (fun h => h rfl) ?_ | refine rl_no 61 rfl (fun h => h rfl) ?_
 refine rl_gv rfl rfl rfl rfl rfl (ov_move rfl rfl) <| rl_gv rfl rfl rfl rfl rfl (ov_neq rfl rfl rfl) <| rl_v rfl rfl rfl (ov_pick_f rfl rfl rfl) <| rl_v rfl rfl rfl (ov_move rfl rfl) ?_
 first | refine rl_noD 65 rfl (fun h => h rfl) ?_ | refine rl_no 65 rfl (fun h => h rfl) ?_
 refine rl_gv rfl rfl rfl rfl rfl (ov_move rfl rfl) <| rl_gv rfl rfl rfl rfl rfl (ov_len rfl Try.underlying22 rfl) <| rl_gv rfl rfl rfl rfl rfl (ov_neq rfl rfl rfl) <| rl_v rfl rfl rfl (ov_pick_f rfl rfl rfl) <| rl_v rfl rfl rfl (ov_move rfl rfl) ?_
 first | refine rl_noD 70 rfl (fun h => h rfl) ?_ | refine rl_no 70 rfl (fun h => h rfl) ?_
 refine rl_gv rfl rfl rfl rfl rfl (ov_move rfl rfl) <| rl_gv rfl rfl rfl rfl rfl (ov_neq rfl rfl rfl) <| rl_v rfl rfl rfl (ov_pick_f rfl rfl rfl) <| rl_v rfl rfl rfl (ov_move rfl rfl) ?_
 first | refine rl_noD 74 rfl (fun h => h rfl) ?_ | refine rl_no 74 rfl (fun h => h rfl) ?_
 refine rl_gv rfl rfl rfl rfl rfl (ov_move rfl rfl) <| rl_gv rfl rfl rfl rfl rfl (ov_len rfl Try.underlying22 rfl) <| rl_gv rfl rfl rfl rfl rfl (ov_neq rfl rfl rfl) <| rl_v rfl rfl rfl (ov_pick_f rfl rfl rfl) <| rl_v rfl rfl rfl (ov_move rfl rfl) ?_
 first | refine rl_noD 79 rfl (fun h => h rfl) ?_ | refine rl_no 79 rfl (fun h => h rfl) ?_
 refine rl_gv rfl rfl rfl rfl rfl (ov_move rfl rfl) <| rl_gv rfl rfl rfl rfl rfl (ov_neq rfl rfl rfl) <| rl_v rfl rfl rfl (ov_pick_f rfl rfl rfl) <| rl_v rfl rfl rfl (ov_move rfl rfl) ?_
 first | refine rl_noD 83 rfl (fun h => h rfl) ?_ | refine rl_no 83 rfl (fun h => h rfl) ?_
 refine rl_gv rfl rfl rfl rfl rfl (ov_move rfl rfl) <| rl_gv rfl rfl rfl rfl rfl (ov_neq rfl rfl rfl) <| rl_v rfl rfl rfl (ov_pick_f rfl rfl rfl) <| rl_v rfl rfl rfl (ov_move rfl rfl) ?_
 first | refine rl_noD 87 rfl (fun h => h rfl) ?_ | refine rl_no 87 rfl (fun h => h rfl) ?_
 refine rl_gv rfl rfl rfl rfl rfl (ov_move rfl rfl) <| rl_gv rfl rfl rfl rfl rfl (ov_neq rfl rfl rfl) <| rl_v rfl rfl rfl (ov_pick_f rfl rfl rfl) <| rl_v rfl rfl rfl (ov_move rfl rfl) ?_
 first | refine rl_noD 91 rfl (fun h => h rfl) ?_ | refine rl_no 91 rfl (fun h => h rfl) ?_
 refine rl_gv rfl rfl rfl rfl rfl (ov_move rfl rfl) ?_
 refine rl_gcall callable_43 rfl rfl rfl rfl rfl rfl rfl rfl (deliver_nil 0 w.heap.size _ w w17 hOn4) (fun e19 w20 hp21 => ?_)
 obtain ⟨rfl, hOn5⟩ := hp21
 refine ⟨_, rfl, ?_⟩
 refine rl_gv rfl rfl rfl rfl rfl (ov_neq rfl rfl rfl) <| rl_v rfl rfl rfl (ov_pick_f rfl rfl rfl) <| rl_v rfl rfl rfl (ov_move rfl rfl) ?_
 first | refine rl_noD 96 rfl (fun h => h rfl) ?_ | refine rl_no 96 rfl (fun h => h rfl) ?_
 refine rl_gv rfl rfl rfl rfl rfl (ov_move rfl rfl) ?_
 refine rl_gcall callable_44 rfl rfl rfl rfl rfl rfl rfl rfl (lose_nil 0 w.heap.size _ w w20 hOn5) (fun e22 w23 hp24 => ?_)
 obtain ⟨rfl, hOn6⟩ := hp24
 refine ⟨_, rfl, ?_⟩
 refine rl_gv rfl rfl rfl rfl rfl (ov_neq rfl rfl rfl) <| rl_v rfl rfl rfl (ov_pick_f rfl rfl rfl) <| rl_v rfl rfl rfl (ov_move rfl rfl) ?_
 first | refine rl_noD 101 rfl (fun h => h rfl) ?_ | refine rl_no 101 rfl (fun h => h rfl) ?_
 refine rl_gv rfl rfl rfl rfl rfl (ov_move rfl rfl) ?_
 refine rl_gcall callable_45 rfl rfl rfl rfl rfl rfl rfl rfl (copy_nil 0 w.heap.size _ w w23 hOn6) (fun e25 w26 hp27 => ?_)
 obtain ⟨rfl, hOn7⟩ := hp27
 refine ⟨_, rfl, ?_⟩
 refine rl_gv rfl rfl rfl rfl rfl (ov_neq rfl rfl rfl) <| rl_v rfl rfl rfl (ov_pick_f rfl rfl rfl) <| rl_v rfl rfl rfl (ov_move rfl rfl) ?_
 first | refine rl_noD 106 rfl (fun h => h rfl) ?_ | refine rl_no 106 rfl (fun h => h rfl) ?_
 refine rl_gv rfl rfl rfl rfl rfl (ov_move rfl rfl) ?_
 refine rl_gcall callable_31 rfl rfl rfl rfl rfl rfl rfl rfl (tick_nil 0 w.heap.size _ w w26 hOn7) (fun e28 w29 hp30 => ?_)
 obtain ⟨rfl, hOn8⟩ := hp30
 refine ⟨_, rfl, ?_⟩
 refine rl_gv rfl rfl rfl rfl rfl (ov_neq rfl rfl rfl) <| rl_v rfl rfl rfl (ov_pick_f rfl rfl rfl) <| rl_v rfl rfl rfl (ov_move rfl rfl) ?_
 first | refine rl_noD 111 rfl (fun h => h rfl) ?_ | refine rl_no 111 rfl (fun h => h rfl) ?_
 refine rl_gv rfl rfl rfl rfl rfl (ov_move rfl rfl) ?_
 refine rl_gcall callable_29 rfl rfl rfl rfl rfl rfl rfl rfl (crash_nil 0 0 w.heap.size _ w w29 hOn8) (fun e31 w32 hp33 => ?_)
 obtain ⟨rfl, hOn9⟩ := hp33
 refine ⟨_, rfl, ?_⟩
 refine rl_gv rfl rfl rfl rfl rfl (ov_neq rfl rfl rfl) <| rl_v rfl rfl rfl (ov_pick_f rfl rfl rfl) <| rl_v rfl rfl rfl (ov_move rfl rfl) ?_
 first | refine rl_noD 116 rfl (fun h => h rfl) ?_ | refine rl_no 116 rfl (fun h => h rfl) ?_
 refine rl_gv rfl rfl rfl rfl rfl (ov_move rfl rfl) ?_
 refine rl_gcall callable_32 rfl rfl rfl rfl rfl rfl rfl rfl (restart_nil 0 w.heap.size _ w w32 hOn9) (fun e34 w35 hp36 => ?_)
 obtain ⟨rfl, hOn10⟩ := hp36
 refine ⟨_, rfl, ?_⟩
 refine rl_gv rfl rfl rfl rfl rfl (ov_neq rfl rfl rfl) <| rl_v rfl rfl rfl (ov_pick_f rfl rfl rfl) <| rl_v rfl rfl rfl (ov_move rfl rfl) ?_
 first | refine rl_noD 121 rfl (fun h => h rfl) ?_ | refine rl_no 121 rfl (fun h => h rfl) ?_
 refine rl_gv rfl rfl rfl rfl rfl (ov_move rfl rfl) ?_
 refine rl_gcall callable_42 rfl rfl rfl rfl rfl rfl rfl rfl (fuse_nil 0 1 w.heap.size _ w w35 hOn10) (fun e37 w38 hp39 => ?_)
 obtain ⟨rfl, hOn11⟩ := hp39
 refine ⟨_, rfl, ?_⟩
 refine rl_gv rfl rfl rfl rfl rfl (ov_neq rfl rfl rfl) <| rl_v rfl rfl rfl (ov_pick_f rfl rfl rfl) <| rl_v rfl rfl rfl (ov_move rfl rfl) ?_
 first | refine rl_noD 126 rfl (fun h => h rfl) ?_ | refine rl_no 126 rfl (fun h => h rfl) ?_
 refine rl_gv rfl rfl rfl rfl rfl (ov_move rfl rfl) ?_
 refine rl_gcall callable_38 rfl rfl rfl rfl rfl rfl rfl rfl (bag_nil w.heap.size _ w w38 hOn11) (fun e40 w41 hp42 => ?_)
 obtain ⟨rfl, hOn12⟩ := hp42
 refine ⟨_, rfl, ?_⟩
 refine rl_gv rfl rfl rfl rfl rfl (ov_len rfl Try.underlying79 rfl) <| rl_gv rfl rfl rfl rfl rfl (ov_neq rfl rfl rfl) <| rl_v rfl rfl rfl (ov_pick_f rfl rfl rfl) <| rl_v rfl rfl rfl (ov_move rfl rfl) ?_
 first | refine rl_noD 132 rfl (fun h => h rfl) ?_ | refine rl_no 132 rfl (fun h => h rfl) ?_
 refine rl_gv rfl rfl rfl rfl rfl (ov_move rfl rfl) ?_
 refine rl_gcall callable_30 rfl rfl rfl rfl rfl rfl rfl rfl (up_nil 0 w.heap.size _ w w41 hOn12) (fun e43 w44 hp45 => ?_)
 obtain ⟨rfl, hOn13⟩ := hp45
 refine ⟨_, rfl, ?_⟩
 refine rl_v rfl rfl rfl (ov_pick_f rfl rfl rfl) <| rl_v rfl rfl rfl (ov_move rfl rfl) ?_
 first | refine rl_noD 136 rfl (rfl) ?_ | refine rl_no 136 rfl (rfl) ?_
 refine rl_gv rfl rfl rfl rfl rfl (ov_move rfl rfl) ?_
 refine rl_gcall callable_34 rfl rfl rfl rfl rfl rfl rfl rfl (state_nil 1 w.heap.size _ w w44 hOn13) (fun e46 w47 hp48 => ?_)
 obtain ⟨rfl, hOn14⟩ := hp48
 refine ⟨_, rfl, ?_⟩
 refine rl_gv rfl rfl rfl rfl rfl (ov_neq rfl rfl rfl) <| rl_v rfl rfl rfl (ov_pick_f rfl rfl rfl) <| rl_v rfl rfl rfl (ov_move rfl rfl) ?_
 first | refine rl_noD 141 rfl (fun h => h rfl) ?_ | refine rl_no 141 rfl (fun h => h rfl) ?_
 refine rl_gv rfl rfl rfl rfl rfl (ov_move rfl rfl) ?_
 refine rl_gcall callable_19 rfl rfl rfl rfl rfl rfl rfl rfl (at_nil 1 1 w.heap.size _ w w47 hOn14) (fun e49 w50 hp51 => ?_)
 obtain ⟨rfl, hOn15⟩ := hp51
 refine ⟨_, rfl, ?_⟩
 refine rl_gv rfl rfl rfl rfl rfl (ov_neq rfl rfl rfl) <| rl_v rfl rfl rfl (ov_pick_f rfl rfl rfl) <| rl_v rfl rfl rfl (ov_move rfl rfl) ?_
 first | refine rl_noD 146 rfl (fun h => h rfl) ?_ | refine rl_no 146 rfl (fun h => h rfl) ?_
 refine rl_gv rfl rfl rfl rfl rfl (ov_move rfl rfl) ?_
 refine rl_gcall callable_22 rfl rfl rfl rfl rfl rfl rfl rfl (deals_nil w.heap.size _ w w50 hOn15) (fun e52 w53 hp54 => ?_)
 obtain ⟨rfl, hOn16⟩ := hp54
 refine ⟨_, rfl, ?_⟩
 refine rl_gv rfl rfl rfl rfl rfl (ov_len rfl Try.underlying52 rfl) <| rl_gv rfl rfl rfl rfl rfl (ov_neq rfl rfl rfl) <| rl_v rfl rfl rfl (ov_pick_f rfl rfl rfl) <| rl_v rfl rfl rfl (ov_move rfl rfl) ?_
 first | refine rl_noD 152 rfl (fun h => h rfl) ?_ | refine rl_no 152 rfl (fun h => h rfl) ?_
 refine rl_gv rfl rfl rfl rfl rfl (ov_move rfl rfl) ?_
 refine rl_gcall callable_46 rfl rfl rfl rfl rfl rfl rfl rfl (fork_nil w.heap.size _ w w53 hOn16) (fun e55 w56 hp57 => ?_)
 obtain ⟨rfl, hOn17⟩ := hp57
 refine ⟨_, rfl, ?_⟩
 refine rl_gv rfl rfl rfl rfl rfl (ov_ptrnot rfl Try.underlying27 rfl) <| rl_v rfl rfl rfl (ov_pick_f rfl rfl rfl) <| rl_nil <| run_cond_f rfl ?_
 have hOz := hOn17.nil_cons
 refine run_skip <| run_seq <| run_region <| rl_v rfl rfl rfl (ov_assign rfl rfl) <| rl_v rfl rfl rfl (ov_assign rfl rfl) <| rl_nil <| run_seq <| run_region <| rl_v rfl rfl rfl (ov_move rfl rfl) <| rl_v rfl rfl rfl (ov_fieldS rfl Try.underlying24 rfl (fo := 2) rfl (by kernel_rfl) rfl) ?_
 refine rl_v rfl rfl rfl (ov_load rfl Try.underlying22 rfl rfl (by exact hOz.cellL 1 rfl rfl)) ?_
 refine rl_v rfl rfl rfl (ov_fieldS rfl Try.underlying24 rfl (fo := 2) rfl (by kernel_rfl) rfl) ?_
 refine rl_v rfl rfl rfl (ov_load rfl Try.underlying22 rfl rfl (by exact hOz.cellL 1 rfl rfl)) ?_
 refine rl_v rfl rfl rfl (ov_len rfl Try.underlying22 rfl) <| rl_v rfl rfl rfl (ov_min rfl rfl rfl) <| rl_v rfl rfl rfl (ov_sliceH (min n1 1001) (s := 1) rfl Try.underlying22 (by kernel_rfl) rfl rfl (by omega) (by omega)) ?_
 refine rl_ow rfl (ow_appS rfl rfl rfl Try.underlying22 info_2 rfl hOz 0 (IRow.nil 2 (fun _ => iv 0)) rfl rfl rfl (((h1.take (Nat.min_le_left n1 1001)).below hOz.below)) (fun _ => rfl) ⟨by omega, by omega⟩) ?_
 rintro _ w58 ⟨v14, j14, rfl, hO59, hr14, hs60⟩
 have hOz2 := hO59.nil_cons
 refine rl_v rfl rfl rfl (ov_assign rfl rfl) <| rl_nil <| run_seq <| run_region <| rl_v rfl rfl rfl (ov_move rfl rfl) <| rl_v rfl rfl rfl (ov_fieldS rfl Try.underlying24 rfl (fo := 3) rfl (by kernel_rfl) rfl) ?_
 refine rl_v rfl rfl rfl (ov_load rfl Try.underlying22 rfl rfl (by exact hOz2.cellL 2 rfl rfl)) ?_
 refine rl_v rfl rfl rfl (ov_fieldS rfl Try.underlying24 rfl (fo := 3) rfl (by kernel_rfl) rfl) ?_
 refine rl_v rfl rfl rfl (ov_load rfl Try.underlying22 rfl rfl (by exact hOz2.cellL 2 rfl rfl)) ?_
 refine rl_v rfl rfl rfl (ov_len rfl Try.underlying22 rfl) <| rl_v rfl rfl rfl (ov_min rfl rfl rfl) <| rl_v rfl rfl rfl (ov_sliceH (min n2 1001) (s := 1) rfl Try.underlying22 (by kernel_rfl) rfl rfl (by omega) (by omega)) ?_
 refine rl_ow rfl (ow_appS rfl rfl rfl Try.underlying22 info_2 rfl hOz2 0 (IRow.nil 2 (fun _ => iv 0)) rfl rfl rfl (((h2.take (Nat.min_le_left n2 1001)).below hOz2.below)) (fun _ => rfl) ⟨by omega, by omega⟩) ?_
 rintro _ w61 ⟨v15, j15, rfl, hO62, hr15, hs63⟩
 have hq1 := rowCut (nil_join hr14)
 have hq2 := rowCut (nil_join hr15)
 have hb1 : (cutI G1 (min n1 1001)).length ≤ 1001 := by rw [cutI_len]; omega
 have hb2 : (cutI G2 (min n2 1001)).length ≤ 1001 := by rw [cutI_len]; omega
 obtain ⟨s1, z1, e1⟩ := hq1.val
 obtain ⟨s2, z2, e2⟩ := hq2.val
 subst e1
 subst e2
 clear hr14 hr15
 generalize cutI G1 (min n1 1001) = f1 at *
 generalize cutI G2 (min n2 1001) = f2 at *
 refine rl_v rfl rfl rfl (ov_assign rfl rfl) <| rl_nil <| run_seq <| run_region <| rl_v rfl rfl rfl (ov_fieldS rfl Try.underlying24 rfl (fo := 0) rfl (by kernel_rfl) rfl) ?_
 refine rl_v rfl rfl rfl (ov_load rfl Try.underlying3 rfl rfl (by exact hO62.cellL 2 rfl rfl)) ?_
 refine rl_v rfl rfl rfl (ov_fieldS rfl Try.underlying24 rfl (fo := 1) rfl (by kernel_rfl) rfl) ?_
 refine rl_v rfl rfl rfl (ov_load rfl Try.underlying3 rfl rfl (by exact hO62.cellL 2 rfl rfl)) ?_
 refine rl_v rfl rfl rfl (ov_move rfl rfl) <| rl_v rfl rfl rfl (ov_move rfl rfl) <| rl_v rfl rfl rfl (ov_buildL rfl lay_24 rfl (us := [_, _, _, _]) rfl) <| rl_ow rfl (ow_alloc _ rfl rfl rfl zero_24 rfl hO62) ?_
 rintro _ w64 ⟨b16, rfl, hO65, hs66⟩
 refine rl_ow rfl (ow_storeW rfl rfl (by kernel_rfl) hO65 0 rfl rfl (by rfl) rfl (by rfl)) ?_
 rintro _ w67 ⟨rfl, hO68, hs69⟩
 refine rl_nil <| run_seq <| run_region <| rl_v rfl rfl rfl (ov_loadW rfl Try.underlying24 rfl (by kernel_rfl) rfl hO68 0 rfl) ?_
 refine rl_call callable_15 rfl rfl rfl rfl rfl rfl (give_any m p s1 s2 f1.length f2.length z1 z2 w.heap.size _ w w67 hO68) (fun e70 w71 hp72 => ?_)
 obtain ⟨rfl, hOg⟩ := hp72
 refine ⟨_, rfl, ?_⟩
 refine rl_ow rfl (ow_alloc _ rfl rfl rfl zero_31 rfl hOg) ?_
 rintro _ w73 ⟨b17, rfl, hO74, hs75⟩
 refine rl_ow rfl (ow_storeW rfl rfl (by kernel_rfl) hO74 0 rfl rfl (by rfl) rfl (by rfl)) ?_
 rintro _ w76 ⟨rfl, hO77, hs78⟩
 refine rl_nil <| run_seq <| run_region <| rl_v rfl rfl rfl (ov_loadW rfl Try.underlying31 rfl (by kernel_rfl) rfl hO77 0 rfl) ?_
 refine rl_call callable_14 rfl rfl rfl rfl rfl rfl (newX m p f1 f2 s1 s2 z1 z2 w.heap.size _ w w76 hO77 (SrcI.of_row hq1 (k := 3) rfl) (SrcI.of_row hq2 (k := 2) rfl) (by omega) (by omega)) (fun e79 w80 hp81 => ?_)
 obtain ⟨ad, cc, T, rfl, hOx, hcase⟩ := hp81
 refine ⟨_, rfl, ?_⟩
 refine rl_v rfl rfl rfl (ov_move rfl rfl) <| rl_v rfl rfl rfl (ov_extract rfl rfl (by rfl)) ?_
 refine rl_v rfl rfl rfl (ov_extract rfl rfl (by rfl)) ?_
 refine rl_v rfl rfl rfl (ov_assign rfl rfl) <| rl_v rfl rfl rfl (ov_assign rfl rfl) <| rl_nil <| run_seq <| run_seq <| run_region <| rl_v rfl rfl rfl (ov_loadW rfl Try.underlying24 rfl (by kernel_rfl) rfl hOx 1 rfl) ?_
 refine rl_call callable_47 rfl rfl rfl rfl rfl rfl (validX m p f1 f2 s1 s2 z1 z2 w.heap.size _ w w80 hOx (SrcI.of_row hq1 (k := 3) rfl) (SrcI.of_row hq2 (k := 2) rfl)) (fun e82 w83 hp84 => ?_)
 obtain ⟨bv, rfl, hbv, hOv⟩ := hp84
 refine ⟨_, rfl, ?_⟩
 refine rl_v rfl rfl rfl (ov_not rfl rfl) <| rl_nil ?_
 first | refine run_cond_dec rfl (fun u1 => ?_) (fun u2 => ?_) | refine run_cond rfl (fun u1 => ?_) (fun u2 => ?_)
 ·have hbad : CfgBad m p f1 f2 := Classical.byContradiction fun h => by rw [hbv.2 h] at u1; cases u1
  obtain ⟨rfl, rfl⟩ : ad = none ∧ cc = 1 := hcase.elim (fun h => ⟨h.2.1, h.2.2⟩) (fun h => absurd hbad h.1)
  refine run_seq <| run_region <| rl_v rfl rfl rfl (ov_move rfl rfl) <| rl_v rfl rfl rfl (ov_eql rfl rfl rfl) <| rl_v rfl rfl rfl (ov_move rfl rfl) ?_
  first | refine rl_yesD 194 rfl (rfl) ?_ | refine rl_yes 194 rfl (rfl) ?_
  refine rl_gv rfl rfl rfl rfl rfl (ov_move rfl rfl) <| rl_gv rfl rfl rfl rfl rfl (ov_ptrnil rfl Try.underlying27 rfl) <| rl_v rfl rfl rfl (ov_pick_t rfl rfl rfl) <| rl_v rfl rfl rfl (ov_move rfl rfl) ?_
  refine rl_gcall callable_20 rfl rfl rfl rfl rfl rfl rfl rfl (awake_any w.heap.size _ w w83 hOv) (fun e85 w86 hp87 => ?_)
  obtain ⟨rfl, hOe⟩ := hp87
  refine ⟨_, rfl, ?_⟩
  refine rl_v rfl rfl rfl (ov_pick_t rfl rfl rfl) <| rl_v rfl rfl rfl (ov_assign rfl rfl) <| rl_nil <| run_ret Try.func11 (res1 Try.results11 rfl) ?_
  exact ⟨rfl, hOe.below⟩
 ·have hgood : ¬ CfgBad m p f1 f2 := hbv.1 (by revert u2; clear hbv; cases bv <;> decide)
  obtain ⟨A, Kw, Nw, rfl, rfl, rfl, hKw⟩ := hcase.elim (fun h => absurd h.1 hgood) (fun h => h.2)
  have hg := hgood
  unfold CfgBad at hg
  simp only [not_or] at hg
  obtain ⟨hg1, hg2, hg3, hg4, hg5, hg6, hg7, hg8⟩ := hg
  have hGi : Good (MW.init m p f1 f2) := Good.init (by omega) (by omega) (by omega) (by omega) (badP_of hg7) (badP_of hg8)
  have hLi := LInv.init m p f1 f2
  have hfl1 : ((MW.init m p f1 f2).fst 1).length = f1.length := rfl
  refine run_skip <| run_seq <| run_seq <| run_region <| rl_v rfl rfl rfl (ov_move rfl rfl) <| rl_v rfl rfl rfl (ov_neq rfl rfl rfl) <| rl_v rfl rfl rfl (ov_move rfl rfl) ?_
  first | refine rl_noD 203 rfl (fun h => h rfl) ?_ | refine rl_no 203 rfl (fun h => h rfl) ?_
  refine rl_gv rfl rfl rfl rfl rfl (ov_move rfl rfl) <| rl_gv rfl rfl rfl rfl rfl (ov_ptrnil rfl Try.underlying27 rfl) <| rl_v rfl rfl rfl (ov_pick_f rfl rfl rfl) <| rl_v rfl rfl rfl (ov_move rfl rfl) <| rl_gv rfl rfl rfl rfl rfl (ov_move rfl rfl) <| rl_gv rfl rfl rfl rfl rfl (ov_loadW rfl Try.underlying24 rfl (by kernel_rfl) rfl hOv 1 rfl) ?_
  refine rl_gcall callable_39 rfl rfl rfl rfl rfl rfl rfl rfl (rnew_any m p f1 f2 s1 s2 z1 z2 w.heap.size _ w w83 hOv) (fun e88 w89 hp90 => ?_)
  obtain ⟨rfl, hOr⟩ := hp90
  refine ⟨_, rfl, ?_⟩
  have hPl : ∀ y ∈ ([] : List (Option Blk)), y ∈ Nw := fun y hy => nomatch hy
  refine rl_gcall callable_41 rfl rfl rfl rfl rfl rfl rfl rfl (shows_any A (MW.init m p f1 f2) (RK.new s1 z1 s2 z2) w.heap.size [j14, j15] _ w w89 hGi hLi (by simp [MW.init]) (by simp) (XIn.new hq1 hq2 (by simp) (by simp)) (WAt.unfr (R := [_, _, _, _, _]) hOr hKw hPl)) (fun e91 w92 hp93 => ?_)
  obtain ⟨rfl, hWs⟩ := hp93
  refine ⟨_, rfl, ?_⟩
  refine rl_gv rfl rfl rfl rfl rfl (ov_not rfl rfl) <| rl_v rfl rfl rfl (ov_pick_f rfl rfl rfl) <| rl_nil <| run_cond_f rfl <| run_skip <| run_seq <| run_region <| rl_v rfl rfl rfl (ov_move rfl rfl) ?_
  refine rl_call callable_24 rfl rfl rfl rfl rfl rfl (balances_any A (MW.init m p f1 f2) 1 w.heap.size [] _ w w92 (.inl rfl) hGi hWs) (fun e94 w95 hp96 => ?_)
  obtain ⟨v20, j20, rfl, hr20, hWb⟩ := hp96
  refine ⟨_, rfl, ?_⟩
  obtain ⟨s20, z20, rfl⟩ := hr20.val
  obtain ⟨g1, hd1⟩ := hq1.addr
  obtain ⟨g2, hd2⟩ := hq2.addr
  refine rl_v rfl rfl rfl (ov_move rfl rfl) <| rl_v rfl rfl rfl (ov_extract rfl rfl (by rfl)) ?_
  refine rl_v rfl rfl rfl (ov_extract rfl rfl (by rfl)) ?_
  refine rl_v rfl rfl rfl (ov_assign rfl rfl) <| rl_v rfl rfl rfl (ov_assign rfl rfl) <| rl_nil <| run_seq <| run_seq <| run_region <| rl_v rfl rfl rfl (ov_assign rfl rfl) <| rl_nil <| run_block <| Run.keep [17, 18, 20, 22] (F' := [(17, _), (18, _), (20, _), (22, _)]) rfl <| run_loop5 (fun (i : Int) (d1 : Option Blk) (d2 : Option Blk) (H1 : Int → Value) (H2 : Int → Value) => [(22, .int .i64 i)]) [17, 18, 20] (fun (i : Int) (d1 : Option Blk) (d2 : Option Blk) (H1 : Int → Value) (H2 : Int → Value) (w97 : World) => 0 ≤ i ∧ i ≤ f1.length ∧ IRow (.slice s1 f1.length z1) 2 f1.length H1 d1 ∧ IRow (.slice s2 f2.length z2) 2 f2.length H2 d2 ∧ WAt w.heap.size w w97 A (MW.init m p f1 f2) [] [j20, some (lch b17 31 [iv m, iv p, .slice s1 f1.length z1, .slice s2 f2.length z2]), some (lch b16 24 [iv m, iv p, .slice s1 f1.length z1, .slice s2 f2.length z2]), d2, d1, some (lch b1 24 [iv m, iv p, .slice a1 n1 c1, .slice a2 n2 c2])]) (fun (i : Int) (d1 : Option Blk) (d2 : Option Blk) (H1 : Int → Value) (H2 : Int → Value) => ((f1.length : Int) - i).toNat) (0) (j14) (j15) (fun i => iv (gl f1 i)) (fun i => iv (gl f2 i)) ?_ (And.intro (by exact slot_int rfl (by first | omega)) (And.intro rfl (And.intro rfl (And.intro rfl trivial)))) ?_
  ·exact ⟨by omega, by omega, hq1, hq2, hWb⟩
  intro i d1 d2 H1 H2 w97 hIw97 ih98
  obtain ⟨hi0, hi1, hu1, hu2, hWj⟩ := hIw97
  show Run _ _ _ _ [(22, _), (17, _), (18, _), (20, _)] _ _
  obtain ⟨Kx, Nx, hOj, hKx, hPx⟩ := hWj.fr
  refine run_seq <| run_seq <| run_region <| rl_v rfl rfl rfl (ov_move rfl rfl) <| rl_v rfl rfl rfl (ov_fieldS rfl Try.underlying31 rfl (fo := 2) rfl (by kernel_rfl) rfl) ?_
  refine rl_v rfl rfl rfl (ov_load rfl Try.underlying22 rfl rfl (by exact hOj.cellL 1 rfl rfl)) ?_
  refine rl_v rfl rfl rfl (ov_len rfl Try.underlying22 rfl) <| rl_v rfl rfl rfl (ov_lss rfl rfl rfl) <| rl_nil ?_
  first | refine run_cond_dec rfl (fun hlt => ?_) (fun hlt => ?_) | refine run_cond rfl (fun hlt => ?_) (fun hlt => ?_)
  ·refine run_skip <| run_seq <| run_block <| run_seq <| run_region <| rl_v rfl rfl rfl (ov_fieldS rfl Try.underlying31 rfl (fo := 2) rfl (by kernel_rfl) rfl) ?_
   refine rl_v rfl rfl rfl (ov_load rfl Try.underlying22 rfl rfl (by exact hOj.cellL 1 rfl rfl)) ?_
   refine rl_v rfl rfl rfl (ov_move rfl rfl) <| rl_v rfl rfl rfl (ov_index1 rfl Try.underlying22 (by kernel_rfl) rfl rfl ⟨by omega, by omega⟩ (by exact (hd1 (by omega)))) ?_
   refine rl_ow rfl (ow_storeI1 rfl rfl (by kernel_rfl) hOj 4 hu1 rfl hd1 rfl ⟨by omega, by omega⟩ rfl rfl) ?_
   rintro _ w99 ⟨e1, rfl, hO100, hx1, hs101⟩
   refine rl_nil <| run_region <| rl_v rfl rfl rfl (ov_fieldS rfl Try.underlying31 rfl (fo := 3) rfl (by kernel_rfl) rfl) ?_
   refine rl_v rfl rfl rfl (ov_load rfl Try.underlying22 rfl rfl (by exact hO100.cellL 1 rfl rfl)) ?_
   refine rl_v rfl rfl rfl (ov_move rfl rfl) <| rl_v rfl rfl rfl (ov_index1 rfl Try.underlying22 (by kernel_rfl) rfl rfl ⟨by omega, by omega⟩ (by exact (hd2 (by omega)))) ?_
   refine rl_ow rfl (ow_storeI1 rfl rfl (by kernel_rfl) hO100 3 hu2 rfl hd2 rfl ⟨by omega, by omega⟩ rfl rfl) ?_
   rintro _ w102 ⟨e2, rfl, hO103, hx2, hs104⟩
   have hWz := WAt.unfr (R := [_, _, _, _, _, _]) hO103 hKx hPx
   refine rl_nil <| run_inBlock <| run_region <| rl_v rfl rfl rfl (ov_move rfl rfl) <| rl_v rfl rfl rfl (ov_add rfl rfl rfl (by omega)) ?_
   refine rl_v rfl rfl rfl (ov_assign rfl rfl) <| rl_nil ?_
   refine Run.use (ih98 (i + 1) (e1) (e2) (upd H1 i (iv 7)) (upd H2 i (iv 7)) _ ?_ ?_) (And.intro (by exact slot_int rfl (by first | omega)) (And.intro rfl (And.intro rfl (And.intro rfl trivial))))
   ·first | omega | (dsimp only; omega)
   ·exact ⟨by omega, by omega, hx1, hx2, hWz⟩
  ·refine run_exit rfl <| run_seq <| run_region <| rl_v rfl rfl rfl (ov_move rfl rfl) ?_
   refine rl_call callable_24 rfl rfl rfl rfl rfl rfl (balances_any A (MW.init m p f1 f2) 1 w.heap.size [] _ w w97 (.inl rfl) hGi hWj) (fun e105 w106 hp107 => ?_)
   obtain ⟨v23, j23, rfl, hr23, hWc⟩ := hp107
   refine ⟨_, rfl, ?_⟩
   obtain ⟨s23, z23, rfl⟩ := hr23.val
   refine rl_v rfl rfl rfl (ov_move rfl rfl) <| rl_v rfl rfl rfl (ov_extract rfl rfl (by rfl)) ?_
   refine rl_v rfl rfl rfl (ov_extract rfl rfl (by rfl)) ?_
   refine rl_v rfl rfl rfl (ov_assign rfl rfl) <| rl_v rfl rfl rfl (ov_assign rfl rfl) <| rl_nil <| run_seq <| run_region <| rl_v rfl rfl rfl (ov_move rfl rfl) <| rl_v rfl rfl rfl (ov_eql rfl rfl rfl) <| rl_v rfl rfl rfl (ov_move rfl rfl) ?_
   first | refine rl_yesD 241 rfl (rfl) ?_ | refine rl_yes 241 rfl (rfl) ?_
   refine rl_gv rfl rfl rfl rfl rfl (ov_move rfl rfl) <| rl_gv rfl rfl rfl rfl rfl (ov_move rfl rfl) ?_
   refine rl_gcall callable_25 rfl rfl rfl rfl rfl rfl rfl rfl (longs_same s20 s23 ((MW.init m p f1 f2).fst 1).length z20 z23 w.heap.size ((MW.init m p f1 f2).bal 1) _ w w106 (hWc.own) (SrcI.of_row hr20 (k := 1) rfl) (SrcI.of_row hr23 (k := 0) rfl) (by omega)) (fun e108 w109 hp110 => ?_)
   obtain ⟨rfl, hOl⟩ := hp110
   refine ⟨_, rfl, ?_⟩
   refine rl_v rfl rfl rfl (ov_pick_t rfl rfl rfl) <| rl_v rfl rfl rfl (ov_move rfl rfl) ?_
   first | refine rl_yesD 246 rfl (rfl) ?_ | refine rl_yes 246 rfl (rfl) ?_
   refine rl_gcall callable_20 rfl rfl rfl rfl rfl rfl rfl rfl (awake_any w.heap.size _ w w109 hOl) (fun e111 w112 hp113 => ?_)
   obtain ⟨rfl, hOe⟩ := hp113
   refine ⟨_, rfl, ?_⟩
   refine rl_v rfl rfl rfl (ov_pick_t rfl rfl rfl) <| rl_v rfl rfl rfl (ov_assign rfl rfl) <| rl_nil <| run_ret Try.func11 (res1 Try.results11 rfl) ?_
   exact ⟨rfl, hOe.below⟩
end Go.Proofs.Yteagflekbbchhaa
