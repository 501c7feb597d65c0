import Derived.Test.YtijffdhailddoaaHeap2
import Derived.Test.YtijffdhailddoaaSet0
import Derived.Test.YtijffdhailddoaaCanA
set_option maxRecDepth 100000
namespace Go.Proofs.Ytijffdhailddoaa
open Go.RowKit Go.Proofs
theorem top_any (b n cap : Nat) (ao : Option Addr) (P A : Int → Int) (w : World) (hn : 1 ≤ n) (hL : LAt w.heap.size w b [.slice ao n cap]) (h : SAt w.heap.size w ao 2 n (hpG P A)) :
  Calls Try.prog 18 #[.pointer (some ⟨b, 0, none⟩)] w fun e w' => e = .returned (.agg [.int .i64 (P 0), .int .i64 (A 0)].toArray) ∧ Below w.heap.size w w' := by
 obtain ⟨gb, go, hga, hrow⟩ := h.open (by omega)
 have hl := hL.open
 refine calls_of_run (F := [(0, _)]) Try.func18 rfl Try.ntmps18 rfl rfl ?_
 have hO0 := Own.init w
 refine run_seq <| run_region <| rl_ow rfl (ow_alloc _ rfl rfl rfl zero_61 rfl hO0) ?_
 rintro _ w1 ⟨b2, rfl, hO2, hs3⟩
 refine rl_nil <| run_seq <| run_region <| rl_v rfl rfl rfl (ov_move rfl rfl) <| rl_v rfl rfl rfl (ov_nil rfl rfl) <| rl_v rfl rfl rfl (ov_fieldS rfl Try.underlying58 rfl (fo := 0) rfl (by kernel_rfl) rfl) ?_
 refine rl_v rfl rfl rfl (ov_load rfl Try.underlying56 rfl rfl (by exact hl _ hO2.below rfl)) ?_
 refine rl_v rfl rfl rfl (ov_index rfl Try.underlying56 (by kernel_rfl) (s := 2) rfl rfl ⟨by omega, by omega⟩ (by exact hga (by omega))) ?_
 refine rl_v rfl rfl rfl (ov_loadE rfl Try.underlying61 rfl (by kernel_rfl) rfl ⟨by omega, by omega⟩ rfl (hrow _ hO2.below)) ?_
 refine rl_ow rfl (ow_storeW rfl rfl (by kernel_rfl) hO2 0 rfl rfl (by rfl) rfl (by rfl)) ?_
 rintro _ w4 ⟨rfl, hO5, hs6⟩
 refine rl_nil <| run_ret Try.func18 (resW Try.results18 rfl Try.underlying61 rfl (by kernel_rfl) hO5 0 rfl) ?_
 exact ⟨rfl, hO5.below⟩
theorem Cont.congr {N n : Int} {P A S S' : Int → Int} (h : Cont N n P A S) (e : ∀ i : Int, 0 ≤ i → i < N → S i = S' i) : Cont N n P A S' :=
 ⟨fun k k0 k1 => by have := h.at_ k k0 k1; rw [← e _ this.1.1 this.1.2]; exact this, h.inj, fun i i0 i1 hi => h.all i i0 i1 (by rw [e i i0 i1]; exact hi)⟩
theorem pay_any (b B n : Nat) (N : Int) (sv : Value) (P A S : Int → Int) (x : Int) (c : Option Blk) (w0 w : World) (H : List (Option Blk)) (hn1 : 1 ≤ n) (hn : n ≤ 50) (hx0 : 0 ≤ x) (hx1 : x ≤ A 0) (hA : A 0 ≤ 1000000000) (hH : HP n P A) (hC : Cont N n P A S) (hO : Own B w0 w (c :: some (lch b 58 [sv]) :: H)) (hr : SRow sv 61 2 n (hpG P A) c) :
  Calls Try.prog 19 #[(.iface 54 (.pointer (some ⟨b, 0, none⟩))), .int .i64 x] w fun e w' => e = .returned (.tuple #[]) ∧ ∃ (n' : Nat) (sv' : Value) (P' A' : Int → Int) (c' : Option Blk), n' ≤ n ∧ Own B w0 w' (c' :: some (lch b 58 [sv']) :: H) ∧ SRow sv' 61 2 n' (hpG P' A') c' ∧ HP n' P' A' ∧ Cont N n' P' A' (upd S (P 0) (A 0 - x)) := by
 obtain ⟨ao, cap, rfl⟩ := Row.val hr
 have h0 := hC.at_ 0 (by omega) (by omega)
 refine calls_of_run (F := [(0, _), (1, _)]) Try.func19 rfl Try.ntmps19 rfl rfl <| run_seq <| run_region <| rl_v rfl rfl rfl (ov_move rfl rfl) ?_
 refine rl_call callable_38 rfl rfl rfl rfl rfl rfl (heapPop_any b B n cap ao P A c w0 _ H hn1 hn hH hO hr) (fun e1 w2 hp3 => ?_)
 obtain ⟨rfl, sv1, P1, A1, c1, hO1, hr1, hH1, hC1⟩ := hp3
 refine ⟨_, rfl, ?_⟩
 refine rl_v rfl rfl rfl (ov_assert rfl Try.underlying61 rfl rfl) <| rl_ow rfl (ow_alloc _ rfl rfl rfl zero_61 rfl hO1) ?_
 rintro _ w4 ⟨b4, rfl, hO5, hs6⟩
 refine rl_ow rfl (ow_storeW rfl rfl (by kernel_rfl) hO5 0 rfl rfl (by rfl) rfl (by rfl)) ?_
 rintro _ w7 ⟨rfl, hO8, hs9⟩
 refine rl_nil <| run_seq <| run_region <| rl_v rfl rfl rfl (ov_fieldS rfl Try.underlying61 rfl (fo := 1) rfl (by kernel_rfl) rfl) ?_
 refine rl_v rfl rfl rfl (ov_load rfl Try.underlying2 rfl rfl (by exact hO8.cellL 0 rfl rfl)) ?_
 refine rl_v rfl rfl rfl (ov_move rfl rfl) <| rl_v rfl rfl rfl (ov_sub rfl rfl rfl (by omega)) ?_
 refine rl_v rfl rfl rfl (ov_fieldS rfl Try.underlying61 rfl (fo := 1) rfl (by kernel_rfl) rfl) ?_
 refine rl_ow rfl (ow_storeL rfl rfl (by kernel_rfl) hO8 0 rfl rfl rfl rfl rfl) ?_
 rintro _ w10 ⟨rfl, hO11, hs12⟩
 refine rl_nil <| run_seq <| run_region <| rl_v rfl rfl rfl (ov_fieldS rfl Try.underlying61 rfl (fo := 1) rfl (by kernel_rfl) rfl) ?_
 refine rl_v rfl rfl rfl (ov_load rfl Try.underlying2 rfl rfl (by exact hO11.cellL 0 rfl rfl)) ?_
 refine rl_v rfl rfl rfl (ov_gtr rfl rfl rfl) <| rl_nil ?_
 first | refine run_cond_dec rfl (fun h3 => ?_) (fun h3 => ?_) | refine run_cond rfl (fun h3 => ?_) (fun h3 => ?_)
 ·have hO5 := hO11.tail
  have hC2 := hC1 N S hC
  refine run_region <| rl_v rfl rfl rfl (ov_move rfl rfl) <| rl_v rfl rfl rfl (ov_loadW rfl Try.underlying61 rfl (by kernel_rfl) rfl hO11 0 rfl) ?_
  refine rl_v rfl rfl rfl (ov_iface rfl Try.underlying61 (by intro _ h; cases h) rfl) ?_
  refine rl_call callable_16 rfl rfl rfl rfl rfl rfl (heapPush_any b B (n - 1) sv1 P1 A1 (P 0) (A 0 - x) c1 w0 _ H (by omega) hH1 hO11.tail hr1) (fun e13 w14 hp15 => ?_)
  obtain ⟨rfl, sv2, P2, A2, c2, hO2, hr2, hH2, hC3⟩ := hp15
  refine ⟨_, rfl, ?_⟩
  refine rl_nil <| run_end Try.func19 (res0 Try.results19) ?_
  exact ⟨rfl, n - 1 + 1, sv2, P2, A2, c2, by omega, hO2, hr2, by rw [Int.natCast_add]; exact hH2, by rw [Int.natCast_add]; exact (hC3 N _ h0.1.1 h0.1.2 (upd_same _ _ _) (by omega) hC2).congr fun i _ _ => by unfold upd; split <;> rfl⟩
 ·refine run_skip <| run_end Try.func19 (res0 Try.results19) ?_
  exact ⟨rfl, n - 1, sv1, P1, A1, c1, by omega, hO11.tail, hr1, hH1, (hC1 N S hC).congr fun i _ _ => by unfold upd; split; omega; rfl⟩
theorem Own.swap2 {B : Nat} {w0 w : World} {a b c d : Option Blk} {H : List (Option Blk)} (h : Own B w0 w (a :: b :: c :: d :: H)) : Own B w0 w (c :: d :: a :: b :: H) :=
 h.perm ((List.perm_append_comm (l₁ := [a, b]) (l₂ := [c, d])).append_right H)
noncomputable def trG (n : Nat) (p : Int → Int) : Int → List Value := fun k => [.int .i64 (payer n (stP n p k.toNat)), .int .i64 (getter n (stP n p k.toNat)), .int .i64 (moved n (stP n p k.toNat))]
end Go.Proofs.Ytijffdhailddoaa
