import Derived.Test.YtlldeifbfpmbaaaFnH
import Derived.Test.YtlldeifbfpmbaaaFkA
set_option maxRecDepth 100000
namespace Go.Proofs.Ytlldeifbfpmbaaa
open Go.RowKit Go.Proofs Go.MapKept
def tdx (X : Int → Int) (N : Nat) (i : Int) : Int := IntKind.i64.wrap (IntKind.u64.wrap (X i) % IntKind.u64.wrap (N : Int))
def tdy (X : Int → Int) (N : Nat) : Nat → Nat × (Int → Int)
 | 0 => (0, fun _ => 0)
 | i + 1 => if rk (tdy X N i).2 (tdy X N i).1 (tdx X N i) = (tdy X N i).1 then ((tdy X N i).1 + 1, upd (tdy X N i).2 (tdy X N i).1 (tdx X N i)) else tdy X N i
theorem tdy_yes {X : Int → Int} {N i : Nat} (h : rk (tdy X N i).2 (tdy X N i).1 (tdx X N i) = (tdy X N i).1) : tdy X N (i + 1) = ((tdy X N i).1 + 1, upd (tdy X N i).2 (tdy X N i).1 (tdx X N i)) := if_pos h
theorem tdy_no {X : Int → Int} {N i : Nat} (h : ¬ rk (tdy X N i).2 (tdy X N i).1 (tdx X N i) = (tdy X N i).1) : tdy X N (i + 1) = tdy X N i := if_neg h
theorem tdx_rng (X : Int → Int) {N : Nat} (hN0 : 0 < N) (hN : N ≤ 1000) (i : Int) : 0 ≤ tdx X N i ∧ tdx X N i < N := by
 unfold tdx
 have eN : IntKind.u64.wrap (N : Int) = N := IntWalk.u64_in _ (by omega)
 rw [eN]
 have h1 : 0 ≤ IntKind.u64.wrap (X i) % (N : Int) := Int.emod_nonneg _ (by omega)
 have h2 : IntKind.u64.wrap (X i) % (N : Int) < N := Int.emod_lt_of_pos _ (by omega)
 rw [IntWalk.i64_in _ (by omega)]
 exact ⟨h1, h2⟩
theorem tdy_le (X : Int → Int) (N : Nat) : ∀ n : Nat, (tdy X N n).1 ≤ n
 | 0 => Nat.le_refl _
 | n + 1 => by
  have ih := tdy_le X N n
  by_cases c : rk (tdy X N n).2 (tdy X N n).1 (tdx X N n) = (tdy X N n).1
  ·rw [tdy_yes c]; show (tdy X N n).1 + 1 ≤ n + 1; omega
  ·rw [tdy_no c]; omega
theorem tdy_isL (X : Int → Int) {N : Nat} (hN0 : 0 < N) (hN : N ≤ 1000) : ∀ n : Nat, IsL (tdy X N n).1 (tdy X N n).2 N
 | 0 => ⟨fun k k0 k1 => absurd (show k < 0 from k1) (by omega), fun a b a0 a1 => absurd (show a < 0 from a1) (by omega)⟩
 | n + 1 => by
  have ih := tdy_isL X hN0 hN n
  by_cases c : rk (tdy X N n).2 (tdy X N n).1 (tdx X N n) = (tdy X N n).1
  ·rw [tdy_yes c]
   have hx := tdx_rng X hN0 hN n
   obtain ⟨k, hk⟩ : ∃ k, k = (tdy X N n).1 := ⟨_, rfl⟩
   obtain ⟨Y, hY⟩ : ∃ Y, Y = (tdy X N n).2 := ⟨_, rfl⟩
   obtain ⟨x, hxe⟩ : ∃ x, x = tdx X N n := ⟨_, rfl⟩
   rw [← hk, ← hY, ← hxe] at c ⊢
   rw [← hk, ← hY] at ih
   rw [← hxe] at hx
   have hno : ∀ j : Int, 0 ≤ j → j < k → Y j ≠ x := fun j j0 j1 => rk_ne (n := k) j0 (by omega)
   refine ⟨fun j j0 j1 => ?_, fun a b a0 a1 b0 b1 e => ?_⟩
   ·change j < ((k + 1 : Nat) : Int) at j1
    show 0 ≤ upd Y k x j ∧ upd Y k x j < N
    by_cases c2 : j = k
    ·rw [c2, upd_same]; exact hx
    ·rw [upd_ne _ _ c2]; exact ih.1 j j0 (by omega)
   ·change a < ((k + 1 : Nat) : Int) at a1
    change b < ((k + 1 : Nat) : Int) at b1
    change upd Y k x a = upd Y k x b at e
    by_cases c2 : a = k <;> by_cases d : b = k
    ·omega
    ·rw [c2, upd_same, upd_ne _ _ d] at e; exact absurd e.symm (hno b b0 (by omega))
    ·rw [d, upd_same, upd_ne _ _ c2] at e; exact absurd e (hno a a0 (by omega))
    ·rw [upd_ne _ _ c2, upd_ne _ _ d] at e; exact ih.2 a b a0 (by omega) b0 (by omega) e
  ·rw [tdy_no c]; exact ih
theorem tidyF_any (ao : Option Addr) (n c N : Nat) (X : Int → Int) (w : World) (hn : n ≤ 1000000) (hN0 : 0 < N) (hN : N ≤ 1000) (h : IAt w.heap.size w ao n (fun i => iv (X i))) :
  Calls Try.prog 18 #[.slice ao n c, iv N] w fun e w' => ∃ (v : Value) (c' : Option Blk), e = .returned v ∧ IRow v 3 (tdy X N n).1 (fun i => iv ((tdy X N n).2 i)) c' ∧ Own w.heap.size w w' [c'] := by
 obtain ⟨gb, go, hga, hrow⟩ := h.open
 have eN : IntKind.u64.wrap (N : Int) = N := IntWalk.u64_in _ (by omega)
 refine calls_of_run (F := [(0, _), (1, _)]) Try.func18 rfl Try.ntmps18 rfl rfl ?_
 have hO0 := Own.init w
 refine run_seq <| run_region <| rl_v rfl rfl rfl (ov_assign rfl rfl) <| rl_nil <| run_seq <| run_region <| rl_v rfl rfl rfl (ov_assign rfl rfl) <| rl_nil <| run_seq <| run_seq <| run_region <| rl_v rfl rfl rfl (ov_assign rfl rfl) <| rl_nil <| run_block <| Run.keep [0, 1, 5, 6] (F' := [(0, _), (1, _), (5, _), (6, _)]) rfl <| run_loop3 (fun (i : Nat) (oa : Option Addr) (oc : Nat) => [(6, .int .i64 (i : Int)), (5, .slice oa (tdy X N i).1 oc)]) [0, 1] (fun (i : Nat) (oa : Option Addr) (oc : Nat) (w1 : World) => ∃ (c' : Option Blk), i ≤ n ∧ IRow (.slice oa (tdy X N i).1 oc) 3 (tdy X N i).1 (fun j => iv ((tdy X N i).2 j)) c' ∧ Own w.heap.size w w1 [c']) (fun (i : Nat) (oa : Option Addr) (oc : Nat) => n - i) (0) (none) (0) ?_ (And.intro (by exact slot_int rfl (by first | omega)) (And.intro rfl (And.intro rfl (And.intro rfl trivial)))) ?_
 ·exact ⟨none, by omega, IRow.nil _ _, hO0.nil_cons⟩
 intro i oa oc w1 hIw1 ih2
 obtain ⟨c', hi1, hr, hO⟩ := hIw1
 show Run _ _ _ _ [(6, _), (5, _), (0, _), (1, _)] _ _
 have hle := tdy_le X N i
 refine run_seq <| run_seq <| run_region_join 15 (.bool (decide ((i : Int) < n))) [0, 1, 5, 6] (fun hk3 => ?_) ?_
 ·refine rl_v rfl rfl rfl (ov_move rfl rfl) <| rl_v rfl rfl rfl (ov_move rfl rfl) <| rl_v rfl rfl rfl (ov_len rfl Try.underlying23 rfl) <| rl_v rfl rfl rfl (ov_lss rfl rfl rfl) <| rl_v rfl rfl rfl (ov_move rfl rfl) ?_
  first | refine rl_split_dec 12 rfl (fun hg4 => ?_) (fun hg4 => ?_) | refine rl_split 12 rfl (fun hg4 => ?_) (fun hg4 => ?_)
  ·refine rl_gv rfl rfl rfl rfl rfl (ov_move rfl rfl) <| rl_gv rfl rfl rfl rfl rfl (ov_gtr rfl rfl rfl) <| rl_v rfl rfl rfl (ov_pick_t rfl rfl rfl) ?_
   refine rl_nil (hk3 _ (jbd rfl (by omega)) (And.intro rfl (And.intro rfl (And.intro rfl (And.intro rfl trivial)))))
  ·refine rl_gskip rfl rfl rfl rfl rfl rfl <| rl_gskip rfl rfl rfl rfl rfl rfl <| rl_v rfl rfl rfl (ov_pick_f rfl rfl rfl) ?_
   refine rl_nil (hk3 _ (jbf rfl (by omega)) (And.intro rfl (And.intro rfl (And.intro rfl (And.intro rfl trivial)))))
 ·show Run _ _ _ _ [(15, _), (0, _), (1, _), (5, _), (6, _)] _ _
  first | refine run_cond_dec rfl (fun h2 => ?_) (fun h2 => ?_) | refine run_cond rfl (fun h2 => ?_) (fun h2 => ?_)
  ·have hx1 := u64_nn5 (X i)
   have hx2 := tdx_rng X hN0 hN i
   refine run_skip <| run_seq <| run_block <| run_seq <| run_region <| rl_v rfl rfl rfl (ov_move rfl rfl) <| rl_v rfl rfl rfl (ov_move rfl rfl) <| rl_v rfl rfl rfl (ov_index1 rfl Try.underlying23 (by kernel_rfl) rfl rfl ⟨by omega, by omega⟩ (by exact hga (by omega))) ?_
   refine rl_v rfl rfl rfl (ov_load rfl Try.underlying3 rfl rfl (by exact hrow _ hO.below _ (by omega) (by omega))) ?_
   refine rl_v rfl rfl rfl (ov_conv rfl Try.underlying3 Try.underlying37 rfl) <| rl_v rfl rfl rfl (ov_move rfl rfl) <| rl_v rfl rfl rfl (ov_conv rfl Try.underlying3 Try.underlying37 rfl) <| rl_v rfl rfl rfl (ov_rem rfl rfl rfl (u64_nn5 _) (by omega)) ?_
   refine rl_v rfl rfl rfl (ov_conv rfl Try.underlying37 Try.underlying3 rfl) <| rl_v rfl rfl rfl (ov_assign rfl rfl) <| rl_nil <| run_seq ?_
   obtain ⟨x, hx⟩ : ∃ x, x = tdx X N i := ⟨_, rfl⟩
   have hx9 : IntKind.i64.wrap (IntKind.u64.wrap (X i) % IntKind.u64.wrap (N : Int)) = x := hx.symm
   rw [hx9]
   rw [← hx] at hx2
   refine run_region <| rl_v rfl rfl rfl (ov_move rfl rfl) <| rl_v rfl rfl rfl (ov_move rfl rfl) ?_
   refine rl_call callable_19 rfl rfl rfl rfl rfl rfl (rank5_any oa (tdy X N i).1 oc (tdy X N i).2 x _ (by omega) (hr.reads hO 0 rfl)) (fun e5 w6 hp7 => ?_)
   obtain ⟨rfl, hb⟩ := hp7
   refine ⟨_, rfl, ?_⟩
   have hO8 := hO.past hb
   refine rl_v rfl rfl rfl (ov_move rfl rfl) <| rl_v rfl rfl rfl (ov_len rfl Try.underlying23 rfl) <| rl_v rfl rfl rfl (ov_eql rfl rfl rfl) <| rl_nil ?_
   first | refine run_cond_dec rfl (fun h3 => ?_) (fun h3 => ?_) | refine run_cond rfl (fun h3 => ?_) (fun h3 => ?_)
   ·refine run_region <| rl_v rfl rfl rfl (ov_move rfl rfl) <| rl_v rfl rfl rfl (ov_move rfl rfl) <| rl_ow rfl (ow_one rfl rfl rfl Try.underlying23 info_3 rfl hO8 rfl rfl) ?_
    rintro _ w9 ⟨b9, rfl, hO10, hs11⟩
    refine rl_ow rfl (ow_app1 rfl rfl rfl Try.underlying23 info_3 rfl hO10 0 hr rfl rfl rfl rfl ⟨by omega, by omega⟩) ?_
    rintro _ w12 ⟨v5, c5, rfl, hO13, hr5, hs14⟩
    obtain ⟨oa5, oc5, rfl⟩ := Row.val hr5
    have hy : tdy X N (i + 1) = ((tdy X N i).1 + 1, upd (tdy X N i).2 (tdy X N i).1 x) := by rw [hx]; exact tdy_yes (by rw [← hx]; exact h3)
    have hy1 : (tdy X N (i + 1)).1 = (tdy X N i).1 + 1 := by rw [hy]
    have hy2 : (tdy X N (i + 1)).2 = upd (tdy X N i).2 (tdy X N i).1 x := by rw [hy]
    rw [← hy1]
    refine rl_v rfl rfl rfl (ov_assign rfl rfl) <| rl_nil <| run_inBlock <| run_region <| rl_v rfl rfl rfl (ov_move rfl rfl) <| rl_v rfl rfl rfl (ov_add rfl rfl rfl (by omega)) ?_
    refine rl_v rfl rfl rfl (ov_assign rfl rfl) <| rl_nil ?_
    refine Run.use (ih2 (i + 1) (oa5) (oc5) _ ?_ ?_) (And.intro (by exact slot_int rfl (by first | omega)) (And.intro rfl (And.intro rfl (And.intro rfl trivial))))
    ·first | omega | (dsimp only; omega)
    ·exact ⟨c5, by omega, by rw [hy2, hy1]; exact hr5.congr (fun j j0 j1 => by unfold upd; split <;> rfl), hO13⟩
   ·have hy : tdy X N (i + 1) = tdy X N i := tdy_no (by rw [← hx]; exact h3)
    rw [← hy] at hr ⊢
    refine run_skip <| run_inBlock <| run_region <| rl_v rfl rfl rfl (ov_move rfl rfl) <| rl_v rfl rfl rfl (ov_add rfl rfl rfl (by omega)) ?_
    refine rl_v rfl rfl rfl (ov_assign rfl rfl) <| rl_nil ?_
    refine Run.use (ih2 (i + 1) (oa) (oc) _ ?_ ?_) (And.intro (by exact slot_int rfl (by first | omega)) (And.intro rfl (And.intro rfl (And.intro rfl trivial))))
    ·first | omega | (dsimp only; omega)
    ·exact ⟨c', by omega, hr, hO8⟩
  ·obtain rfl : i = n := by omega
   refine run_exit rfl <| run_seq <| run_region <| rl_v rfl rfl rfl (ov_move rfl rfl) <| rl_v rfl rfl rfl (ov_assign rfl rfl) <| rl_nil <| run_ret Try.func18 (res1 Try.results18 rfl) ?_
   exact ⟨_, c', rfl, hr, hO⟩
def tdL (GL : Int → Nat) (GE : Int → Int → Int) (N : Nat) (r : Int) : Nat := (tdy (GE r) N (min (GL r) 12)).1
def tdE (GL : Int → Nat) (GE : Int → Int → Int) (N : Nat) (r : Int) : Int → Int := (tdy (GE r) N (min (GL r) 12)).2
theorem OTab.congrL {v : Value} {T1 T2 : TypeId} {n : Nat} {L L' : Int → Nat} {F F' : Int → Int → Value} {H : List (Option Blk)} (h : OTab v T1 T2 n L F H) (e : ∀ r : Int, 0 ≤ r → r < n → L' r = L r ∧ F' r = F r) : OTab v T1 T2 n L' F' H := by
 obtain ⟨c, rv, ch, h1, h2, h3⟩ := h
 refine ⟨c, rv, ch, h1, h2, fun r hr => ?_⟩
 obtain ⟨e1, e2⟩ := e r (by omega) (by omega)
 rw [e1, e2]
 exact h3 r hr
theorem refOutcome_any (ga la : Option Addr) (n gc ln lc : Nat) (l : Int → Int) (w : World) (hln : ln ≤ 1000000) (hl : IAt w.heap.size w la ln (fun i => iv (l i))) :
  Calls Try.prog 28 #[.agg #[.slice ga n gc], .slice la ln lc] w fun e w' => e = .returned (.bool (dB (ln = n ∧ IsL ln l n))) ∧ Below w.heap.size w w' := by
 refine calls_of_run (F := [(0, _), (1, _)]) Try.func28 rfl Try.ntmps28 rfl rfl ?_
 have hO0 := Own.init w
 refine run_seq <| run_region <| rl_ow rfl (ow_box _ rfl rfl rfl rfl rfl hO0) ?_
 rintro _ w1 ⟨b2, rfl, hO2, hs3⟩
 refine rl_v rfl rfl rfl (ov_assign rfl rfl) <| rl_nil <| run_seq <| run_region <| rl_v rfl rfl rfl (ov_move rfl rfl) <| rl_v rfl rfl rfl (ov_len rfl Try.underlying23 rfl) <| rl_v rfl rfl rfl (ov_fieldS rfl Try.underlying47 rfl (fo := 0) rfl (by kernel_rfl) rfl) ?_
 refine rl_v rfl rfl rfl (ov_load rfl Try.underlying22 rfl rfl (by exact hO2.cellL 0 rfl (off := 0) rfl)) ?_
 refine rl_v rfl rfl rfl (ov_len rfl Try.underlying22 rfl) <| rl_v rfl rfl rfl (ov_eql rfl rfl rfl) <| rl_v rfl rfl rfl (ov_move rfl rfl) ?_
 first | refine rl_split_dec 11 rfl (fun g1 => ?_) (fun g1 => ?_) | refine rl_split 11 rfl (fun g1 => ?_) (fun g1 => ?_)
 ·refine rl_gv rfl rfl rfl rfl rfl (ov_move rfl rfl) <| rl_gv rfl rfl rfl rfl rfl (ov_fieldS rfl Try.underlying47 rfl (fo := 0) rfl (by kernel_rfl) rfl) ?_
  refine rl_gv rfl rfl rfl rfl rfl (ov_load rfl Try.underlying22 rfl rfl (by exact hO2.cellL 0 rfl (off := 0) rfl)) ?_
  refine rl_gv rfl rfl rfl rfl rfl (ov_len rfl Try.underlying22 rfl) ?_
  refine rl_gcall callable_60 rfl rfl rfl rfl rfl rfl rfl rfl (callsDB (refRight_any la ln lc n l _ hln (hO2.iatF hl))) (fun e5 w6 hp7 => ?_)
  obtain ⟨rfl, hb⟩ := hp7
  refine ⟨_, rfl, ?_⟩
  have hO8 := hO2.past hb
  have hg : ln = n := by omega
  refine rl_v rfl rfl rfl (ov_pick_t rfl rfl rfl) <| rl_v rfl rfl rfl (ov_assign rfl rfl) <| rl_nil <| run_ret Try.func28 (res1 Try.results28 rfl) ?_
  exact ⟨congrArg (fun x => Ending.returned (.bool x)) (congrArg (fun p : Prop => dB p) (propext ⟨fun h => ⟨hg, h⟩, fun h => h.2⟩)), hO8.below⟩
 ·have hno : dB (ln = n ∧ IsL ln l n) = false := by
   cases e : dB (ln = n ∧ IsL ln l n)
   ·rfl
   ·have := (dB_iff.1 e).1; omega
  refine rl_gskip rfl rfl rfl rfl rfl rfl <| rl_gskip rfl rfl rfl rfl rfl rfl <| rl_gskip rfl rfl rfl rfl rfl rfl <| rl_gskip rfl rfl rfl rfl rfl rfl <| rl_gskip rfl rfl rfl rfl rfl rfl <| rl_v rfl rfl rfl (ov_pick_f rfl rfl rfl) <| rl_v rfl rfl rfl (ov_assign rfl rfl) <| rl_nil <| run_ret Try.func28 (res1 Try.results28 rfl) ?_
  exact ⟨congrArg (fun x => Ending.returned (.bool x)) hno.symm, hO2.below⟩
end Go.Proofs.Ytlldeifbfpmbaaa
