import Derived.Test.YtlldeifbfpmbaaaFnJ
set_option maxRecDepth 100000
namespace Go.Proofs.Ytlldeifbfpmbaaa
open Go.RowKit Go.Proofs Go.MapKept
theorem free_ex {E : Int → Int} {i N : Nat} (h : i < N) : ∃ d : Int, (0 ≤ d ∧ d < N) ∧ rk E i d = i := by
 refine Classical.byContradiction fun hno => ?_
 have hall : ∀ x : Int, 0 ≤ x → x < N → rk E i x < i := fun x x0 x1 => by
  have := rk_rng E x i
  exact Classical.byContradiction fun h => hno ⟨x, ⟨x0, x1⟩, by omega⟩
 have := pigeon (n := N) (m := i) (e := fun x => rk E i x) (fun x x0 x1 => ⟨(rk_rng E x i).1, hall x x0 x1⟩) fun a b a0 a1 b0 b1 e => by
  have h1 := rk_at (hall a a0 a1)
  have h2 := rk_at (hall b b0 b1)
  change rk E i a = rk E i b at e
  rw [← h1, ← h2, e]
 omega
set_option maxHeartbeats 1000000 in
theorem order5_any (ao : Option Addr) (n c N : Nat) (X : Int → Int) (w : World) (hn : n ≤ 1000000) (hN : N ≤ 1000) (h : IAt w.heap.size w ao n (fun i => iv (X i))) :
  Calls Try.prog 32 #[.slice ao n c, iv N] w fun e w' => ∃ (a : Option Addr) (cp : Nat) (E : Int → Int) (c' : Option Blk), e = .returned (.slice a N cp) ∧ IRow (.slice a N cp) 3 N (fun i => iv (E i)) c' ∧ Own w.heap.size w w' [c'] := by
 obtain ⟨gb, go, hga, hrow⟩ := h.open
 have eN : IntKind.u64.wrap (N : Int) = N := IntWalk.u64_in _ (by omega)
 refine calls_of_run (F := [(0, _), (1, _)]) Try.func32 rfl Try.ntmps32 rfl rfl ?_
 have hO0 := Own.init w
 refine run_seq <| run_region <| rl_v rfl rfl rfl (ov_assign rfl rfl) <| rl_nil <| run_seq <| run_region <| rl_v rfl rfl rfl (ov_assign rfl rfl) <| rl_nil <| run_seq <| run_seq <| run_region <| rl_v rfl rfl rfl (ov_assign rfl rfl) <| rl_nil <| run_block <| Run.keep [0, 1, 5, 6] (F' := [(0, _), (1, _), (5, _), (6, _)]) rfl <| run_loop3 (fun (i : Nat) (oa : Option Addr) (oc : Nat) => [(6, .int .i64 (i : Int)), (5, .slice oa i oc)]) [0, 1] (fun (i : Nat) (oa : Option Addr) (oc : Nat) (w1 : World) => ∃ (E : Int → Int) (c' : Option Blk), i ≤ N ∧ IRow (.slice oa i oc) 3 i (fun j => iv (E j)) c' ∧ Own w.heap.size w w1 [c']) (fun (i : Nat) (oa : Option Addr) (oc : Nat) => N - i) (0) (none) (0) ?_ (And.intro (by exact slot_int rfl (by first | omega)) (And.intro rfl (And.intro rfl (And.intro rfl trivial)))) ?_
 ·exact ⟨fun _ => 0, none, Nat.zero_le _, IRow.nil _ _, hO0.nil_cons⟩
 intro i oa oc w1 hIw1 ih2
 obtain ⟨E, c', hi, hr, hO⟩ := hIw1
 show Run _ _ _ _ [(6, _), (5, _), (0, _), (1, _)] _ _
 refine run_seq <| run_seq <| run_region <| rl_v rfl rfl rfl (ov_move rfl rfl) <| rl_v rfl rfl rfl (ov_move rfl rfl) <| rl_v rfl rfl rfl (ov_lss rfl rfl rfl) <| rl_nil ?_
 first | refine run_cond_dec rfl (fun c1 => ?_) (fun c1 => ?_) | refine run_cond rfl (fun c1 => ?_) (fun c1 => ?_)
 ·have hiN : i < N := by omega
  obtain ⟨d, ⟨d0, d1⟩, hd⟩ := free_ex (E := E) hiN
  refine run_skip <| run_seq <| run_block <| run_seq <| run_region <| rl_v rfl rfl rfl (ov_move rfl rfl) <| rl_v rfl rfl rfl (ov_assign rfl rfl) <| rl_nil <| run_seq <| run_seq <| run_region <| rl_v rfl rfl rfl (ov_move rfl rfl) <| rl_v rfl rfl rfl (ov_move rfl rfl) <| rl_v rfl rfl rfl (ov_len rfl Try.underlying23 rfl) <| rl_v rfl rfl rfl (ov_lss rfl rfl rfl) <| rl_nil <| Run.keep [0, 1, 5, 6, 7, 17] (F' := [(0, _), (1, _), (5, _), (6, _), (7, _), (17, _)]) rfl <| run_join1 (fun (x0 : Int) => [(7, .int .i64 x0)]) [0, 1, 5, 6] (fun (x0 : Int) (w3 : World) => (0 ≤ x0 ∧ x0 < N) ∧ Own w.heap.size w w3 [c']) (fun hk4 => ?_) ?_
  ·first | refine run_cond_dec rfl (fun c2 => ?_) (fun c2 => ?_) | refine run_cond rfl (fun c2 => ?_) (fun c2 => ?_)
   ·have hx1 := u64_nn5 (X i)
    have hx2 := tdx_rng X (N := N) (by omega) hN i
    refine run_region <| rl_v rfl rfl rfl (ov_move rfl rfl) <| rl_v rfl rfl rfl (ov_move rfl rfl) <| rl_v rfl rfl rfl (ov_index1 rfl Try.underlying23 (by kernel_rfl) rfl rfl ⟨by omega, by omega⟩ (by exact hga (by omega))) ?_
    refine rl_v rfl rfl rfl (ov_load rfl Try.underlying3 rfl rfl (by exact hrow _ hO.below _ (by omega) (by omega))) ?_
    refine rl_v rfl rfl rfl (ov_conv rfl Try.underlying3 Try.underlying37 rfl) <| rl_v rfl rfl rfl (ov_move rfl rfl) <| rl_v rfl rfl rfl (ov_conv rfl Try.underlying3 Try.underlying37 rfl) <| rl_v rfl rfl rfl (ov_rem rfl rfl rfl (u64_nn5 _) (by omega)) ?_
    refine rl_v rfl rfl rfl (ov_conv rfl Try.underlying37 Try.underlying3 rfl) <| rl_v rfl rfl rfl (ov_assign rfl rfl) <| rl_nil ?_
    refine Run.use (hk4 (tdx X N i) _ ?_) (And.intro (by rfl) (And.intro rfl (And.intro rfl (And.intro rfl (And.intro rfl trivial)))))
    exact ⟨hx2, hO⟩
   ·refine run_skip ?_
    refine Run.use (hk4 (i) _ ?_) (And.intro (by exact slot_int rfl (by first | omega)) (And.intro rfl (And.intro rfl (And.intro rfl (And.intro rfl trivial)))))
    exact ⟨by omega, hO⟩
  ·intro x0 w3 hJw3
   obtain ⟨hx, hO2⟩ := hJw3
   show Run _ _ _ _ [(7, _), (0, _), (1, _), (5, _), (6, _)] _ _
   obtain ⟨u0, hu0⟩ : ∃ u0 : Nat, (u0 : Int) = if x0 ≤ d then d - x0 else d - x0 + N := ⟨(if x0 ≤ d then d - x0 else d - x0 + N).toNat, by split <;> omega⟩
   refine run_seq <| run_block <| Run.keep [0, 1, 5, 6, 7] (F' := [(0, _), (1, _), (5, _), (6, _), (7, _)]) rfl <| run_loop2 (fun (x : Int) (u : Nat) => [(7, .int .i64 x)]) [0, 1, 5, 6] (fun (x : Int) (u : Nat) (w5 : World) => 0 ≤ x ∧ x < N ∧ (x ≤ d ∧ (u : Int) = d - x ∨ d < x ∧ (u : Int) = d - x + N) ∧ Own w.heap.size w w5 [c']) (fun (x : Int) (u : Nat) => u) (x0) (u0) ?_ (And.intro (by exact slot_int rfl (by first | omega)) (And.intro rfl (And.intro rfl (And.intro rfl (And.intro rfl trivial))))) ?_
   ·exact ⟨hx.1, hx.2, by by_cases c : x0 ≤ d; (rw [if_pos c] at hu0; exact .inl ⟨c, hu0⟩); (rw [if_neg c] at hu0; exact .inr ⟨by omega, hu0⟩), hO2⟩
   intro x u w5 hIw5 ih6
   obtain ⟨hx0, hx1, hu, hO⟩ := hIw5
   show Run _ _ _ _ [(7, _), (0, _), (1, _), (5, _), (6, _)] _ _
   refine run_seq <| run_seq <| run_region <| rl_v rfl rfl rfl (ov_move rfl rfl) <| rl_v rfl rfl rfl (ov_move rfl rfl) ?_
   refine rl_call callable_19 rfl rfl rfl rfl rfl rfl (rank5_any oa i oc E x _ (by omega) (hr.reads hO 0 rfl)) (fun e7 w8 hp9 => ?_)
   obtain ⟨rfl, hb⟩ := hp9
   refine ⟨_, rfl, ?_⟩
   have hO10 := hO.past hb
   refine rl_v rfl rfl rfl (ov_move rfl rfl) <| rl_v rfl rfl rfl (ov_len rfl Try.underlying23 rfl) <| rl_v rfl rfl rfl (ov_lss rfl rfl rfl) <| rl_nil ?_
   first | refine run_cond_dec rfl (fun c3 => ?_) (fun c3 => ?_) | refine run_cond rfl (fun c3 => ?_) (fun c3 => ?_)
   ·have hxd : x ≠ d := fun e => by rw [e] at c3; omega
    have hm2 : ((x + 1) % (N : Int) = 0 ∧ x + 1 = N) ∨ ((x + 1) % (N : Int) = x + 1 ∧ x + 1 < N) := by
     by_cases e : x + 1 = N
     ·exact .inl ⟨by rw [e]; exact Int.emod_self, e⟩
     ·exact .inr ⟨Int.emod_eq_of_lt (by omega) (by omega), by omega⟩
    refine run_skip <| run_block <| run_region <| rl_v rfl rfl rfl (ov_move rfl rfl) <| rl_v rfl rfl rfl (ov_add rfl rfl rfl (by omega)) ?_
    refine rl_v rfl rfl rfl (ov_move rfl rfl) <| rl_v rfl rfl rfl (ov_rem rfl rfl rfl (by omega) (by omega)) ?_
    refine rl_v rfl rfl rfl (ov_assign rfl rfl) <| rl_nil <| run_inBlock ?_
    refine Run.use (ih6 ((x + 1) % (N : Int)) (u - 1) _ ?_ ?_) (And.intro (by exact slot_int rfl (by first | omega)) (And.intro rfl (And.intro rfl (And.intro rfl (And.intro rfl trivial)))))
    ·first | omega | (dsimp only; omega)
    ·exact ⟨by omega, by omega, by omega, hO10⟩
   ·refine run_exit rfl <| run_region <| rl_v rfl rfl rfl (ov_move rfl rfl) <| rl_v rfl rfl rfl (ov_move rfl rfl) ?_
    refine rl_appI rfl rfl rfl rfl rfl rfl rfl rfl Try.underlying23 info_3 rfl hO10 0 hr rfl rfl rfl ⟨by omega, by omega⟩ (fun v5 c5 w11 hO12 hr5 hs13 => ?_)
    obtain ⟨a5, cp5, rfl⟩ := Row.val hr5
    refine rl_v rfl rfl rfl (ov_assign rfl rfl) <| rl_nil <| run_inBlock <| run_region <| rl_v rfl rfl rfl (ov_move rfl rfl) <| rl_v rfl rfl rfl (ov_add rfl rfl rfl (by omega)) ?_
    refine rl_v rfl rfl rfl (ov_assign rfl rfl) <| rl_nil ?_
    refine Run.use (ih2 (i + 1) (a5) (cp5) _ ?_ ?_) (And.intro (by exact slot_int rfl (by first | omega)) (And.intro rfl (And.intro rfl (And.intro rfl trivial))))
    ·first | omega | (dsimp only; omega)
    ·exact ⟨upd E i x, c5, by omega, hr5.congr (fun j j0 j1 => by unfold upd; split <;> rfl), hO12⟩
 ·obtain rfl : i = N := by omega
  refine run_exit rfl <| run_seq <| run_region <| rl_v rfl rfl rfl (ov_move rfl rfl) <| rl_v rfl rfl rfl (ov_assign rfl rfl) <| rl_nil <| run_ret Try.func32 (res1 Try.results32 rfl) ?_
  exact ⟨oa, oc, E, c', rfl, hr, hO⟩
theorem sameYes_any (ga la lb : Option Addr) (n gc ac bc : Nat) (L : Int → Nat) (E : Int → Int → Int) (a b : Int → Int) (w : World) (hn : n ≤ 1000) (hL : ∀ r : Int, 0 ≤ r → r < n → L r ≤ 1000000) (h : ITab w.heap.size w ga n L (fun r c => iv (E r c))) (ha : IAt w.heap.size w la n (fun i => iv (a i))) (hb : IAt w.heap.size w lb n (fun i => iv (b i))) (he : ∀ i : Int, 0 ≤ i → i < n → lik5 L E i (a i) = lik5 L E i (b i)) :
  Calls Try.prog 31 #[.agg #[.slice ga n gc], .slice la n ac, .slice lb n bc] w fun e w' => e = .returned (.bool true) ∧ Below w.heap.size w w' := by
 obtain ⟨qa, qo, hqa, hqrow⟩ := ha.open
 obtain ⟨qb, qp, hqb, hqrow2⟩ := hb.open
 refine calls_of_run (F := [(0, _), (1, _), (2, _)]) Try.func31 rfl Try.ntmps31 rfl rfl ?_
 have hO0 := Own.init w
 refine run_seq <| run_region <| rl_ow rfl (ow_box _ rfl rfl rfl rfl rfl hO0) ?_
 rintro _ w1 ⟨b1, rfl, hO2, hs3⟩
 refine rl_v rfl rfl rfl (ov_assign rfl rfl) <| rl_nil <| run_seq <| run_seq <| run_region <| rl_v rfl rfl rfl (ov_assign rfl rfl) <| rl_nil <| run_block <| Run.keep [1, 2, 3, 7] (F' := [(1, _), (2, _), (3, _), (7, _)]) rfl <| run_loop1 (fun (i : Int) => [(7, .int .i64 i)]) [1, 2, 3] (fun (i : Int) (w4 : World) => 0 ≤ i ∧ i ≤ n ∧ Own w.heap.size w w4 [some (lch b1 47 [.slice ga n gc])]) (fun (i : Int) => ((n : Int) - i).toNat) (0) ?_ (And.intro (by exact slot_int rfl (by first | omega)) (And.intro rfl (And.intro rfl (And.intro rfl trivial)))) ?_
 ·exact ⟨by omega, by omega, hO2⟩
 intro i w4 hIw4 ih5
 obtain ⟨hi0, hi1, hO⟩ := hIw4
 show Run _ _ _ _ [(7, _), (1, _), (2, _), (3, _)] _ _
 refine run_seq <| run_seq <| run_region <| rl_v rfl rfl rfl (ov_move rfl rfl) <| rl_v rfl rfl rfl (ov_move rfl rfl) <| rl_v rfl rfl rfl (ov_len rfl Try.underlying23 rfl) <| rl_v rfl rfl rfl (ov_lss rfl rfl rfl) <| rl_nil ?_
 first | refine run_cond_dec rfl (fun c1 => ?_) (fun c1 => ?_) | refine run_cond rfl (fun c1 => ?_) (fun c1 => ?_)
 ·refine run_skip <| run_seq <| run_block <| run_seq <| run_class (Cl5 w.heap.size w [some (lch b1 47 [.slice ga n gc])]) (⟨hO.drew⟩) mixed (by kernel_rfl) ?_
  refine rk_v rfl rfl rfl (fun wq hQ => ov_loadW rfl Try.underlying47 rfl (by kernel_rfl) rfl (hQ.own) 0 rfl) ?_
  refine rk_v rfl rfl rfl (fun wq hQ => ov_move rfl rfl) ?_
  refine rk_v rfl rfl rfl (fun wq hQ => ov_move rfl rfl) ?_
  refine rk_v rfl rfl rfl (fun wq hQ => ov_move rfl rfl) ?_
  refine rk_v rfl rfl rfl (fun wq hQ => ov_index1 rfl Try.underlying23 (by kernel_rfl) rfl rfl ⟨by omega, by omega⟩ (by exact hqa (by omega))) ?_
  refine rk_v rfl rfl rfl (fun wq hQ => ov_load rfl Try.underlying3 rfl rfl (by exact hqrow _ (hQ.own).below _ (by omega) (by omega))) ?_
  refine rk_call callable_33 rfl rfl rfl rfl rfl rfl (fun wq hQ => (refLikes_any ga n gc L E i (a i) _ hL ((h.below (hQ.own).below).mono (hQ.own).size) hi0 c1).mono fun _ _ h => ⟨h.1, ⟨(hQ.own).past h.2⟩⟩) ?_
  refine rk_v rfl rfl rfl (fun wq hQ => ov_loadW rfl Try.underlying47 rfl (by kernel_rfl) rfl (hQ.own) 0 rfl) ?_
  refine rk_v rfl rfl rfl (fun wq hQ => ov_move rfl rfl) ?_
  refine rk_v rfl rfl rfl (fun wq hQ => ov_move rfl rfl) ?_
  refine rk_v rfl rfl rfl (fun wq hQ => ov_move rfl rfl) ?_
  refine rk_v rfl rfl rfl (fun wq hQ => ov_index1 rfl Try.underlying23 (by kernel_rfl) rfl rfl ⟨by omega, by omega⟩ (by exact hqb (by omega))) ?_
  refine rk_v rfl rfl rfl (fun wq hQ => ov_load rfl Try.underlying3 rfl rfl (by exact hqrow2 _ (hQ.own).below _ (by omega) (by omega))) ?_
  refine rk_call callable_33 rfl rfl rfl rfl rfl rfl (fun wq hQ => (refLikes_any ga n gc L E i (b i) _ hL ((h.below (hQ.own).below).mono (hQ.own).size) hi0 c1).mono fun _ _ h => ⟨h.1, ⟨(hQ.own).past h.2⟩⟩) ?_
  refine rk_v rfl rfl rfl (fun wq hQ => ov_neq rfl rfl rfl) ?_
  refine rk_nil (fun w12 hQ => ?_)
  first | refine run_cond_dec rfl (fun bad => ?_) (fun bad => ?_) | refine run_cond rfl (fun bad => ?_) (fun bad => ?_)
  ·exfalso; exact bad (he i hi0 c1)
  ·refine run_skip <| run_inBlock <| run_region <| rl_v rfl rfl rfl (ov_move rfl rfl) <| rl_v rfl rfl rfl (ov_add rfl rfl rfl (by omega)) ?_
   refine rl_v rfl rfl rfl (ov_assign rfl rfl) <| rl_nil ?_
   refine Run.use (ih5 (i + 1) _ ?_ ?_) (And.intro (by exact slot_int rfl (by first | omega)) (And.intro rfl (And.intro rfl (And.intro rfl trivial))))
   ·first | omega | (dsimp only; omega)
   ·exact ⟨by omega, by omega, (hQ.own)⟩
 ·refine run_exit rfl <| run_seq <| run_region <| rl_v rfl rfl rfl (ov_assign rfl rfl) <| rl_nil <| run_ret Try.func31 (res1 Try.results31 rfl) ?_
  exact ⟨rfl, hO.below⟩
theorem betterFull_any (ga la : Option Addr) (n gc ln lc : Nat) (L : Int → Nat) (E : Int → Int → Int) (l : Int → Int) (w : World) (hn : n ≤ 12) (hv : SwapOk n L E) (h : RTab w.heap.size w ga n L E) (hln : ln ≤ 1000000) (hl : IAt w.heap.size w la ln (fun i => iv (l i))) :
  Calls Try.prog 27 #[.agg #[.slice ga n gc], .slice la ln lc] w fun e w' => ∃ (ok : Bool) (ma : Option Addr) (mm mc : Nat) (M : Int → Int) (c : Option Blk), e = .returned (.tuple #[.slice ma mm mc, .bool ok]) ∧ IRow (.slice ma mm mc) 3 mm (fun j => iv (M j)) c ∧ Own w.heap.size w w' [c] ∧ (ok = true → (ln = n ∧ IsL ln l n) ∧ Memb n mm M ∧ Coal (lik5 L E) l (InI M mm)) ∧ (ok = false → mm = 0 ∧ (ln = n ∧ IsL ln l n → ¬ AnyCoal n (lik5 L E) l)) := by
 have hoff : ¬ (ln = n ∧ IsL ln l n) → Calls Try.prog 27 #[.agg #[.slice ga n gc], .slice la ln lc] w fun e w' => e = .returned (.tuple #[.slice none 0 0, .bool false]) ∧ Below w.heap.size w w' := fun hno => by
  have hL : ∀ r : Int, 0 ≤ r → r < n → L r ≤ 1000000 := fun r r0 r1 => by have := pigeon (hv r r0 r1).1 (hv r r0 r1).2; omega
  by_cases c : ln = n
  ·exact betterOff3_any ga la n gc ln lc L E l w (by omega) hv h hL hl hln c hn fun hi => hno ⟨c, hi⟩
  ·exact betterOff1_any ga la n gc ln lc L E w (by omega) hv h hL c
 by_cases c : ln = n ∧ IsL ln l n
 ·obtain ⟨rfl, hi⟩ := c
  refine (better5_any ga la ln gc lc L E l w hn hv h hl hi).mono fun e w' hh => ?_
  rcases hh with ⟨t, ma, mc, c', ht, h1, h2, h3, h4⟩ | ⟨⟨h1, h5⟩, h2⟩
  ·exact ⟨true, ma, _, mc, _, c', h1, h2, h3, fun _ => ⟨⟨rfl, hi⟩, membL_memb t ln, h4⟩, fun h => Bool.noConfusion h⟩
  ·exact ⟨false, none, 0, 0, fun _ => 0, none, h1, IRow.nil _ _, ((Own.init w).past h2).nil_cons, fun h => Bool.noConfusion h, fun _ => ⟨rfl, fun _ => h5⟩⟩
 ·refine (hoff c).mono fun e w' ⟨h1, h2⟩ => ?_
  exact ⟨false, none, 0, 0, fun _ => 0, none, h1, IRow.nil _ _, ((Own.init w).past h2).nil_cons, fun h => Bool.noConfusion h, fun _ => ⟨rfl, fun hi => absurd hi c⟩⟩
theorem refBetter_yes (ga la ma : Option Addr) (n gc lc mn mc : Nat) (L : Int → Nat) (E : Int → Int → Int) (l M : Int → Int) (w : World) (hn : n ≤ 64) (hL : ∀ r : Int, 0 ≤ r → r < n → L r ≤ 1000000) (h : ITab w.heap.size w ga n L (fun r c => iv (E r c))) (hl : IAt w.heap.size w la n (fun i => iv (l i))) (hm : IAt w.heap.size w ma mn (fun i => iv (M i))) (hM : Memb n mn M) (hC : Coal (lik5 L E) l (InI M mn)) :
  Calls Try.prog 29 #[.agg #[.slice ga n gc], .slice la n lc, .slice ma mn mc] w fun e w' => e = .returned (.bool true) ∧ Below w.heap.size w w' :=
 (refBetter5_any ga la ma n gc lc mn mc L E l M w hn hL h hl hm hM).mono fun _ _ ⟨h1, h2⟩ => ⟨h1.trans (congrArg (fun x => Ending.returned (.bool x)) (dB_iff.2 hC)), h2⟩
theorem refFails_yes (ga la : Option Addr) (n gc lc : Nat) (L : Int → Nat) (E : Int → Int → Int) (l : Int → Int) (w : World) (hn : n ≤ 12) (hL : ∀ r : Int, 0 ≤ r → r < n → L r ≤ 1000000) (h : ITab w.heap.size w ga n L (fun r c => iv (E r c))) (hl : IAt w.heap.size w la n (fun i => iv (l i))) (hno : ¬ AnyCoal n (lik5 L E) l) :
  Calls Try.prog 30 #[.agg #[.slice ga n gc], .slice la n lc] w fun e w' => e = .returned (.bool true) ∧ Below w.heap.size w w' :=
 (refFails_any ga la n gc lc L E l w hn hL h hl).mono fun _ _ ⟨h1, h2⟩ => ⟨h1.trans (congrArg (fun x => Ending.returned (.bool x)) (dB_iff.2 hno)), h2⟩
end Go.Proofs.Ytlldeifbfpmbaaa
