import Derived.Test.YtlldeifbfpmbaaaFeF
import Derived.Test.YtlldeifbfpmbaaaMaps
set_option maxRecDepth 100000
namespace Go.Proofs.Ytlldeifbfpmbaaa
open Go.RowKit Go.Proofs Go.MapKept
theorem u64_nn5 (x : Int) : 0 ≤ IntKind.u64.wrap x := by rw [IntKind.wrap_u64]; omega
theorem tidy5_any (ao : Option Addr) (n c N : Nat) (X : Int → Int) (w : World) (hn : n ≤ 1000000) (hN : N ≤ 1000) (h : IAt w.heap.size w ao n (fun i => iv (X i))) :
  Calls Try.prog 18 #[.slice ao n c, iv N] w fun e w' => ∃ (v : Value) (k : Nat) (E : Int → Int) (c' : Option Blk), e = .returned v ∧ k ≤ n ∧ IsL k E N ∧ IRow v 3 k (fun i => iv (E i)) c' ∧ Own w.heap.size w w' [c'] := by
 obtain ⟨gb, go, hga, hrow⟩ := h.open
 have eN : IntKind.u64.wrap (N : Int) = N := IntWalk.u64_in _ (by omega)
 refine calls_of_run (F := [(0, _), (1, _)]) Try.func18 rfl Try.ntmps18 rfl rfl ?_
 have hO0 := Own.init w
 refine run_seq <| run_region <| rl_v rfl rfl rfl (ov_assign rfl rfl) <| rl_nil <| run_seq <| run_region <| rl_v rfl rfl rfl (ov_assign rfl rfl) <| rl_nil <| run_seq <| run_seq <| run_region <| rl_v rfl rfl rfl (ov_assign rfl rfl) <| rl_nil <| run_block <| Run.keep [0, 1, 5, 6] (F' := [(0, _), (1, _), (5, _), (6, _)]) rfl <| run_loop4 (fun (i : Int) (k : Nat) (oa : Option Addr) (oc : Nat) => [(6, .int .i64 i), (5, .slice oa k oc)]) [0, 1] (fun (i : Int) (k : Nat) (oa : Option Addr) (oc : Nat) (w1 : World) => ∃ (E : Int → Int) (c' : Option Blk), 0 ≤ i ∧ i ≤ n ∧ (k : Int) ≤ i ∧ IsL k E N ∧ IRow (.slice oa k oc) 3 k (fun i => iv (E i)) c' ∧ Own w.heap.size w w1 [c']) (fun (i : Int) (k : Nat) (oa : Option Addr) (oc : Nat) => ((n : Int) - i).toNat) (0) (0) (none) (0) ?_ (And.intro (by exact slot_int rfl (by first | omega)) (And.intro rfl (And.intro rfl (And.intro rfl trivial)))) ?_
 ·exact ⟨fun _ => 0, none, by omega, by omega, by omega, ⟨fun k k0 k1 => by omega, fun a b a0 a1 => by omega⟩, IRow.nil _ _, hO0.nil_cons⟩
 intro i k oa oc w1 hIw1 ih2
 obtain ⟨E, c', hi0, hi1, hki, hL, hr, hO⟩ := hIw1
 show Run _ _ _ _ [(6, _), (5, _), (0, _), (1, _)] _ _
 refine run_seq <| run_seq <| run_region <| rl_v rfl rfl rfl (ov_move rfl rfl) <| rl_v rfl rfl rfl (ov_move rfl rfl) <| rl_v rfl rfl rfl (ov_len rfl Try.underlying23 rfl) <| rl_v rfl rfl rfl (ov_lss rfl rfl rfl) <| rl_v rfl rfl rfl (ov_move rfl rfl) ?_
 first | refine rl_split_dec 12 rfl (fun q1 => ?_) (fun q1 => ?_) | refine rl_split 12 rfl (fun q1 => ?_) (fun q1 => ?_)
 ·refine rl_gv rfl rfl rfl rfl rfl (ov_move rfl rfl) <| rl_gv rfl rfl rfl rfl rfl (ov_gtr rfl rfl rfl) <| rl_v rfl rfl rfl (ov_pick_t rfl rfl rfl) <| rl_nil ?_
  first | refine run_cond_dec rfl (fun h2 => ?_) (fun h2 => ?_) | refine run_cond rfl (fun h2 => ?_) (fun h2 => ?_)
  ·have hx1 := u64_nn5 (X i)
   have hx2 : IntKind.u64.wrap (X i) % IntKind.u64.wrap (N : Int) < N := by rw [eN]; exact Int.emod_lt_of_pos _ (by omega)
   have hx3 : 0 ≤ IntKind.u64.wrap (X i) % IntKind.u64.wrap (N : Int) := by rw [eN]; exact Int.emod_nonneg _ (by omega)
   have hx4 : IntKind.i64.wrap (IntKind.u64.wrap (X i) % IntKind.u64.wrap (N : Int)) = IntKind.u64.wrap (X i) % IntKind.u64.wrap (N : Int) := IntWalk.i64_in _ (by omega)
   refine run_skip <| run_seq <| run_block <| run_seq <| run_region <| rl_v rfl rfl rfl (ov_move rfl rfl) <| rl_v rfl rfl rfl (ov_move rfl rfl) <| rl_v rfl rfl rfl (ov_index1 rfl Try.underlying23 (by kernel_rfl) rfl rfl ⟨by omega, by omega⟩ (by exact hga (by omega))) ?_
   refine rl_v rfl rfl rfl (ov_load rfl Try.underlying3 rfl rfl (by exact hrow _ hO.below _ (by omega) (by omega))) ?_
   refine rl_v rfl rfl rfl (ov_conv rfl Try.underlying3 Try.underlying37 rfl) <| rl_v rfl rfl rfl (ov_move rfl rfl) <| rl_v rfl rfl rfl (ov_conv rfl Try.underlying3 Try.underlying37 rfl) <| rl_v rfl rfl rfl (ov_rem rfl rfl rfl (u64_nn5 _) (by omega)) ?_
   refine rl_v rfl rfl rfl (ov_conv rfl Try.underlying37 Try.underlying3 rfl) <| rl_v rfl rfl rfl (ov_assign rfl rfl) <| rl_nil <| run_seq <| run_region <| rl_v rfl rfl rfl (ov_move rfl rfl) <| rl_v rfl rfl rfl (ov_move rfl rfl) ?_
   refine rl_call callable_19 rfl rfl rfl rfl rfl rfl (rank5_any oa k oc E (IntKind.i64.wrap (IntKind.u64.wrap (X i) % IntKind.u64.wrap (N : Int))) _ (by omega) (hr.reads hO 0 rfl)) (fun e4 w5 hp6 => ?_)
   obtain ⟨rfl, hb⟩ := hp6
   refine ⟨_, rfl, ?_⟩
   have hO7 := hO.past hb
   refine rl_v rfl rfl rfl (ov_move rfl rfl) <| rl_v rfl rfl rfl (ov_len rfl Try.underlying23 rfl) <| rl_v rfl rfl rfl (ov_eql rfl rfl rfl) <| rl_nil ?_
   first | refine run_cond_dec rfl (fun h3 => ?_) (fun h3 => ?_) | refine run_cond rfl (fun h3 => ?_) (fun h3 => ?_)
   ·refine run_region <| rl_v rfl rfl rfl (ov_move rfl rfl) <| rl_v rfl rfl rfl (ov_move rfl rfl) <| rl_ow rfl (ow_one rfl rfl rfl Try.underlying23 info_3 rfl hO7 rfl rfl) ?_
    rintro _ w8 ⟨b9, rfl, hO9, hs10⟩
    refine rl_ow rfl (ow_app1 rfl rfl rfl Try.underlying23 info_3 rfl hO9 0 hr rfl rfl rfl rfl ⟨by omega, by omega⟩) ?_
    rintro _ w11 ⟨v5, c5, rfl, hO12, hr5, hs13⟩
    obtain ⟨oa5, oc5, rfl⟩ := Row.val hr5
    have hL5 : IsL (k + 1) (upd E k (IntKind.i64.wrap (IntKind.u64.wrap (X i) % IntKind.u64.wrap (N : Int)))) N := by
     have hno : ∀ j : Int, 0 ≤ j → j < k → E j ≠ IntKind.i64.wrap (IntKind.u64.wrap (X i) % IntKind.u64.wrap (N : Int)) := fun j j0 j1 => rk_ne (n := k) j0 (by omega)
     refine ⟨fun j j0 j1 => ?_, fun a b a0 a1 b0 b1 e => ?_⟩
     ·by_cases c : j = k
      ·rw [c, upd_same, hx4]; exact ⟨hx3, hx2⟩
      ·rw [upd_ne _ _ c]; exact hL.1 j j0 (by omega)
     ·by_cases c : a = k <;> by_cases d : b = k
      ·omega
      ·rw [c, upd_same, upd_ne _ _ d] at e; exact absurd e.symm (hno b b0 (by omega))
      ·rw [d, upd_same, upd_ne _ _ c] at e; exact absurd e (hno a a0 (by omega))
      ·rw [upd_ne _ _ c, upd_ne _ _ d] at e; exact hL.2 a b a0 (by omega) b0 (by omega) e
    refine rl_v rfl rfl rfl (ov_assign rfl rfl) <| rl_nil <| run_inBlock <| run_region <| rl_v rfl rfl rfl (ov_move rfl rfl) <| rl_v rfl rfl rfl (ov_add rfl rfl rfl (by omega)) ?_
    refine rl_v rfl rfl rfl (ov_assign rfl rfl) <| rl_nil ?_
    refine Run.use (ih2 (i + 1) (k + 1) (oa5) (oc5) _ ?_ ?_) (And.intro (by exact slot_int rfl (by first | omega)) (And.intro rfl (And.intro rfl (And.intro rfl trivial))))
    ·first | omega | (dsimp only; omega)
    ·exact ⟨_, c5, by omega, by omega, by omega, hL5, hr5.congr (fun j j0 j1 => by unfold upd; split <;> rfl), hO12⟩
   ·refine run_skip <| run_inBlock <| run_region <| rl_v rfl rfl rfl (ov_move rfl rfl) <| rl_v rfl rfl rfl (ov_add rfl rfl rfl (by omega)) ?_
    refine rl_v rfl rfl rfl (ov_assign rfl rfl) <| rl_nil ?_
    refine Run.use (ih2 (i + 1) (k) (oa) (oc) _ ?_ ?_) (And.intro (by exact slot_int rfl (by first | omega)) (And.intro rfl (And.intro rfl (And.intro rfl trivial))))
    ·first | omega | (dsimp only; omega)
    ·exact ⟨E, c', by omega, by omega, by omega, hL, hr, hO7⟩
  ·refine run_exit rfl <| run_seq <| run_region <| rl_v rfl rfl rfl (ov_move rfl rfl) <| rl_v rfl rfl rfl (ov_assign rfl rfl) <| rl_nil <| run_ret Try.func18 (res1 Try.results18 rfl) ?_
   exact ⟨_, k, E, c', rfl, by omega, hL, hr, hO⟩
 ·refine rl_gskip rfl rfl rfl rfl rfl rfl <| rl_gskip rfl rfl rfl rfl rfl rfl <| rl_v rfl rfl rfl (ov_pick_f rfl rfl rfl) <| rl_nil <| run_cond_f rfl <| run_exit rfl <| run_seq <| run_region <| rl_v rfl rfl rfl (ov_move rfl rfl) <| rl_v rfl rfl rfl (ov_assign rfl rfl) <| rl_nil <| run_ret Try.func18 (res1 Try.results18 rfl) ?_
  exact ⟨_, k, E, c', rfl, by omega, hL, hr, hO⟩
end Go.Proofs.Ytlldeifbfpmbaaa
set_option maxRecDepth 100000
namespace Go.Proofs.Ytlldeifbfpmbaaa
open Go.RowKit Go.Proofs
theorem IRow.addr {ao : Option Addr} {m cap : Nat} {E : TypeId} {n : Nat} {G : Int → Value} {c : Option Blk} (h : IRow (.slice ao m cap) E n G c) : ∃ b, (0 < n → ao = some ⟨b, 0, none⟩) := by
 rcases h with ⟨_, rfl, _⟩ | ⟨b, cap', g, h1, _⟩
 ·exact ⟨0, fun h => absurd h (Nat.lt_irrefl _)⟩
 ·cases h1; exact ⟨b, fun _ => rfl⟩
theorem ow_storeI1 {N : Nat} {o : Oper} {F : Fr} {w w0 : World} {B : Nat} {H : List (Option Blk)} {T E : TypeId} {p x : Operand} {b n cap : Nat} {G : Int → Value} {c : Option Blk} {ao : Option Addr} {i : Int} {v : Value} (hd : o.dst = none) (ho : o.op = .store T p x) (hi : (Try.prog.info? T).map (·.size) = some 1)
  (hO : Own B w0 w H) (kk : Nat) (hr : IRow (.slice ao n cap) E n G c) (hk : H[kk]? = some c) (hao : 0 < n → ao = some ⟨b, 0, none⟩) (hp : Fr.ev F p = some (.pointer (some ⟨b, 0 + i.toNat, none⟩))) (hb : 0 ≤ i ∧ i < n)
  (hx : Fr.ev F x = some v) (h1 : v.oneCell' = true) :
  OpW Try.prog N o F w (fun F' w' => ∃ c', F' = F ∧ Own B w0 w' (H.set kk c') ∧ IRow (.slice ao n cap) E n (upd G i v) c' ∧ w'.heap.size = w.heap.size) := by
 obtain ⟨b', G', e1, e2, e3, rfl, e5⟩ := hr.asV (by omega)
 have := (hao (by omega)).symm.trans e1
 simp only [Option.some.injEq, Addr.mk.injEq] at this
 obtain rfl := this.1
 refine (ow_store hd ho hi hO kk hk hp ⟨hb.1, by omega⟩ hx h1).mono fun F' w' ⟨q1, q2, q3⟩ => ⟨_, q1, q2, ?_, q3⟩
 rw [e1]
 refine IRow.ofV e2 e3 fun j j0 j1 => ?_
 by_cases e : j = i
 ·subst e; simp
 ·rw [upd_ne _ _ e, upd_ne _ _ e]; exact e5 j j0 j1
end Go.Proofs.Ytlldeifbfpmbaaa
set_option maxRecDepth 100000
namespace Go.Proofs.Ytlldeifbfpmbaaa
open Go.RowKit Go.Proofs
theorem OTab.put9 {B : Nat} {w0 w : World} {v x : Value} {T1 T2 : TypeId} {n m : Nat} {L : Int → Nat} {F : Int → Int → Value} {G : Int → Value} {R : List (Option Blk)} {c cr : Option Blk} {rv : Int → Value} {ch : Nat → Option Blk} (i : Nat) (hi : i < n)
  (hv : IRow v T1 n (upd rv i x) c) (h3 : ∀ r : Nat, r < n → IRow (rv r) T2 (L r) (F r) (ch r)) (hx : IRow x T2 m G cr) (ho : Own B w0 w (cr :: c :: (((List.range n).erase i).map ch ++ R))) :
  ∃ H, OTab v T1 T2 n (upd L i m) (upd F i G) H ∧ Own B w0 w (H ++ R) := by
 refine ⟨_, ⟨c, _, fun r => if r = i then cr else ch r, rfl, hv, fun r hr => ?_⟩, ho.perm ?_⟩
 ·show IRow _ _ _ _ (if r = i then cr else ch r)
  by_cases e : r = i
  ·subst e; rw [upd_same, upd_same, upd_same, if_pos rfl]; exact hx
  ·rw [upd_ne _ _ (by omega), upd_ne _ _ (by omega), upd_ne _ _ (by omega), if_neg e]; exact h3 r hr
 ·have p := (List.perm_cons_erase (List.mem_range.2 hi)).map (fun r => if r = i then cr else ch r)
  have e : ((List.range n).erase i).map (fun r => if r = i then cr else ch r) = ((List.range n).erase i).map ch := List.map_congr_left fun r hr => by
   have : r ≠ i := fun e => by rw [e] at hr; exact (List.Nodup.not_mem_erase List.nodup_range) hr
   exact if_neg this
  simp only [List.map_cons, if_true, e] at p
  exact (List.Perm.swap _ _ _).trans ((p.symm.append_right R).cons c)
end Go.Proofs.Ytlldeifbfpmbaaa
