import Derived.Test.YtlldeifbfpmbaaaGreatFcF
import Derived.Test.YtlldeifbfpmbaaaGreatFbJ
import Derived.Test.YtlldeifbfpmbaaaGreatLate
set_option maxRecDepth 100000
namespace Go.Proofs.YtlldeifbfpmbaaaGreat
open Go.RowKit Go.Proofs Go.MapKept
noncomputable def chkS (n : Nat) (L : Int → Nat) (E : Int → Int → Int) : Int :=
 open Classical in
 if 64 < n then 2 else if ¬ SwapOk n L E then 50 else 0
theorem chkS_0 {n : Nat} {L : Int → Nat} {E : Int → Int → Int} : chkS n L E = 0 ↔ n ≤ 64 ∧ SwapOk n L E := by
 unfold chkS
 by_cases h : 64 < n
 ·rw [if_pos h]; exact ⟨fun e => absurd e (by decide), fun h2 => by omega⟩
 ·rw [if_neg h]
  by_cases h2 : SwapOk n L E
  ·rw [if_neg (fun e => e h2)]; exact ⟨fun _ => ⟨by omega, h2⟩, fun _ => rfl⟩
  ·rw [if_pos h2]; exact ⟨fun e => absurd e (by decide), fun h3 => absurd h3.2 h2⟩
theorem checkSwap_any (ga : Option Addr) (n gc : Nat) (L : Int → Nat) (E : Int → Int → Int) (w : World) (hn : n ≤ 1000000) (hL : ∀ r : Int, 0 ≤ r → r < n → L r ≤ 1000000) (h : ITab w.heap.size w ga n L (fun r c => iv (E r c))) :
  Calls Tryz.prog 58 #[.agg #[.slice ga n gc]] w fun e w' => e = .returned (iv (chkS n L E)) ∧ Below w.heap.size w w' := by
 refine calls_of_run (F := [(0, _)]) Tryz.func58 rfl Tryz.ntmps58 rfl rfl ?_
 have hO0 := Own.init w
 refine run_seq <| run_region <| rl_ow rfl (ow_box _ rfl rfl rfl rfl rfl hO0) ?_
 rintro _ w1 ⟨b1, rfl, hO2, hs3⟩
 refine rl_v rfl rfl rfl (ov_assign rfl rfl) <| rl_nil <| run_seq <| run_seq <| run_region <| rl_v rfl rfl rfl (ov_fieldS rfl Tryz.underlying63 rfl (fo := 0) rfl (by kernel_rfl) rfl) ?_
 refine rl_v rfl rfl rfl (ov_load rfl Tryz.underlying22 rfl rfl (by exact hO2.cellL 0 rfl (off := 0) rfl)) ?_
 refine rl_v rfl rfl rfl (ov_len rfl Tryz.underlying22 rfl) <| rl_v rfl rfl rfl (ov_gtr rfl rfl rfl) <| rl_nil ?_
 first | refine run_cond_dec rfl (fun h1 => ?_) (fun h1 => ?_) | refine run_cond rfl (fun h1 => ?_) (fun h1 => ?_)
 ·refine run_seq <| run_region <| rl_v rfl rfl rfl (ov_assign rfl rfl) <| rl_nil <| run_ret Tryz.func58 (res1 Tryz.results58 rfl) ?_
  exact ⟨by unfold chkS; rw [if_pos (by omega)], hO2.tail.below⟩
 ·refine run_skip <| run_seq <| run_seq <| run_region <| rl_v rfl rfl rfl (ov_fieldS rfl Tryz.underlying63 rfl (fo := 0) rfl (by kernel_rfl) rfl) ?_
  refine rl_v rfl rfl rfl (ov_load rfl Tryz.underlying22 rfl rfl (by exact hO2.cellL 0 rfl (off := 0) rfl)) ?_
  refine rl_v rfl rfl rfl (ov_fieldS rfl Tryz.underlying63 rfl (fo := 0) rfl (by kernel_rfl) rfl) ?_
  refine rl_v rfl rfl rfl (ov_load rfl Tryz.underlying22 rfl rfl (by exact hO2.cellL 0 rfl (off := 0) rfl)) ?_
  refine rl_v rfl rfl rfl (ov_len rfl Tryz.underlying22 rfl) ?_
  refine rl_call callable_51 rfl rfl rfl rfl rfl rfl (areLists_any ga n gc n L E _ hn hL (by omega) ((h.below hO2.below).mono hO2.size)) (fun e4 w5 hp6 => ?_)
  obtain ⟨⟨b, rfl, hb⟩, hbl⟩ := hp6
  refine ⟨_, rfl, ?_⟩
  have hO7 := hO2.past hbl
  refine rl_v rfl rfl rfl (ov_not rfl rfl) <| rl_nil ?_
  first | refine run_cond_dec rfl (fun h2 => ?_) (fun h2 => ?_) | refine run_cond rfl (fun h2 => ?_) (fun h2 => ?_)
  ·have hng : ¬ SwapOk n L E := fun h => by rw [hb.2 h] at h2; exact Bool.noConfusion h2
   refine run_seq <| run_region <| rl_v rfl rfl rfl (ov_assign rfl rfl) <| rl_nil <| run_ret Tryz.func58 (res1 Tryz.results58 rfl) ?_
   exact ⟨by unfold chkS; rw [if_neg (by omega), if_pos hng], hO7.tail.below⟩
  ·have hL : SwapOk n L E := hb.1 (by cases b; exact Bool.noConfusion h2; rfl)
   refine run_skip <| run_seq <| run_region <| rl_v rfl rfl rfl (ov_assign rfl rfl) <| rl_nil <| run_ret Tryz.func58 (res1 Tryz.results58 rfl) ?_
   exact ⟨by unfold chkS; rw [if_neg (by omega), if_neg (fun e => e hL)], hO7.tail.below⟩
set_option maxHeartbeats 1000000 in
theorem core_any (hSort : SortRows) (ga : Option Addr) (n gc : Nat) (L : Int → Nat) (E : Int → Int → Int) (w : World) (hn : n ≤ 64) (hv : SwapOk n L E) (h : RTab w.heap.size w ga n L E) :
  Calls Tryz.prog 46 #[.agg #[.slice ga n gc]] w fun e w' => ∃ (ob : Nat) (o t : Int → Int), e = .returned (.tuple #[.slice (some ⟨ob, 0, none⟩) n n, iv 0]) ∧ Own w.heap.size w w' [some (vch ob 3 n (fun i => iv (o i)))] ∧ (wishOf n L E).Cert o t := by
 have hL : ∀ i : Int, 0 ≤ i → i < n → L i ≤ n := fun i i0 i1 => pigeon (hv i i0 i1).1 (hv i i0 i1).2
 refine calls_of_run (F := [(0, _)]) Tryz.func46 rfl Tryz.ntmps46 rfl rfl ?_
 have hO0 := Own.init w
 refine run_seq <| run_region <| rl_ow rfl (ow_box _ rfl rfl rfl rfl rfl hO0) ?_
 rintro _ w1 ⟨b1, rfl, hO2, hs3⟩
 refine rl_v rfl rfl rfl (ov_assign rfl rfl) <| rl_v rfl rfl rfl (ov_assign rfl rfl) <| rl_nil <| run_seq <| run_seq <| run_region <| rl_v rfl rfl rfl (ov_loadW rfl Tryz.underlying63 rfl (by kernel_rfl) rfl hO2 0 rfl) ?_
 refine rl_call callable_58 rfl rfl rfl rfl rfl rfl (checkSwap_any ga n gc L E _ (by omega) (fun r r0 r1 => by have := hL r r0 r1; omega) (hO2.rtab h).tab) (fun e4 w5 hp6 => ?_)
 obtain ⟨rfl, hbl⟩ := hp6
 refine ⟨_, rfl, ?_⟩
 have hO7 := hO2.past hbl
 have h0 := chkS_0.2 ⟨hn, hv⟩
 refine rl_v rfl rfl rfl (ov_assign rfl rfl) <| rl_nil <| run_seq <| run_region <| rl_v rfl rfl rfl (ov_move rfl rfl) <| rl_v rfl rfl rfl (ov_neq rfl rfl rfl) <| rl_nil ?_
 first | refine run_cond_dec rfl (fun h1 => ?_) (fun h1 => ?_) | refine run_cond rfl (fun h1 => ?_) (fun h1 => ?_)
 ·exfalso; exact h1 h0
 ·refine run_skip <| run_seq <| run_region <| rl_v rfl rfl rfl (ov_fieldS rfl Tryz.underlying63 rfl (fo := 0) rfl (by kernel_rfl) rfl) ?_
  refine rl_v rfl rfl rfl (ov_load rfl Tryz.underlying22 rfl rfl (by exact hO7.cellL 0 rfl (off := 0) rfl)) ?_
  refine rl_v rfl rfl rfl (ov_len rfl Tryz.underlying22 rfl) ?_
  refine rl_make (n) rfl rfl rfl rfl Tryz.underlying23 info_3 rfl hO7 rfl rfl (by rfl) (by rfl) ⟨by omega, by omega⟩ (fun ob w8 hO9 hs10 => ?_)
  refine rl_v rfl rfl rfl (ov_assign rfl rfl) <| rl_nil <| run_seq <| run_seq <| run_region <| rl_v rfl rfl rfl (ov_loadW rfl Tryz.underlying63 rfl (by kernel_rfl) rfl hO9 1 rfl) ?_
  refine rl_call callable_59 rfl rfl rfl rfl rfl rfl (rings_any hSort ga gc n L E _ hn hv (hO9.rtab h)) (fun e11 w12 hp13 => ?_)
  obtain ⟨oa, nr, ocap, Lr, R, o, t, H, rfl, hO1, hRW, hC, hRO, _⟩ := hp13
  refine ⟨_, rfl, ?_⟩
  have hO14 := hO9.join hO1
  have hnr : nr ≤ n := hRO.short
  have hrng : ∀ r k : Int, 0 ≤ r → r < nr → 0 ≤ k → k < Lr r → 0 ≤ R r k ∧ R r k < n := fun r k r0 r1 k0 k1 => (hRO.rng r k r0 r1 k0 k1).1
  have hlen : ∀ r : Int, 0 ≤ r → r < nr → Lr r ≤ n := fun r r0 r1 => pigeon (e := R r) (fun k k0 k1 => hrng r k r0 r1 k0 k1) fun a b a0 a1 b0 b1 e => (hRO.dis r a r b r0 r1 a0 a1 r0 r1 b0 b1 e).2
  obtain ⟨A, C, hroom, hrd⟩ := hRW
  have hO2 := hO14.perm (List.perm_append_comm (l₁ := H) (l₂ := [_, _]))
  refine rl_v rfl rfl rfl (ov_len rfl Tryz.underlying22 rfl) <| rl_v rfl rfl rfl (ov_move rfl rfl) <| rl_nil <| run_block <| Run.keep [5, 20, 21, 22] (F' := [(5, _), (20, _), (21, _), (22, _)]) rfl <| run_loop2 (fun (r : Int) (lo : Int → Int) => [(22, .int .i64 r)]) [5, 20, 21] (fun (r : Int) (lo : Int → Int) (w15 : World) => 0 ≤ r ∧ r ≤ nr ∧ (∀ s k : Int, 0 ≤ s → s < r → 0 ≤ k → k < Lr s → lo (R s k) = o (R s k)) ∧ Own w.heap.size w w15 (some (vch ob 3 n (fun i => iv (lo i))) :: some (lch b1 63 [.slice ga n gc]) :: H)) (fun (r : Int) (lo : Int → Int) => ((nr : Int) - r).toNat) (0) (fun _ => 0) ?_ (And.intro (by exact slot_int rfl (by first | omega)) (And.intro rfl (And.intro rfl (And.intro rfl trivial)))) ?_
  ·exact ⟨by omega, by omega, fun s k s0 s1 => by omega, hO2⟩
  intro r lo w15 hIw15 ih16
  obtain ⟨hr0, hr1, hlo, hO⟩ := hIw15
  show Run _ _ _ _ [(22, _), (5, _), (20, _), (21, _)] _ _
  refine run_seq <| run_region <| rl_v rfl rfl rfl (ov_lss rfl rfl rfl) <| rl_nil <| run_seq ?_
  first | refine run_cond_dec rfl (fun h2 => ?_) (fun h2 => ?_) | refine run_cond rfl (fun h2 => ?_) (fun h2 => ?_)
  ·obtain ⟨ha1, ha2⟩ := hrd _ _ _ (hO.sub (.cons _ (.cons _ (.refl H))))
   obtain ⟨gb, go, hga, hrow⟩ := ha1.open
   have hpos := hRO.pos r hr0 h2
   have hlr := hlen r hr0 h2
   refine run_skip <| run_seq <| run_block <| run_seq <| run_region <| rl_v rfl rfl rfl (ov_index1 rfl Tryz.underlying22 (by kernel_rfl) rfl rfl ⟨by omega, by omega⟩ (by exact hga (by omega))) ?_
   refine rl_v rfl rfl rfl (ov_load rfl Tryz.underlying23 rfl rfl (by exact hrow _ (Below.refl _ _) r hr0 h2)) ?_
   refine rl_v rfl rfl rfl (ov_assign rfl rfl) <| rl_nil <| run_seq <| run_region <| rl_v rfl rfl rfl (ov_move rfl rfl) <| rl_v rfl rfl rfl (ov_len rfl Tryz.underlying23 rfl) <| rl_v rfl rfl rfl (ov_move rfl rfl) <| rl_nil <| run_block <| Run.keep [5, 7, 20, 21, 22, 26, 27, 28] (F' := [(5, _), (7, _), (20, _), (21, _), (22, _), (26, _), (27, _), (28, _)]) rfl <| run_loop2 (fun (k : Int) (l2 : Int → Int) => [(28, .int .i64 k)]) [5, 7, 20, 21, 22, 26, 27] (fun (k : Int) (l2 : Int → Int) (w17 : World) => 0 ≤ k ∧ k ≤ Lr r ∧ (∀ s j : Int, 0 ≤ s → s < r → 0 ≤ j → j < Lr s → l2 (R s j) = o (R s j)) ∧ (∀ j : Int, 0 ≤ j → j < k → l2 (R r j) = o (R r j)) ∧ Own w.heap.size w w17 (some (vch ob 3 n (fun i => iv (l2 i))) :: some (lch b1 63 [.slice ga n gc]) :: H)) (fun (k : Int) (l2 : Int → Int) => ((Lr r : Int) - k).toNat) (0) (lo) ?_ (And.intro (by exact slot_int rfl (by first | omega)) (And.intro rfl (And.intro rfl (And.intro rfl (And.intro rfl (And.intro rfl (And.intro rfl (And.intro rfl trivial)))))))) ?_
   ·exact ⟨by omega, by omega, hlo, fun j j0 j1 => by omega, hO⟩
   intro k l2 w17 hIw17 ih18
   obtain ⟨hk0, hk1, hl2, hl3, hO⟩ := hIw17
   show Run _ _ _ _ [(28, _), (5, _), (7, _), (20, _), (21, _), (22, _), (26, _), (27, _)] _ _
   obtain ⟨_, ha3⟩ := hrd _ _ _ (hO.sub (.cons _ (.cons _ (.refl H))))
   obtain ⟨eb, eo, hea, hel⟩ := (ha3 r hr0 h2).open
   refine run_seq <| run_region <| rl_v rfl rfl rfl (ov_lss rfl rfl rfl) <| rl_nil <| run_seq ?_
   first | refine run_cond_dec rfl (fun h3 => ?_) (fun h3 => ?_) | refine run_cond rfl (fun h3 => ?_) (fun h3 => ?_)
   ·have hmod : (k + 1) % (Lr r : Int) = Wish.nxt (Lr r) k := by
     unfold Wish.nxt
     by_cases e : k + 1 = Lr r
     ·rw [if_pos e, e, Int.emod_self]
     ·rw [if_neg e]; exact Int.emod_eq_of_lt (by omega) (by omega)
    have hnx := Wish.nxt_rng hk0 h3
    have hri := hrng r k hr0 h2 hk0 h3
    have hcyc := hRO.cyc r k hr0 h2 hk0 h3
    refine run_skip <| run_seq <| run_block <| run_seq <| run_region <| rl_v rfl rfl rfl (ov_move rfl rfl) <| rl_v rfl rfl rfl (ov_index1 rfl Tryz.underlying23 (by kernel_rfl) rfl rfl ⟨by omega, by omega⟩ (by exact hea (by omega))) ?_
    refine rl_v rfl rfl rfl (ov_load rfl Tryz.underlying3 rfl rfl (by exact hel _ (Below.refl _ _) k hk0 h3)) ?_
    refine rl_v rfl rfl rfl (ov_assign rfl rfl) <| rl_v rfl rfl rfl (ov_assign rfl rfl) <| rl_nil <| run_region <| rl_v rfl rfl rfl (ov_move rfl rfl) <| rl_v rfl rfl rfl (ov_move rfl rfl) <| rl_v rfl rfl rfl (ov_move rfl rfl) <| rl_v rfl rfl rfl (ov_move rfl rfl) <| rl_v rfl rfl rfl (ov_add rfl rfl rfl (by omega)) ?_
    refine rl_v rfl rfl rfl (ov_move rfl rfl) <| rl_v rfl rfl rfl (ov_len rfl Tryz.underlying23 rfl) <| rl_v rfl rfl rfl (ov_rem rfl rfl rfl (by omega) (by omega)) ?_
    refine rl_v rfl rfl rfl (ov_index1 rfl Tryz.underlying23 (by kernel_rfl) rfl rfl ⟨by omega, by omega⟩ (by exact hea (by omega))) ?_
    refine rl_v rfl rfl rfl (ov_load rfl Tryz.underlying3 rfl rfl (by exact (hel _ (Below.refl _ _) ((k + 1) % (Lr r : Int)) (by omega) (by omega)).trans (congrArg some (congrArg iv (by rw [hmod, ← hcyc]))))) ?_
    refine rl_v rfl rfl rfl (ov_index1 rfl Tryz.underlying23 (by kernel_rfl) rfl rfl ⟨by omega, by omega⟩ (by rfl)) ?_
    refine rl_ow rfl (ow_storeI rfl rfl (by kernel_rfl) hO 0 rfl rfl ⟨by omega, by omega⟩ rfl) ?_
    rintro _ w19 ⟨rfl, hO20, hs21⟩
    have hl2' : ∀ s j : Int, 0 ≤ s → s < r → 0 ≤ j → j < Lr s → upd l2 (R r k) (o (R r k)) (R s j) = o (R s j) := fun s j s0 s1 j0 j1 => by
     rw [upd_ne _ _ fun e => by have := (hRO.dis s j r k s0 (by omega) j0 j1 hr0 h2 hk0 h3 e).1; omega]
     exact hl2 s j s0 s1 j0 j1
    have hl3' : ∀ j : Int, 0 ≤ j → j < k + 1 → upd l2 (R r k) (o (R r k)) (R r j) = o (R r j) := fun j j0 j1 => by
     by_cases e : j = k
     ·rw [e, upd_same]
     ·rw [upd_ne _ _ fun e2 => e (hRO.dis r j r k hr0 h2 j0 (by omega) hr0 h2 hk0 h3 e2).2]
      exact hl3 j j0 (by omega)
    refine rl_nil <| run_inBlock <| run_region <| rl_v rfl rfl rfl (ov_add rfl rfl rfl (by omega)) ?_
    refine rl_v rfl rfl rfl (ov_move rfl rfl) <| rl_nil ?_
    refine Run.use (ih18 (k + 1) (upd l2 (R r k) (o (R r k))) _ ?_ ?_) (And.intro (by exact slot_int rfl (by first | omega)) (And.intro rfl (And.intro rfl (And.intro rfl (And.intro rfl (And.intro rfl (And.intro rfl (And.intro rfl trivial))))))))
    ·first | omega | (dsimp only; omega)
    ·exact ⟨by omega, by omega, hl2', hl3', hO20⟩
   ·have hlo' : ∀ s j : Int, 0 ≤ s → s < r + 1 → 0 ≤ j → j < Lr s → l2 (R s j) = o (R s j) := fun s j s0 s1 j0 j1 => by
     by_cases e : s = r
     ·rw [e] at j1 ⊢; exact hl3 j j0 (by omega)
     ·exact hl2 s j s0 (by omega) j0 j1
    refine run_exit rfl <| run_inBlock <| run_region <| rl_v rfl rfl rfl (ov_add rfl rfl rfl (by omega)) ?_
    refine rl_v rfl rfl rfl (ov_move rfl rfl) <| rl_nil ?_
    refine Run.use (ih16 (r + 1) (l2) _ ?_ ?_) (And.intro (by exact slot_int rfl (by first | omega)) (And.intro rfl (And.intro rfl (And.intro rfl trivial))))
    ·first | omega | (dsimp only; omega)
    ·exact ⟨by omega, by omega, hlo', hO⟩
  ·have hfin : ∀ i : Int, 0 ≤ i → i < n → iv (lo i) = iv (o i) := fun i i0 i1 => by
    obtain ⟨s, k, ⟨s0, s1⟩, ⟨k0, k1⟩, e⟩ := hRO.cov i i0 i1 rfl
    rw [← e, hlo s k s0 (by omega) k0 k1]
   refine run_exit rfl <| run_seq <| run_region <| rl_v rfl rfl rfl (ov_move rfl rfl) <| rl_v rfl rfl rfl (ov_assign rfl rfl) <| rl_v rfl rfl rfl (ov_assign rfl rfl) <| rl_nil <| run_ret Tryz.func46 (res2 Tryz.results46 rfl rfl) ?_
   exact ⟨ob, o, t, rfl, (hO.congrI 0 rfl hfin).sub (.cons_cons _ (List.nil_sublist _)), hC⟩
end Go.Proofs.YtlldeifbfpmbaaaGreat
set_option maxRecDepth 100000
namespace Go.Proofs.YtlldeifbfpmbaaaGreat
open Go.RowKit Go.Proofs Go.MapKept
theorem u64_nn5 (x : Int) : 0 ≤ IntKind.u64.wrap x := by rw [IntKind.wrap_u64]; omega
end Go.Proofs.YtlldeifbfpmbaaaGreat
set_option maxRecDepth 100000
namespace Go.Proofs.YtlldeifbfpmbaaaGreat
open Go.RowKit Go.Proofs
theorem IRow.addr {ao : Option Addr} {m cap : Nat} {E : TypeId} {n : Nat} {G : Int → Value} {c : Option Blk} (h : IRow (.slice ao m cap) E n G c) : ∃ b, (0 < n → ao = some ⟨b, 0, none⟩) := by
 rcases h with ⟨_, rfl, _⟩ | ⟨b, cap', g, h1, _⟩
 ·exact ⟨0, fun h => absurd h (Nat.lt_irrefl _)⟩
 ·cases h1; exact ⟨b, fun _ => rfl⟩
theorem ow_storeI1 {N : Nat} {o : Oper} {F : Fr} {w w0 : World} {B : Nat} {H : List (Option Blk)} {T E : TypeId} {p x : Operand} {b n cap : Nat} {G : Int → Value} {c : Option Blk} {ao : Option Addr} {i : Int} {v : Value} (hd : o.dst = none) (ho : o.op = .store T p x) (hi : (Tryz.prog.info? T).map (·.size) = some 1)
  (hO : Own B w0 w H) (kk : Nat) (hr : IRow (.slice ao n cap) E n G c) (hk : H[kk]? = some c) (hao : 0 < n → ao = some ⟨b, 0, none⟩) (hp : Fr.ev F p = some (.pointer (some ⟨b, 0 + i.toNat, none⟩))) (hb : 0 ≤ i ∧ i < n)
  (hx : Fr.ev F x = some v) (h1 : v.oneCell' = true) :
  OpW Tryz.prog N o F w (fun F' w' => ∃ c', F' = F ∧ Own B w0 w' (H.set kk c') ∧ IRow (.slice ao n cap) E n (upd G i v) c' ∧ w'.heap.size = w.heap.size) := by
 obtain ⟨b', G', e1, e2, e3, rfl, e5⟩ := hr.asV (by omega)
 have := (hao (by omega)).symm.trans e1
 simp only [Option.some.injEq, Addr.mk.injEq] at this
 obtain rfl := this.1
 refine (ow_store hd ho hi hO kk hk hp ⟨hb.1, by omega⟩ hx h1).mono fun F' w' ⟨q1, q2, q3⟩ => ⟨_, q1, q2, ?_, q3⟩
 rw [e1]
 refine IRow.ofV e2 e3 fun j j0 j1 => ?_
 by_cases e : j = i
 ·subst e; simp
 ·rw [upd_ne _ _ e, upd_ne _ _ e]; exact e5 j j0 j1
end Go.Proofs.YtlldeifbfpmbaaaGreat
