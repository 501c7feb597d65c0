import Derived.Test.YtlldeifbfpmbaaaGreatGow
import Derived.Test.YtlldeifbfpmbaaaGreatQui
import Derived.Test.YtlldeifbfpmbaaaGreatLate
import Derived.Test.YtlldeifbfpmbaaaGreatFhA
set_option maxRecDepth 100000
namespace Go.Proofs.YtlldeifbfpmbaaaGreat
open Go.RowKit Go.Proofs
theorem OTab.put9 {B : Nat} {w0 w : World} {v x : Value} {T1 T2 : TypeId} {n m : Nat} {L : Int → Nat} {F : Int → Int → Value} {G : Int → Value} {R : List (Option Blk)} {c cr : Option Blk} {rv : Int → Value} {ch : Nat → Option Blk} (i : Nat) (hi : i < n)
  (hv : IRow v T1 n (upd rv i x) c) (h3 : ∀ r : Nat, r < n → IRow (rv r) T2 (L r) (F r) (ch r)) (hx : IRow x T2 m G cr) (ho : Own B w0 w (cr :: c :: (((List.range n).erase i).map ch ++ R))) :
  ∃ H, OTab v T1 T2 n (upd L i m) (upd F i G) H ∧ Own B w0 w (H ++ R) := by
 refine ⟨_, ⟨c, _, fun r => if r = i then cr else ch r, rfl, hv, fun r hr => ?_⟩, ho.perm ?_⟩
 ·show IRow _ _ _ _ (if r = i then cr else ch r)
  by_cases e : r = i
  ·subst e; rw [upd_same, upd_same, upd_same, if_pos rfl]; exact hx
  ·rw [upd_ne _ _ (by omega), upd_ne _ _ (by omega), upd_ne _ _ (by omega), if_neg e]; exact h3 r hr
 ·have p := (List.perm_cons_erase (List.mem_range.2 hi)).map (fun r => if r = i then cr else ch r)
  have e : ((List.range n).erase i).map (fun r => if r = i then cr else ch r) = ((List.range n).erase i).map ch := List.map_congr_left fun r hr => by
   have : r ≠ i := fun e => by rw [e] at hr; exact (List.Nodup.not_mem_erase List.nodup_range) hr
   exact if_neg this
  simp only [List.map_cons, if_true, e] at p
  exact (List.Perm.swap _ _ _).trans ((p.symm.append_right R).cons c)
end Go.Proofs.YtlldeifbfpmbaaaGreat
set_option maxRecDepth 100000
namespace Go.Proofs.YtlldeifbfpmbaaaGreat
open Go.RowKit Go.Proofs
structure ClU (B : Nat) (w0 : World) (H : List (Option Blk)) (w : World) : Prop where
 own : Own B w0 w H
theorem IRow.capU {ao : Option Addr} {m cap : Nat} {E : TypeId} {n : Nat} {G : Int → Value} {c : Option Blk} (h : IRow (.slice ao m cap) E n G c) : n ≤ cap := by
 rcases h with ⟨h1, rfl, rfl⟩ | ⟨b, cap', g, h1, h2, h3, rfl, h5⟩
 ·omega
 ·cases h1; exact h2
theorem IRow.cellU {ao : Option Addr} {m cap b : Nat} {E : TypeId} {n : Nat} {G : Int → Value} {c : Option Blk} {B : Nat} {w0 w : World} {H : List (Option Blk)} (h : IRow (.slice ao m cap) E n G c) (ho : Own B w0 w H) (k : Nat) (hk : H[k]? = some c) (ha : ao = some ⟨b, 0, none⟩) {i : Int} (i0 : 0 ≤ i) (i1 : i < n) : w.cell? ⟨b, 0 + i.toNat, none⟩ = some (G i) := by
 obtain ⟨b', e, r⟩ := h.openS ho k hk
 have := e (by omega)
 rw [ha] at this
 cases this
 exact r i i0 i1
theorem Own.satU {B : Nat} {w0 w : World} {H : List (Option Blk)} (hO : Own B w0 w H) {ao : Option Addr} {s n : Nat} {G : Int → List Value} (h : SAt B w0 ao s n G) : SAt w.heap.size w ao s n G := (h.below hO.below).mono hO.size
end Go.Proofs.YtlldeifbfpmbaaaGreat
set_option maxRecDepth 100000
namespace Go.Proofs.YtlldeifbfpmbaaaGreat
open Go.RowKit Go.Proofs Go.MapKept
theorem modsT {x m : Int} (hm : 0 < m ∧ m ≤ 1000000000000) : IntKind.i64.wrap (IntKind.u64.wrap x % m) = x % 18446744073709551616 % m ∧ 0 ≤ x % 18446744073709551616 % m ∧ x % 18446744073709551616 % m < m := by
 have h1 := Int.emod_nonneg (x % 18446744073709551616) (show m ≠ 0 by omega)
 have h2 := Int.emod_lt_of_pos (x % 18446744073709551616) hm.1
 exact ⟨by rw [IntKind.wrap_u64, IntKind.wrap_i64]; omega, h1, h2⟩
set_option maxHeartbeats 1000000 in
theorem list_any (ao : Option Addr) (n c N : Nat) (X : Int → Int) (w : World) (hN : N ≤ 1000) (h : IAt w.heap.size w ao n (fun i => iv (X i))) :
  Calls Tryz.prog 30 #[.slice ao n c, iv N] w fun e w' => ∃ (v : Value) (k : Nat) (E : Int → Int) (c' : Option Blk), e = .returned v ∧ k ≤ 12 ∧ IsL k E N ∧ IRow v 3 k (fun i => iv (E i)) c' ∧ Own w.heap.size w w' [c'] := by
 obtain ⟨gb, go, hga, hrow⟩ := h.open
 refine calls_of_run (F := [(0, _), (1, _)]) Tryz.func30 rfl Tryz.ntmps30 rfl rfl ?_
 have hO0 := Own.init w
 refine run_seq <| run_region <| rl_v rfl rfl rfl (ov_assign rfl rfl) <| rl_nil <| run_seq <| run_region <| rl_v rfl rfl rfl (ov_assign rfl rfl) <| rl_nil <| run_seq <| run_seq <| run_region <| rl_v rfl rfl rfl (ov_assign rfl rfl) <| rl_nil <| run_block <| Run.keep [0, 1, 5, 6] (F' := [(0, _), (1, _), (5, _), (6, _)]) rfl <| run_loop3 (fun (i : Nat) (k : Nat) (v : Value) => [(6, .int .i64 (i : Int)), (5, v)]) [0, 1] (fun (i : Nat) (k : Nat) (v : Value) (w1 : World) => ∃ (E : Int → Int) (c' : Option Blk), i ≤ n ∧ i ≤ 12 ∧ k ≤ i ∧ IsL k E N ∧ IRow v 3 k (fun i => iv (E i)) c' ∧ Own w.heap.size w w1 [c']) (fun (i : Nat) (k : Nat) (v : Value) => 12 - i) (0) (0) (.slice none 0 0) ?_ (And.intro (by exact slot_int rfl (by first | omega)) (And.intro rfl (And.intro rfl (And.intro rfl trivial)))) ?_
 ·exact ⟨fun _ => 0, none, by omega, by omega, by omega, ⟨fun k k0 k1 => by omega, fun a b a0 a1 => by omega⟩, IRow.nil _ _, hO0.nil_cons⟩
 intro i k v w1 hIw1 ih2
 obtain ⟨E, c', hi1, hi2, hki, hL, hr, hO⟩ := hIw1
 show Run _ _ _ _ [(6, _), (5, _), (0, _), (1, _)] _ _
 refine run_seq <| run_seq <| run_region_join 21 (.bool (decide ((i : Int) < n ∧ (i : Int) < 12 ∧ (0 : Int) < N))) [0, 1, 5, 6] (fun hk3 => ?_) ?_
 ·refine rl_v rfl rfl rfl (ov_move rfl rfl) <| rl_v rfl rfl rfl (ov_move rfl rfl) <| rl_v rfl rfl rfl (ov_len rfl Tryz.underlying23 rfl) <| rl_v rfl rfl rfl (ov_lss rfl rfl rfl) <| rl_v rfl rfl rfl (ov_move rfl rfl) ?_
  first | refine rl_split_dec 14 rfl (fun hg4 => ?_) (fun hg4 => ?_) | refine rl_split 14 rfl (fun hg4 => ?_) (fun hg4 => ?_)
  ·refine rl_gv rfl rfl rfl rfl rfl (ov_move rfl rfl) <| rl_gv rfl rfl rfl rfl rfl (ov_lss rfl rfl rfl) <| rl_v rfl rfl rfl (ov_pick_t rfl rfl rfl) <| rl_v rfl rfl rfl (ov_move rfl rfl) ?_
   first | refine rl_split_dec 18 rfl (fun hg5 => ?_) (fun hg5 => ?_) | refine rl_split 18 rfl (fun hg5 => ?_) (fun hg5 => ?_)
   ·refine rl_gv rfl rfl rfl rfl rfl (ov_move rfl rfl) <| rl_gv rfl rfl rfl rfl rfl (ov_gtr rfl rfl rfl) <| rl_v rfl rfl rfl (ov_pick_t rfl rfl rfl) ?_
    refine rl_nil (hk3 _ (jbd rfl (by omega)) (And.intro rfl (And.intro rfl (And.intro rfl (And.intro rfl trivial)))))
   ·refine rl_gskip rfl rfl rfl rfl rfl rfl <| rl_gskip rfl rfl rfl rfl rfl rfl <| rl_v rfl rfl rfl (ov_pick_f rfl rfl rfl) ?_
    refine rl_nil (hk3 _ (jbf rfl (by omega)) (And.intro rfl (And.intro rfl (And.intro rfl (And.intro rfl trivial)))))
  ·refine rl_gskip rfl rfl rfl rfl rfl rfl <| rl_gskip rfl rfl rfl rfl rfl rfl <| rl_v rfl rfl rfl (ov_pick_f rfl rfl rfl) <| rl_v rfl rfl rfl (ov_move rfl rfl) <| rl_gskip rfl rfl rfl rfl rfl rfl <| rl_gskip rfl rfl rfl rfl rfl rfl <| rl_v rfl rfl rfl (ov_pick_f rfl rfl rfl) ?_
   refine rl_nil (hk3 _ (jbf rfl (by omega)) (And.intro rfl (And.intro rfl (And.intro rfl (And.intro rfl trivial)))))
 ·show Run _ _ _ _ [(21, _), (0, _), (1, _), (5, _), (6, _)] _ _
  first | refine run_cond_dec rfl (fun c1 => ?_) (fun c1 => ?_) | refine run_cond rfl (fun c1 => ?_) (fun c1 => ?_)
  ·obtain ⟨c2, c3, c4⟩ := c1
   have hm := modsT (x := X i) (m := (N : Int)) ⟨c4, by omega⟩
   obtain ⟨x, hx⟩ : ∃ x, x = X i % 18446744073709551616 % (N : Int) := ⟨_, rfl⟩
   rw [← hx] at hm
   obtain ⟨va, vc, rfl⟩ := Row.val hr
   obtain ⟨vb, hva⟩ := hr.addr
   refine run_skip <| run_seq <| run_block <| run_seq <| run_region <| rl_v rfl rfl rfl (ov_move rfl rfl) <| rl_v rfl rfl rfl (ov_move rfl rfl) <| rl_v rfl rfl rfl (ov_index1 rfl Tryz.underlying23 (by kernel_rfl) rfl rfl ⟨by omega, by omega⟩ (by exact hga (by omega))) ?_
   refine rl_v rfl rfl rfl (ov_load rfl Tryz.underlying3 rfl rfl (by exact hrow _ hO.below i (by omega) c2)) ?_
   refine rl_v rfl rfl rfl (ov_conv rfl Tryz.underlying3 Tryz.underlying49 rfl) <| rl_v rfl rfl rfl (ov_move rfl rfl) <| rl_v rfl rfl rfl (ov_convTo (((IntKind.wrap_u64 _).trans (Int.emod_eq_of_lt (by omega) (by omega)))) rfl Tryz.underlying3 Tryz.underlying49 rfl) ?_
   refine rl_v rfl rfl rfl (ov_rem rfl rfl rfl (u64_nn5 _) (by omega)) ?_
   refine rl_v rfl rfl rfl (ov_convTo (hm.1) rfl Tryz.underlying49 Tryz.underlying3 rfl) <| rl_v rfl rfl rfl (ov_assign rfl rfl) <| rl_nil <| run_seq <| run_region <| rl_v rfl rfl rfl (ov_assign rfl rfl) <| rl_nil <| run_seq <| run_seq <| run_region <| rl_v rfl rfl rfl (ov_assign rfl rfl) <| rl_nil <| run_block <| Run.keep [0, 1, 5, 6, 7, 8, 9] (F' := [(0, _), (1, _), (5, _), (6, _), (7, _), (8, _), (9, _)]) rfl <| run_loop2 (fun (j : Nat) (tw : Bool) => [(9, .int .i64 (j : Int)), (8, .bool tw)]) [0, 1, 5, 6, 7] (fun (j : Nat) (tw : Bool) (w6 : World) => j ≤ k ∧ (tw = true ↔ ∃ a : Int, (0 ≤ a ∧ a < j) ∧ E a = x) ∧ Own w.heap.size w w6 [c']) (fun (j : Nat) (tw : Bool) => k - j) (0) (false) ?_ (And.intro (by exact slot_int rfl (by first | omega)) (And.intro (by rfl) (And.intro rfl (And.intro rfl (And.intro rfl (And.intro rfl (And.intro rfl trivial))))))) ?_
   ·exact ⟨Nat.zero_le _, ⟨fun h => Bool.noConfusion h, fun ⟨a, ha, _⟩ => by omega⟩, hO⟩
   intro j tw w6 hIw6 ih7
   obtain ⟨hj, htw, hO2⟩ := hIw6
   show Run _ _ _ _ [(9, _), (8, _), (0, _), (1, _), (5, _), (6, _), (7, _)] _ _
   refine run_seq <| run_seq <| run_region <| rl_v rfl rfl rfl (ov_move rfl rfl) <| rl_v rfl rfl rfl (ov_move rfl rfl) <| rl_v rfl rfl rfl (ov_len rfl Tryz.underlying23 rfl) <| rl_v rfl rfl rfl (ov_lss rfl rfl rfl) <| rl_nil ?_
   first | refine run_cond_dec rfl (fun c5 => ?_) (fun c5 => ?_) | refine run_cond rfl (fun c5 => ?_) (fun c5 => ?_)
   ·refine run_skip <| run_seq <| run_block <| run_region <| rl_v rfl rfl rfl (ov_move rfl rfl) <| rl_v rfl rfl rfl (ov_move rfl rfl) ?_
    first | refine rl_split_dec 40 rfl (fun hg => ?_) (fun hg => ?_) | refine rl_split 40 rfl (fun hg => ?_) (fun hg => ?_)
    ·refine rl_gskip rfl rfl rfl rfl rfl rfl <| rl_gskip rfl rfl rfl rfl rfl rfl <| rl_gskip rfl rfl rfl rfl rfl rfl <| rl_gskip rfl rfl rfl rfl rfl rfl <| rl_gskip rfl rfl rfl rfl rfl rfl <| rl_gskip rfl rfl rfl rfl rfl rfl <| rl_v rfl rfl rfl (ov_pick_t rfl rfl rfl) <| rl_v rfl rfl rfl (ov_assign rfl rfl) <| rl_nil <| run_inBlock <| run_region <| rl_v rfl rfl rfl (ov_move rfl rfl) <| rl_v rfl rfl rfl (ov_add rfl rfl rfl (by omega)) ?_
     refine rl_v rfl rfl rfl (ov_assign rfl rfl) <| rl_nil ?_
     refine Run.use (ih7 (j + 1) (true) _ ?_ ?_) (And.intro (by exact slot_int rfl (by first | omega)) (And.intro (by rfl) (And.intro rfl (And.intro rfl (And.intro rfl (And.intro rfl (And.intro rfl trivial)))))))
     ·first | omega | (dsimp only; omega)
     ·exact ⟨by omega, ⟨fun _ => by obtain ⟨a, ha, e⟩ := htw.1 hg; exact ⟨a, by omega, e⟩, fun _ => rfl⟩, hO2⟩
    ·have htn : ¬ ∃ a : Int, (0 ≤ a ∧ a < j) ∧ E a = x := fun h => by have := htw.2 h; rw [this] at hg; exact absurd hg (by decide)
     refine rl_gv rfl rfl rfl rfl rfl (ov_move rfl rfl) <| rl_gv rfl rfl rfl rfl rfl (ov_move rfl rfl) <| rl_gv rfl rfl rfl rfl rfl (ov_index1 rfl Tryz.underlying23 (by kernel_rfl) rfl rfl ⟨by omega, by omega⟩ (by exact hva (by omega))) ?_
     refine rl_gv rfl rfl rfl rfl rfl (ov_load rfl Tryz.underlying3 rfl rfl (by exact hr.cellU hO2 0 rfl (hva (by omega)) (i := j) (by omega) (by omega))) ?_
     refine rl_gv rfl rfl rfl rfl rfl (ov_move rfl rfl) <| rl_gv rfl rfl rfl rfl rfl (ov_eql rfl rfl rfl) <| rl_v rfl rfl rfl (ov_pick_f rfl rfl rfl) <| rl_v rfl rfl rfl (ov_assign rfl rfl) <| rl_nil <| run_inBlock <| run_region <| rl_v rfl rfl rfl (ov_move rfl rfl) <| rl_v rfl rfl rfl (ov_add rfl rfl rfl (by omega)) ?_
     refine rl_v rfl rfl rfl (ov_assign rfl rfl) <| rl_nil ?_
     refine Run.use (ih7 (j + 1) (decide (E j = x)) _ ?_ ?_) (And.intro (by exact slot_int rfl (by first | omega)) (And.intro (by rfl) (And.intro rfl (And.intro rfl (And.intro rfl (And.intro rfl (And.intro rfl trivial)))))))
     ·first | omega | (dsimp only; omega)
     ·exact ⟨by omega, ⟨fun h => ⟨j, by omega, of_decide_eq_true h⟩, fun ⟨a, ha, e⟩ => by by_cases d : a = j; (rw [d] at e; exact decide_eq_true e); (exact absurd ⟨a, by omega, e⟩ htn)⟩, hO2⟩
   ·have hjk : j = k := by omega
    subst hjk
    refine run_exit rfl <| run_seq <| run_region <| rl_v rfl rfl rfl (ov_move rfl rfl) <| rl_v rfl rfl rfl (ov_not rfl rfl) <| rl_nil ?_
    first | refine run_cond_dec rfl (fun c6 => ?_) (fun c6 => ?_) | refine run_cond rfl (fun c6 => ?_) (fun c6 => ?_)
    ·have hno : ∀ a : Int, 0 ≤ a → a < j → E a ≠ x := fun a a0 a1 e => by
      have := htw.2 ⟨a, ⟨a0, a1⟩, e⟩
      rw [this] at c6
      simp at c6
     refine run_region <| rl_v rfl rfl rfl (ov_move rfl rfl) <| rl_v rfl rfl rfl (ov_move rfl rfl) <| rl_ow rfl (ow_one rfl rfl rfl Tryz.underlying23 info_3 rfl hO2 rfl rfl) ?_
     rintro _ w9 ⟨b9, rfl, hO10, hs11⟩
     refine rl_ow rfl (ow_app1 rfl rfl rfl Tryz.underlying23 info_3 rfl hO10 0 hr rfl rfl rfl rfl ⟨by omega, by omega⟩) ?_
     rintro _ w12 ⟨v5, c7, rfl, hO13, hr5, hs14⟩
     have hL5 : IsL (j + 1) (upd E j x) N := by
      refine ⟨fun a a0 a1 => ?_, fun a b a0 a1 b0 b1 e => ?_⟩
      ·by_cases d : a = j
       ·rw [d, upd_same]; exact hm.2
       ·rw [upd_ne _ _ d]; exact hL.1 a a0 (by omega)
      ·by_cases d : a = j <;> by_cases d2 : b = j
       ·omega
       ·rw [d, upd_same, upd_ne _ _ d2] at e; exact absurd e.symm (hno b b0 (by omega))
       ·rw [d2, upd_same, upd_ne _ _ d] at e; exact absurd e (hno a a0 (by omega))
       ·rw [upd_ne _ _ d, upd_ne _ _ d2] at e; exact hL.2 a b a0 (by omega) b0 (by omega) e
     refine rl_v rfl rfl rfl (ov_assign rfl rfl) <| rl_nil <| run_inBlock <| run_region <| rl_v rfl rfl rfl (ov_move rfl rfl) <| rl_v rfl rfl rfl (ov_add rfl rfl rfl (by omega)) ?_
     refine rl_v rfl rfl rfl (ov_assign rfl rfl) <| rl_nil ?_
     refine Run.use (ih2 (i + 1) (j + 1) (v5) _ ?_ ?_) (And.intro (by exact slot_int rfl (by first | omega)) (And.intro rfl (And.intro rfl (And.intro rfl trivial))))
     ·first | omega | (dsimp only; omega)
     ·exact ⟨_, c7, by omega, by omega, by omega, hL5, hr5.congr (fun a a0 a1 => by unfold upd; split <;> rfl), hO13⟩
    ·refine run_skip <| run_inBlock <| run_region <| rl_v rfl rfl rfl (ov_move rfl rfl) <| rl_v rfl rfl rfl (ov_add rfl rfl rfl (by omega)) ?_
     refine rl_v rfl rfl rfl (ov_assign rfl rfl) <| rl_nil ?_
     refine Run.use (ih2 (i + 1) (j) (.slice va j vc) _ ?_ ?_) (And.intro (by exact slot_int rfl (by first | omega)) (And.intro rfl (And.intro rfl (And.intro rfl trivial))))
     ·first | omega | (dsimp only; omega)
     ·exact ⟨E, c', by omega, by omega, by omega, hL, hr, hO2⟩
  ·refine run_exit rfl <| run_seq <| run_region <| rl_v rfl rfl rfl (ov_move rfl rfl) <| rl_v rfl rfl rfl (ov_assign rfl rfl) <| rl_nil <| run_ret Tryz.func30 (res1 Tryz.results30 rfl) ?_
   exact ⟨_, k, E, c', rfl, by omega, hL, hr, hO⟩
theorem tints_any (xa ya : Option Addr) (xn xc yn yc : Nat) (X Y : Int → Int) (w : World) (hx : IAt w.heap.size w xa xn (fun i => iv (X i))) (hy : IAt w.heap.size w ya yn (fun i => iv (Y i))) (hb : xn ≤ 1000000) (hne : xn = yn) (he : ∀ i : Int, 0 ≤ i → i < xn → X i = Y i) :
  Calls Tryz.prog 37 #[.slice xa xn xc, .slice ya yn yc] w fun e w' => e = .returned (.bool true) ∧ Own w.heap.size w w' [] := by
 obtain ⟨xb, xo, hxa, hxr⟩ := hx.open
 obtain ⟨yb, yo, hya, hyr⟩ := hy.open
 refine calls_of_run (F := [(0, _), (1, _)]) Tryz.func37 rfl Tryz.ntmps37 rfl rfl ?_
 have hO0 := Own.init w
 refine run_seq <| run_region <| rl_v rfl rfl rfl (ov_assign rfl rfl) <| rl_nil <| run_seq <| run_seq <| run_region <| rl_v rfl rfl rfl (ov_move rfl rfl) <| rl_v rfl rfl rfl (ov_len rfl Tryz.underlying23 rfl) <| rl_v rfl rfl rfl (ov_move rfl rfl) <| rl_v rfl rfl rfl (ov_len rfl Tryz.underlying23 rfl) <| rl_v rfl rfl rfl (ov_neq rfl rfl rfl) <| rl_nil ?_
 first | refine run_cond_dec rfl (fun c1 => ?_) (fun c1 => ?_) | refine run_cond rfl (fun c1 => ?_) (fun c1 => ?_)
 ·exfalso; omega
 ·refine run_skip <| run_seq <| run_seq <| run_region <| rl_v rfl rfl rfl (ov_assign rfl rfl) <| rl_nil <| run_block <| Run.keep [0, 1, 5] (F' := [(0, _), (1, _), (5, _)]) rfl <| run_loop1 (fun (i : Nat) => [(5, .int .i64 (i : Int))]) [0, 1] (fun (i : Nat) (w1 : World) => i ≤ xn ∧ Own w.heap.size w w1 []) (fun (i : Nat) => xn - i) (0) ?_ (And.intro (by exact slot_int rfl (by first | omega)) (And.intro rfl (And.intro rfl trivial))) ?_
  ·exact ⟨Nat.zero_le _, hO0⟩
  intro i w1 hIw1 ih2
  obtain ⟨hi, hO1⟩ := hIw1
  show Run _ _ _ _ [(5, _), (0, _), (1, _)] _ _
  refine run_seq <| run_seq <| run_region <| rl_v rfl rfl rfl (ov_move rfl rfl) <| rl_v rfl rfl rfl (ov_move rfl rfl) <| rl_v rfl rfl rfl (ov_len rfl Tryz.underlying23 rfl) <| rl_v rfl rfl rfl (ov_lss rfl rfl rfl) <| rl_nil ?_
  first | refine run_cond_dec rfl (fun c2 => ?_) (fun c2 => ?_) | refine run_cond rfl (fun c2 => ?_) (fun c2 => ?_)
  ·have hei := he i (by omega) c2
   refine run_skip <| run_seq <| run_block <| run_seq <| run_quiet mixed (by kernel_rfl) ?_
   refine rq_v rfl rfl rfl (fun _ => ov_move rfl rfl) ?_
   refine rq_v rfl rfl rfl (fun _ => ov_move rfl rfl) ?_
   refine rq_v rfl rfl rfl (fun _ => ov_index1 rfl Tryz.underlying23 (by kernel_rfl) rfl rfl ⟨by omega, by omega⟩ (by exact hxa (by omega))) ?_
   refine rq_v rfl rfl rfl (fun _ => ov_load rfl Tryz.underlying3 rfl rfl (by show World.cell? w1 _ = _; first | exact hxr _ hO1.below i (by omega) c2)) ?_
   refine rq_v rfl rfl rfl (fun _ => ov_move rfl rfl) ?_
   refine rq_v rfl rfl rfl (fun _ => ov_move rfl rfl) ?_
   refine rq_v rfl rfl rfl (fun _ => ov_index1 rfl Tryz.underlying23 (by kernel_rfl) rfl rfl ⟨by omega, by omega⟩ (by exact hya (by omega))) ?_
   refine rq_v rfl rfl rfl (fun _ => ov_load rfl Tryz.underlying3 rfl rfl (by show World.cell? w1 _ = _; first | exact hyr _ hO1.below i (by omega) (by omega))) ?_
   refine rq_v rfl rfl rfl (fun _ => ov_neq rfl rfl rfl) ?_
   refine rq_nil (fun n3 => ?_)
   have hO5 := hO1.drewN n3
   generalize World.drewN w1 n3 = w4 at hO5 ⊢
   first | refine run_cond_dec rfl (fun c3 => ?_) (fun c3 => ?_) | refine run_cond rfl (fun c3 => ?_) (fun c3 => ?_)
   ·exfalso; exact c3 hei
   ·refine run_skip <| run_inBlock <| run_region <| rl_v rfl rfl rfl (ov_move rfl rfl) <| rl_v rfl rfl rfl (ov_add rfl rfl rfl (by omega)) ?_
    refine rl_v rfl rfl rfl (ov_assign rfl rfl) <| rl_nil ?_
    refine Run.use (ih2 (i + 1) _ ?_ ?_) (And.intro (by exact slot_int rfl (by first | omega)) (And.intro rfl (And.intro rfl trivial)))
    ·first | omega | (dsimp only; omega)
    ·exact ⟨by omega, hO5⟩
  ·refine run_exit rfl <| run_seq <| run_region <| rl_v rfl rfl rfl (ov_assign rfl rfl) <| rl_nil <| run_ret Tryz.func37 (res1 Tryz.results37 rfl) ?_
   exact ⟨rfl, hO1⟩
end Go.Proofs.YtlldeifbfpmbaaaGreat
set_option maxRecDepth 100000
namespace Go.Proofs.YtlldeifbfpmbaaaGreat
open Go.RowKit Go.Proofs
theorem sm_atmost {p : Int → Prop} [∀ i, Decidable (p i)] {n : Int} (n0 : 0 ≤ n) (h : ∀ i j : Int, 0 ≤ i → i < n → 0 ≤ j → j < n → p i → p j → i = j) : sm (fun i => if p i then 1 else 0) n ≤ 1 := by
 by_cases c : ∃ i : Int, 0 ≤ i ∧ i < n ∧ p i
 ·obtain ⟨i, i0, i1, hi⟩ := c
  have e : sm (fun i => if p i then 1 else 0) n = sm (fun j => if i = j then 1 else 0) n := sm_congr fun j j0 j1 => by
   by_cases e : i = j
   ·rw [if_pos e, ← e, if_pos hi]
   ·rw [if_neg e, if_neg fun hj => e (h i j i0 i1 j0 j1 hi hj)]
  rw [e, sm_one i0 i1]
  omega
 ·rw [sm_congr (g := fun _ => 0) fun i i0 i1 => if_neg fun hi => c ⟨i, i0, i1, hi⟩, sm_const 0 n0]
  omega
theorem perm_surj {n : Int} {o : Int → Int} (n0 : 0 ≤ n) (hr : ∀ i : Int, 0 ≤ i → i < n → 0 ≤ o i ∧ o i < n) (hi : ∀ i j : Int, 0 ≤ i → i < n → 0 ≤ j → j < n → o i = o j → i = j) {k : Int} (k0 : 0 ≤ k) (k1 : k < n) : ∃ p : Int, 0 ≤ p ∧ p < n ∧ o p = k := by
 have h1 : sm (fun k => sm (fun p => if o p = k then (1 : Int) else 0) n) n = n := by
  rw [sm_swap, sm_congr (g := fun _ => 1) fun p p0 p1 => sm_one (hr p p0 p1).1 (hr p p0 p1).2 1, sm_const 1 n0]
  omega
 have h2 := sm_eq (f := fun k => sm (fun p => if o p = k then (1 : Int) else 0) n) (g := fun _ => 1) (k := n) (fun k k0 k1 => sm_atmost n0 fun i j i0 i1 j0 j1 h1 h2 => hi i j i0 i1 j0 j1 (h1.trans h2.symm)) (by rw [h1, sm_const 1 n0]; omega) k0 k1
 refine Classical.byContradiction fun hno => ?_
 have h3 : sm (fun p => if o p = k then (1 : Int) else 0) n = 0 := by
  rw [sm_congr (g := fun _ => 0) fun p p0 p1 => if_neg fun e => hno ⟨p, p0, p1, e⟩, sm_const 0 n0]; omega
 have h4 : sm (fun p => if o p = k then (1 : Int) else 0) n = 1 := h2
 omega
structure Wish where
 n : Nat
 l : Int → Nat
 e : Int → Int → Int
namespace Wish
structure Ok (W : Wish) : Prop where
 len : ∀ i : Int, 0 ≤ i → i < W.n → 1 ≤ W.l i
 rng : ∀ i k : Int, 0 ≤ i → i < W.n → 0 ≤ k → k < W.l i → 0 ≤ W.e i k ∧ W.e i k < W.n
 dis : ∀ i : Int, 0 ≤ i → i < W.n → ∀ a b : Int, 0 ≤ a → a < W.l i → 0 ≤ b → b < W.l i → W.e i a = W.e i b → a = b
 own : ∀ i : Int, 0 ≤ i → i < W.n → W.e i ((W.l i : Int) - 1) = i
def rk (W : Wish) (i k : Int) : Int := Proofs.YtlldeifbfpmbaaaGreat.rk (W.e i) (W.l i) k
structure Cert (W : Wish) (o t : Int → Int) : Prop where
 rng : ∀ i : Int, 0 ≤ i → i < W.n → 0 ≤ o i ∧ o i < W.n
 inj : ∀ i j : Int, 0 ≤ i → i < W.n → 0 ≤ j → j < W.n → o i = o j → i = j
 on : ∀ i : Int, 0 ≤ i → i < W.n → W.rk i (o i) < W.l i
 lev : ∀ i : Int, 0 ≤ i → i < W.n → t (o i) = t i
 best : ∀ i k : Int, 0 ≤ i → i < W.n → 0 ≤ k → k < W.rk i (o i) → t (W.e i k) < t i
end Wish
end Go.Proofs.YtlldeifbfpmbaaaGreat
