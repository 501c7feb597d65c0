import Derived.Test.YtlldeifbfpmbaaaGreatHeap1
set_option maxRecDepth 100000
namespace Go.Proofs.YtlldeifbfpmbaaaGreat
open Go.RowKit Go.Proofs
theorem m_less (w : World) (b : Nat) (u : Value) (hc : w.cell? ⟨b, 0, none⟩ = some u) : (method (Tryz.prog.types.size + Made.depth) 115 (.pointer (some ⟨b, 0, none⟩)) "Less").run Tryz.prog w = .ok (186, u) w :=
 meth_emb (by kernel_rfl) Tryz.underlying119 rfl rfl rfl (by kernel_rfl) Tryz.underlying117 hc
theorem m_swap (w : World) (b : Nat) (u : Value) (hc : w.cell? ⟨b, 0, none⟩ = some u) : (method (Tryz.prog.types.size + Made.depth) 115 (.pointer (some ⟨b, 0, none⟩)) "Swap").run Tryz.prog w = .ok (189, u) w :=
 meth_emb (by kernel_rfl) Tryz.underlying119 rfl rfl rfl (by kernel_rfl) Tryz.underlying117 hc
theorem m_len (w : World) (b : Nat) (u : Value) (hc : w.cell? ⟨b, 0, none⟩ = some u) : (method (Tryz.prog.types.size + Made.depth) 115 (.pointer (some ⟨b, 0, none⟩)) "Len").run Tryz.prog w = .ok (66, u) w :=
 meth_emb (by kernel_rfl) Tryz.underlying119 rfl rfl rfl (by kernel_rfl) Tryz.underlying117 hc
theorem m_push (w : World) (v : Value) : (method (Tryz.prog.types.size + Made.depth) 115 v "Push").run Tryz.prog w = .ok (188, v) w :=
 meth_ptr (by kernel_rfl) Tryz.underlying115
theorem m_pop (w : World) (v : Value) : (method (Tryz.prog.types.size + Made.depth) 115 v "Pop").run Tryz.prog w = .ok (187, v) w :=
 meth_ptr (by kernel_rfl) Tryz.underlying115
theorem up_any (b B m cap : Nat) (ao : Option Addr) (P0 A0 : Int → Int) (j0 : Int) (c0 : Option Blk) (w0 w : World) (H : List (Option Blk)) (hm : m ≤ 100) (hj0 : 0 ≤ j0) (hj1 : j0 < m) (hU : UP m P0 A0 j0) (hO : Own B w0 w (c0 :: some (lch b 119 [.slice ao m cap]) :: H)) (hr : SRow (.slice ao m cap) 123 2 m (hpG P0 A0) c0) :
  Calls Tryz.prog 106 #[(.iface 115 (.pointer (some ⟨b, 0, none⟩))), .int .i64 j0] w fun e w' => e = .returned (.tuple #[]) ∧ ∃ P' A' c', Own B w0 w' (c' :: some (lch b 119 [.slice ao m cap]) :: H) ∧ SRow (.slice ao m cap) 123 2 m (hpG P' A') c' ∧ HP m P' A' ∧ ∀ N S, Cont N m P0 A0 S → Cont N m P' A' S := by
 refine calls_of_run (F := [(0, _), (1, _)]) Tryz.func106 rfl Tryz.ntmps106 rfl rfl <| run_block <| Run.keep [0, 1] (F' := [(0, _), (1, _)]) rfl <| run_loop4 (fun (j : Int) (P : Int → Int) (A : Int → Int) (c : Option Blk) => [(1, .int .i64 j)]) [0] (fun (j : Int) (P : Int → Int) (A : Int → Int) (c : Option Blk) (w1 : World) => 0 ≤ j ∧ j < m ∧ UP m P A j ∧ SRow (.slice ao m cap) 123 2 m (hpG P A) c ∧ (∀ N S, Cont N m P0 A0 S → Cont N m P A S) ∧ Own B w0 w1 (c :: some (lch b 119 [.slice ao m cap]) :: H)) (fun (j : Int) (P : Int → Int) (A : Int → Int) (c : Option Blk) => j.toNat) (j0) (P0) (A0) (c0) ?_ (And.intro (by exact slot_int rfl (by first | omega)) (And.intro rfl trivial)) ?_
 ·exact ⟨hj0, hj1, hU, hr, fun _ _ h => h, hO⟩
 intro j P A c w1 hIw1 ih2
 obtain ⟨hj0, hj1, hU, hr, hC, hO⟩ := hIw1
 show Run _ _ _ _ [(1, _), (0, _)] _ _
 have hi0 : 0 ≤ max 0 (j - 1) / 2 := by omega
 have hi1 : max 0 (j - 1) / 2 < m := by omega
 refine run_block <| run_seq <| run_region <| rl_v rfl rfl rfl (ov_move rfl rfl) <| rl_v rfl rfl rfl (ov_sub rfl rfl rfl (by omega)) ?_
 refine rl_v rfl rfl rfl (ov_quoT rfl rfl rfl (by omega) (by omega)) ?_
 refine rl_v rfl rfl rfl (ov_assign rfl rfl) <| rl_nil <| run_seq <| run_seq <| run_region <| rl_v rfl rfl rfl (ov_move rfl rfl) <| rl_v rfl rfl rfl (ov_move rfl rfl) <| rl_v rfl rfl rfl (ov_eql rfl rfl rfl) <| rl_v rfl rfl rfl (ov_move rfl rfl) ?_
 first | refine rl_split_dec 11 rfl (fun g1 => ?_) (fun g1 => ?_) | refine rl_split 11 rfl (fun g1 => ?_) (fun g1 => ?_)
 ·refine rl_gskip rfl rfl rfl rfl rfl rfl <| rl_gskip rfl rfl rfl rfl rfl rfl <| rl_gskip rfl rfl rfl rfl rfl rfl <| rl_gskip rfl rfl rfl rfl rfl rfl <| rl_gskip rfl rfl rfl rfl rfl rfl <| rl_v rfl rfl rfl (ov_pick_t rfl rfl rfl) <| rl_nil <| run_cond_t rfl <| run_exit rfl <| run_end Tryz.func106 (res0 Tryz.results106) ?_
  exact ⟨rfl, P, A, c, hO, hr, hU.stop (.inl (by omega)), hC⟩
 ·refine rl_gv rfl rfl rfl rfl rfl (ov_move rfl rfl) <| rl_gv rfl rfl rfl rfl rfl (ov_move rfl rfl) <| rl_gv rfl rfl rfl rfl rfl (ov_move rfl rfl) ?_
  refine rl_ginvoke callable_186 rfl rfl rfl rfl rfl rfl rfl (m_less _ b _ (hO.cellL 1 rfl rfl)) rfl (less_sh ao m cap P A j (max 0 (j - 1) / 2) _ (by omega) (by omega) (by omega) (by omega) (hr.reads hO 0 rfl)) (fun e4 w5 hp6 => ?_)
  obtain ⟨⟨bb1, rfl, hbb1⟩, hbl1⟩ := hp6
  refine ⟨_, rfl, ?_⟩
  have hO7 := hO.past hbl1
  have hi2 : max 0 (j - 1) / 2 = (j - 1) / 2 := by omega
  refine rl_gv rfl rfl rfl rfl rfl (ov_not rfl rfl) <| rl_v rfl rfl rfl (ov_pick_f rfl rfl rfl) <| rl_nil ?_
  first | refine run_cond_dec rfl (fun h2 => ?_) (fun h2 => ?_) | refine run_cond rfl (fun h2 => ?_) (fun h2 => ?_)
  ·refine run_exit rfl <| run_end Tryz.func106 (res0 Tryz.results106) ?_
   exact ⟨rfl, P, A, c, hO7, hr, hU.stop (.inr fun hb => by rw [← hi2] at hb; rw [hbb1.2 hb] at h2; cases h2), hC⟩
  ·have hb : bf P A j (max 0 (j - 1) / 2) := hbb1.1 (by cases bb1; exact absurd h2 (by decide); rfl)
   refine run_skip <| run_seq <| run_region <| rl_v rfl rfl rfl (ov_move rfl rfl) <| rl_v rfl rfl rfl (ov_move rfl rfl) <| rl_v rfl rfl rfl (ov_move rfl rfl) ?_
   refine rl_invoke callable_189 rfl rfl rfl rfl rfl (m_swap _ b _ (hO7.cellL 1 rfl rfl)) rfl (swap_sh ao m cap B P A (max 0 (j - 1) / 2) j c w0 _ _ (by omega) (by omega) (by omega) (by omega) hO7 hr) (fun e8 w9 hp10 => ?_)
   obtain ⟨rfl, c2, hOs, hrs⟩ := hp10
   refine ⟨_, rfl, ?_⟩
   refine rl_nil <| run_region <| rl_v rfl rfl rfl (ov_move rfl rfl) <| rl_v rfl rfl rfl (ov_assign rfl rfl) <| rl_nil <| run_inBlock ?_
   refine Run.use (ih2 (max 0 (j - 1) / 2) (sw P (max 0 (j - 1) / 2) j) (sw A (max 0 (j - 1) / 2) j) (c2) _ ?_ ?_) (And.intro (by exact slot_int rfl (by first | omega)) (And.intro rfl trivial))
   ·first | omega | (dsimp only; omega)
   ·exact ⟨by omega, by omega, hU.step (by omega) hj1 hi2 hb, hrs, fun N S h => (hC N S h).sw (by omega) (by omega) (by omega) (by omega), hOs⟩
theorem down_any (b B m cap : Nat) (ao : Option Addr) (P0 A0 : Int → Int) (n : Int) (c0 : Option Blk) (w0 w : World) (H : List (Option Blk)) (hm : m ≤ 100) (hn0 : 0 ≤ n) (hn1 : n ≤ m) (hD : DN n P0 A0 0) (hO : Own B w0 w (c0 :: some (lch b 119 [.slice ao m cap]) :: H)) (hr : SRow (.slice ao m cap) 123 2 m (hpG P0 A0) c0) :
  Calls Tryz.prog 115 #[(.iface 115 (.pointer (some ⟨b, 0, none⟩))), .int .i64 0, .int .i64 n] w fun e w' => ∃ bb, e = .returned (.bool bb) ∧ ∃ P' A' c', Own B w0 w' (c' :: some (lch b 119 [.slice ao m cap]) :: H) ∧ SRow (.slice ao m cap) 123 2 m (hpG P' A') c' ∧ HP n P' A' ∧ (∀ N S, Cont N m P0 A0 S → Cont N m P' A' S) ∧ ∀ k, n ≤ k → P' k = P0 k ∧ A' k = A0 k := by
 refine calls_of_run (F := [(0, _), (1, _), (2, _)]) Tryz.func115 rfl Tryz.ntmps115 rfl rfl <| run_seq <| run_region <| rl_v rfl rfl rfl (ov_assign rfl rfl) <| rl_nil <| run_seq <| run_region <| rl_v rfl rfl rfl (ov_move rfl rfl) <| rl_v rfl rfl rfl (ov_assign rfl rfl) <| rl_nil <| run_seq <| run_block <| Run.keep [0, 1, 2, 7] (F' := [(0, _), (1, _), (2, _), (7, _)]) rfl <| run_loop4 (fun (i : Int) (P : Int → Int) (A : Int → Int) (c : Option Blk) => [(7, .int .i64 i)]) [0, 1, 2] (fun (i : Int) (P : Int → Int) (A : Int → Int) (c : Option Blk) (w1 : World) => 0 ≤ i ∧ i ≤ n ∧ DN n P A i ∧ SRow (.slice ao m cap) 123 2 m (hpG P A) c ∧ (∀ N S, Cont N m P0 A0 S → Cont N m P A S) ∧ (∀ k, n ≤ k → P k = P0 k ∧ A k = A0 k) ∧ Own B w0 w1 (c :: some (lch b 119 [.slice ao m cap]) :: H)) (fun (i : Int) (P : Int → Int) (A : Int → Int) (c : Option Blk) => (n - i).toNat) (0) (P0) (A0) (c0) ?_ (And.intro (by exact slot_int rfl (by first | omega)) (And.intro rfl (And.intro rfl (And.intro rfl trivial)))) ?_
 ·exact ⟨by omega, by omega, hD, hr, fun _ _ h => h, fun k _ => ⟨rfl, rfl⟩, hO⟩
 intro i P A c w1 hIw1 ih2
 obtain ⟨hi0, hi1, hD, hr, hC, hlast, hO⟩ := hIw1
 show Run _ _ _ _ [(7, _), (0, _), (1, _), (2, _)] _ _
 refine run_block <| run_seq <| run_region <| rl_v rfl rfl rfl (ov_move rfl rfl) <| rl_v rfl rfl rfl (ov_mul rfl rfl rfl (by omega)) ?_
 refine rl_v rfl rfl rfl (ov_add rfl rfl rfl (by omega)) ?_
 refine rl_v rfl rfl rfl (ov_assign rfl rfl) <| rl_nil <| run_seq <| run_seq <| run_region <| rl_v rfl rfl rfl (ov_move rfl rfl) <| rl_v rfl rfl rfl (ov_move rfl rfl) <| rl_v rfl rfl rfl (ov_geq rfl rfl rfl) <| rl_v rfl rfl rfl (ov_move rfl rfl) ?_
 first | refine rl_split_dec 18 rfl (fun g1 => ?_) (fun g1 => ?_) | refine rl_split 18 rfl (fun g1 => ?_) (fun g1 => ?_)
 ·refine rl_gskip rfl rfl rfl rfl rfl rfl <| rl_gskip rfl rfl rfl rfl rfl rfl <| rl_v rfl rfl rfl (ov_pick_t rfl rfl rfl) <| rl_nil <| run_cond_t rfl <| run_exit rfl <| run_seq <| run_region <| rl_v rfl rfl rfl (ov_move rfl rfl) <| rl_v rfl rfl rfl (ov_move rfl rfl) <| rl_v rfl rfl rfl (ov_gtr rfl rfl rfl) <| rl_v rfl rfl rfl (ov_assign rfl rfl) <| rl_nil <| run_ret Tryz.func115 (res1 Tryz.results115 rfl) ?_
  exact ⟨_, rfl, P, A, c, hO, hr, hD.stop (fun k k0 k1 hk => by omega), hC, hlast⟩
 ·refine rl_gv rfl rfl rfl rfl rfl (ov_move rfl rfl) <| rl_gv rfl rfl rfl rfl rfl (ov_lss rfl rfl rfl) <| rl_v rfl rfl rfl (ov_pick_f rfl rfl rfl) <| rl_nil ?_
  first | refine run_cond_dec rfl (fun h2 => ?_) (fun h2 => ?_) | refine run_cond rfl (fun h2 => ?_) (fun h2 => ?_)
  ·exfalso; omega
  ·refine run_skip <| run_seq <| run_region <| rl_v rfl rfl rfl (ov_move rfl rfl) <| rl_v rfl rfl rfl (ov_assign rfl rfl) <| rl_nil <| run_seq <| run_seq <| run_region <| rl_v rfl rfl rfl (ov_move rfl rfl) <| rl_v rfl rfl rfl (ov_add rfl rfl rfl (by omega)) ?_
   refine rl_v rfl rfl rfl (ov_assign rfl rfl) <| rl_nil <| run_seq <| run_region <| rl_v rfl rfl rfl (ov_move rfl rfl) <| rl_v rfl rfl rfl (ov_move rfl rfl) <| rl_v rfl rfl rfl (ov_lss rfl rfl rfl) <| rl_v rfl rfl rfl (ov_move rfl rfl) ?_
   first | refine rl_split_dec 28 rfl (fun g2 => ?_) (fun g2 => ?_) | refine rl_split 28 rfl (fun g2 => ?_) (fun g2 => ?_)
   ·refine rl_gv rfl rfl rfl rfl rfl (ov_move rfl rfl) <| rl_gv rfl rfl rfl rfl rfl (ov_move rfl rfl) <| rl_gv rfl rfl rfl rfl rfl (ov_move rfl rfl) ?_
    refine rl_ginvoke callable_186 rfl rfl rfl rfl rfl rfl rfl (m_less _ b _ (hO.cellL 1 rfl rfl)) rfl (less_sh ao m cap P A (2 * i + 1 + 1) (2 * i + 1) _ (by omega) (by omega) (by omega) (by omega) (hr.reads hO 0 rfl)) (fun e5 w6 hp7 => ?_)
    obtain ⟨⟨bb1, rfl, hbb1⟩, hbl1⟩ := hp7
    refine ⟨_, rfl, ?_⟩
    have hO8 := hO.past hbl1
    refine rl_v rfl rfl rfl (ov_pick_t rfl rfl rfl) <| rl_nil ?_
    first | refine run_cond_dec rfl (fun h3 => ?_) (fun h3 => ?_) | refine run_cond rfl (fun h3 => ?_) (fun h3 => ?_)
    ·have hb1 : bf P A (2 * i + 1 + 1) (2 * i + 1) := hbb1.1 h3
     have ho : ∀ k : Int, 1 ≤ k → k < n → (k - 1) / 2 = i → ¬ bf P A k (2 * i + 1 + 1) := fun k k0 k1 hk => by
      by_cases e : k = 2 * i + 1
      ·rw [e]; exact bf_asym hb1
      ·rw [show k = 2 * i + 1 + 1 by omega]; exact bf_irrefl P A _
     refine run_region <| rl_v rfl rfl rfl (ov_move rfl rfl) <| rl_v rfl rfl rfl (ov_assign rfl rfl) <| rl_nil <| run_seq <| run_seq <| run_region <| rl_v rfl rfl rfl (ov_move rfl rfl) <| rl_v rfl rfl rfl (ov_move rfl rfl) <| rl_v rfl rfl rfl (ov_move rfl rfl) ?_
     refine rl_invoke callable_186 rfl rfl rfl rfl rfl (m_less _ b _ (hO8.cellL 1 rfl rfl)) rfl (less_sh ao m cap P A (2 * i + 1 + 1) i _ (by omega) (by omega) (by omega) (by omega) (hr.reads hO8 0 rfl)) (fun e9 w10 hp11 => ?_)
     obtain ⟨⟨bb2, rfl, hbb2⟩, hbl2⟩ := hp11
     refine ⟨_, rfl, ?_⟩
     have hO12 := hO8.past hbl2
     refine rl_v rfl rfl rfl (ov_not rfl rfl) <| rl_nil ?_
     first | refine run_cond_dec rfl (fun h9 => ?_) (fun h9 => ?_) | refine run_cond rfl (fun h9 => ?_) (fun h9 => ?_)
     ·have hnb : ¬ bf P A (2 * i + 1 + 1) i := fun hb => by rw [hbb2.2 hb] at h9; cases h9
      refine run_exit rfl <| run_seq <| run_region <| rl_v rfl rfl rfl (ov_move rfl rfl) <| rl_v rfl rfl rfl (ov_move rfl rfl) <| rl_v rfl rfl rfl (ov_gtr rfl rfl rfl) <| rl_v rfl rfl rfl (ov_assign rfl rfl) <| rl_nil <| run_ret Tryz.func115 (res1 Tryz.results115 rfl) ?_
      exact ⟨_, rfl, P, A, c, hO12, hr, hD.stop (fun k k0 k1 hk => bf_trans (ho k k0 k1 hk) hnb), hC, hlast⟩
     ·have hb : bf P A (2 * i + 1 + 1) i := hbb2.1 (by cases bb2; exact absurd h9 (by decide); rfl)
      refine run_skip <| run_seq <| run_region <| rl_v rfl rfl rfl (ov_move rfl rfl) <| rl_v rfl rfl rfl (ov_move rfl rfl) <| rl_v rfl rfl rfl (ov_move rfl rfl) ?_
      refine rl_invoke callable_189 rfl rfl rfl rfl rfl (m_swap _ b _ (hO12.cellL 1 rfl rfl)) rfl (swap_sh ao m cap B P A i (2 * i + 1 + 1) c w0 _ _ (by omega) (by omega) (by omega) (by omega) hO12 hr) (fun e13 w14 hp15 => ?_)
      obtain ⟨rfl, c2, hOs, hrs⟩ := hp15
      refine ⟨_, rfl, ?_⟩
      refine rl_nil <| run_region <| rl_v rfl rfl rfl (ov_move rfl rfl) <| rl_v rfl rfl rfl (ov_assign rfl rfl) <| rl_nil <| run_inBlock ?_
      refine Run.use (ih2 ((2 * i + 1 + 1)) (sw P i (2 * i + 1 + 1)) (sw A i (2 * i + 1 + 1)) (c2) _ ?_ ?_) (And.intro (by exact slot_int rfl (by first | omega)) (And.intro rfl (And.intro rfl (And.intro rfl trivial))))
      ·first | omega | (dsimp only; omega)
      ·exact ⟨by omega, by omega, hD.step hi0 (by omega) (by omega) hb ho, hrs, fun N S h => (hC N S h).sw (by omega) (by omega) (by omega) (by omega), fun k hk => by unfold sw; rw [tr_o (by omega) (by omega)]; exact hlast k hk, hOs⟩
    ·have hb1 : ¬ bf P A (2 * i + 1 + 1) (2 * i + 1) := fun hb => by rw [hbb1.2 hb] at h3; cases h3
     have ho : ∀ k : Int, 1 ≤ k → k < n → (k - 1) / 2 = i → ¬ bf P A k (2 * i + 1) := fun k k0 k1 hk => by
      by_cases e : k = 2 * i + 1
      ·rw [e]; exact bf_irrefl P A _
      ·rw [show k = 2 * i + 1 + 1 by omega]; exact hb1
     refine run_skip <| run_seq <| run_seq <| run_region <| rl_v rfl rfl rfl (ov_move rfl rfl) <| rl_v rfl rfl rfl (ov_move rfl rfl) <| rl_v rfl rfl rfl (ov_move rfl rfl) ?_
     refine rl_invoke callable_186 rfl rfl rfl rfl rfl (m_less _ b _ (hO8.cellL 1 rfl rfl)) rfl (less_sh ao m cap P A (2 * i + 1) i _ (by omega) (by omega) (by omega) (by omega) (hr.reads hO8 0 rfl)) (fun e16 w17 hp18 => ?_)
     obtain ⟨⟨bb3, rfl, hbb3⟩, hbl3⟩ := hp18
     refine ⟨_, rfl, ?_⟩
     have hO19 := hO8.past hbl3
     refine rl_v rfl rfl rfl (ov_not rfl rfl) <| rl_nil ?_
     first | refine run_cond_dec rfl (fun h9 => ?_) (fun h9 => ?_) | refine run_cond rfl (fun h9 => ?_) (fun h9 => ?_)
     ·have hnb : ¬ bf P A (2 * i + 1) i := fun hb => by rw [hbb3.2 hb] at h9; cases h9
      refine run_exit rfl <| run_seq <| run_region <| rl_v rfl rfl rfl (ov_move rfl rfl) <| rl_v rfl rfl rfl (ov_move rfl rfl) <| rl_v rfl rfl rfl (ov_gtr rfl rfl rfl) <| rl_v rfl rfl rfl (ov_assign rfl rfl) <| rl_nil <| run_ret Tryz.func115 (res1 Tryz.results115 rfl) ?_
      exact ⟨_, rfl, P, A, c, hO19, hr, hD.stop (fun k k0 k1 hk => bf_trans (ho k k0 k1 hk) hnb), hC, hlast⟩
     ·have hb : bf P A (2 * i + 1) i := hbb3.1 (by cases bb3; exact absurd h9 (by decide); rfl)
      refine run_skip <| run_seq <| run_region <| rl_v rfl rfl rfl (ov_move rfl rfl) <| rl_v rfl rfl rfl (ov_move rfl rfl) <| rl_v rfl rfl rfl (ov_move rfl rfl) ?_
      refine rl_invoke callable_189 rfl rfl rfl rfl rfl (m_swap _ b _ (hO19.cellL 1 rfl rfl)) rfl (swap_sh ao m cap B P A i (2 * i + 1) c w0 _ _ (by omega) (by omega) (by omega) (by omega) hO19 hr) (fun e20 w21 hp22 => ?_)
      obtain ⟨rfl, c2, hOs, hrs⟩ := hp22
      refine ⟨_, rfl, ?_⟩
      refine rl_nil <| run_region <| rl_v rfl rfl rfl (ov_move rfl rfl) <| rl_v rfl rfl rfl (ov_assign rfl rfl) <| rl_nil <| run_inBlock ?_
      refine Run.use (ih2 ((2 * i + 1)) (sw P i (2 * i + 1)) (sw A i (2 * i + 1)) (c2) _ ?_ ?_) (And.intro (by exact slot_int rfl (by first | omega)) (And.intro rfl (And.intro rfl (And.intro rfl trivial))))
      ·first | omega | (dsimp only; omega)
      ·exact ⟨by omega, by omega, hD.step hi0 (by omega) (by omega) hb ho, hrs, fun N S h => (hC N S h).sw (by omega) (by omega) (by omega) (by omega), fun k hk => by unfold sw; rw [tr_o (by omega) (by omega)]; exact hlast k hk, hOs⟩
   ·refine rl_gskip rfl rfl rfl rfl rfl rfl <| rl_gskip rfl rfl rfl rfl rfl rfl <| rl_gskip rfl rfl rfl rfl rfl rfl <| rl_gskip rfl rfl rfl rfl rfl rfl <| rl_v rfl rfl rfl (ov_pick_f rfl rfl rfl) <| rl_nil <| run_cond_f rfl ?_
    have ho : ∀ k : Int, 1 ≤ k → k < n → (k - 1) / 2 = i → ¬ bf P A k (2 * i + 1) := fun k k0 k1 hk => by
     rw [show k = 2 * i + 1 by omega]; exact bf_irrefl P A _
    refine run_skip <| run_seq <| run_seq <| run_region <| rl_v rfl rfl rfl (ov_move rfl rfl) <| rl_v rfl rfl rfl (ov_move rfl rfl) <| rl_v rfl rfl rfl (ov_move rfl rfl) ?_
    refine rl_invoke callable_186 rfl rfl rfl rfl rfl (m_less _ b _ (hO.cellL 1 rfl rfl)) rfl (less_sh ao m cap P A (2 * i + 1) i _ (by omega) (by omega) (by omega) (by omega) (hr.reads hO 0 rfl)) (fun e23 w24 hp25 => ?_)
    obtain ⟨⟨bb4, rfl, hbb4⟩, hbl4⟩ := hp25
    refine ⟨_, rfl, ?_⟩
    have hO26 := hO.past hbl4
    refine rl_v rfl rfl rfl (ov_not rfl rfl) <| rl_nil ?_
    first | refine run_cond_dec rfl (fun h9 => ?_) (fun h9 => ?_) | refine run_cond rfl (fun h9 => ?_) (fun h9 => ?_)
    ·have hnb : ¬ bf P A (2 * i + 1) i := fun hb => by rw [hbb4.2 hb] at h9; cases h9
     refine run_exit rfl <| run_seq <| run_region <| rl_v rfl rfl rfl (ov_move rfl rfl) <| rl_v rfl rfl rfl (ov_move rfl rfl) <| rl_v rfl rfl rfl (ov_gtr rfl rfl rfl) <| rl_v rfl rfl rfl (ov_assign rfl rfl) <| rl_nil <| run_ret Tryz.func115 (res1 Tryz.results115 rfl) ?_
     exact ⟨_, rfl, P, A, c, hO26, hr, hD.stop (fun k k0 k1 hk => bf_trans (ho k k0 k1 hk) hnb), hC, hlast⟩
    ·have hb : bf P A (2 * i + 1) i := hbb4.1 (by cases bb4; exact absurd h9 (by decide); rfl)
     refine run_skip <| run_seq <| run_region <| rl_v rfl rfl rfl (ov_move rfl rfl) <| rl_v rfl rfl rfl (ov_move rfl rfl) <| rl_v rfl rfl rfl (ov_move rfl rfl) ?_
     refine rl_invoke callable_189 rfl rfl rfl rfl rfl (m_swap _ b _ (hO26.cellL 1 rfl rfl)) rfl (swap_sh ao m cap B P A i (2 * i + 1) c w0 _ _ (by omega) (by omega) (by omega) (by omega) hO26 hr) (fun e27 w28 hp29 => ?_)
     obtain ⟨rfl, c2, hOs, hrs⟩ := hp29
     refine ⟨_, rfl, ?_⟩
     refine rl_nil <| run_region <| rl_v rfl rfl rfl (ov_move rfl rfl) <| rl_v rfl rfl rfl (ov_assign rfl rfl) <| rl_nil <| run_inBlock ?_
     refine Run.use (ih2 ((2 * i + 1)) (sw P i (2 * i + 1)) (sw A i (2 * i + 1)) (c2) _ ?_ ?_) (And.intro (by exact slot_int rfl (by first | omega)) (And.intro rfl (And.intro rfl (And.intro rfl trivial))))
     ·first | omega | (dsimp only; omega)
     ·exact ⟨by omega, by omega, hD.step hi0 (by omega) (by omega) hb ho, hrs, fun N S h => (hC N S h).sw (by omega) (by omega) (by omega) (by omega), fun k hk => by unfold sw; rw [tr_o (by omega) (by omega)]; exact hlast k hk, hOs⟩
theorem heapPush_any (b B n : Nat) (sv : Value) (P A : Int → Int) (p a : Int) (c : Option Blk) (w0 w : World) (H : List (Option Blk)) (hn : n ≤ 50) (hH : HP n P A) (hO : Own B w0 w (c :: some (lch b 119 [sv]) :: H)) (hr : SRow sv 123 2 n (hpG P A) c) :
  Calls Tryz.prog 65 #[(.iface 115 (.pointer (some ⟨b, 0, none⟩))), .iface 123 (.agg #[.int .i64 p, .int .i64 a])] w fun e w' => e = .returned (.tuple #[]) ∧ ∃ sv' P' A' c', Own B w0 w' (c' :: some (lch b 119 [sv']) :: H) ∧ SRow sv' 123 2 (n + 1) (hpG P' A') c' ∧ HP (n + 1) P' A' ∧
   ∀ (N : Int) (S : Int → Int), 0 ≤ p → p < N → S p = 0 → 0 < a → Cont N n P A S → Cont N (n + 1) P' A' (upd S p a) := by
 refine calls_of_run (F := [(0, _), (1, _)]) Tryz.func65 rfl Tryz.ntmps65 rfl rfl <| run_seq <| run_region <| rl_v rfl rfl rfl (ov_move rfl rfl) <| rl_v rfl rfl rfl (ov_move rfl rfl) ?_
 refine rl_invoke callable_188 rfl rfl rfl rfl rfl (m_push _ _) rfl (push_pile b B n sv P A p a c w0 _ H (by omega) hO hr) (fun e1 w2 hp3 => ?_)
 obtain ⟨rfl, sv1, c1, hO1, hr1⟩ := hp3
 refine ⟨_, rfl, ?_⟩
 obtain ⟨ao, cap, rfl⟩ := Row.val hr1
 refine rl_nil <| run_region <| rl_v rfl rfl rfl (ov_move rfl rfl) <| rl_v rfl rfl rfl (ov_move rfl rfl) ?_
 refine rl_invoke callable_66 rfl rfl rfl rfl rfl (m_len _ b _ (hO1.cellL 1 rfl rfl)) rfl (len_sh ao (n + 1) cap _) (fun e4 w5 hp6 => ?_)
 obtain ⟨rfl, hb2⟩ := hp6
 refine ⟨_, rfl, ?_⟩
 have hO7 := hO1.past hb2
 have hU : UP ((n + 1 : Nat) : Int) (upd P n p) (upd A n a) (((n + 1 : Nat) : Int) - 1) := by
  refine ⟨fun k k0 k1 hk => ?_, fun q c c0 c1 hc => by omega⟩
  unfold bf
  rw [upd_ne _ _ (by omega), upd_ne _ _ (by omega), upd_ne _ _ (by omega), upd_ne _ _ (by omega)]
  exact hH k k0 (by omega)
 refine rl_v rfl rfl rfl (ov_sub rfl rfl rfl (by omega)) ?_
 refine rl_call callable_106 rfl rfl rfl rfl rfl rfl (up_any b B (n + 1) cap ao (upd P n p) (upd A n a) (((n + 1 : Nat) : Int) - 1) c1 w0 _ H (by omega) (by omega) (by omega) hU hO7 hr1) (fun e8 w9 hp10 => ?_)
 obtain ⟨rfl, P', A', c', hO2, hr2, hHP, hC⟩ := hp10
 refine ⟨_, rfl, ?_⟩
 refine rl_nil <| run_end Tryz.func65 (res0 Tryz.results65) ?_
 exact ⟨rfl, _, P', A', c', hO2, hr2, hHP, fun N S p0 p1 hs ha h => hC N _ (h.push p0 p1 hs ha (by omega))⟩
theorem heapPop_any (b B n cap : Nat) (ao : Option Addr) (P A : Int → Int) (c : Option Blk) (w0 w : World) (H : List (Option Blk)) (hn1 : 1 ≤ n) (hn : n ≤ 50) (hH : HP n P A) (hO : Own B w0 w (c :: some (lch b 119 [.slice ao n cap]) :: H)) (hr : SRow (.slice ao n cap) 123 2 n (hpG P A) c) :
  Calls Tryz.prog 81 #[(.iface 115 (.pointer (some ⟨b, 0, none⟩)))] w fun e w' => e = .returned (.iface 123 (.agg #[.int .i64 (P 0), .int .i64 (A 0)])) ∧ ∃ sv' P' A' c', Own B w0 w' (c' :: some (lch b 119 [sv']) :: H) ∧ SRow sv' 123 2 (n - 1) (hpG P' A') c' ∧ HP ((n - 1 : Nat) : Int) P' A' ∧
   ∀ (N : Int) (S : Int → Int), Cont N n P A S → Cont N ((n - 1 : Nat) : Int) P' A' (upd S (P 0) 0) := by
 refine calls_of_run (F := [(0, _)]) Tryz.func81 rfl Tryz.ntmps81 rfl rfl <| run_seq <| run_region <| rl_v rfl rfl rfl (ov_assign rfl rfl) <| rl_nil <| run_seq <| run_region <| rl_v rfl rfl rfl (ov_move rfl rfl) ?_
 refine rl_invoke callable_66 rfl rfl rfl rfl rfl (m_len _ b _ (hO.cellL 1 rfl rfl)) rfl (len_sh ao n cap _) (fun e1 w2 hp3 => ?_)
 obtain ⟨rfl, hb2⟩ := hp3
 refine ⟨_, rfl, ?_⟩
 have hO4 := hO.past hb2
 refine rl_v rfl rfl rfl (ov_sub rfl rfl rfl (by omega)) ?_
 refine rl_v rfl rfl rfl (ov_assign rfl rfl) <| rl_nil <| run_seq <| run_region <| rl_v rfl rfl rfl (ov_move rfl rfl) <| rl_v rfl rfl rfl (ov_move rfl rfl) ?_
 refine rl_invoke callable_189 rfl rfl rfl rfl rfl (m_swap _ b _ (hO4.cellL 1 rfl rfl)) rfl (swap_sh ao n cap B P A 0 ((n : Int) - 1) c w0 _ _ (by omega) (by omega) (by omega) (by omega) hO4 hr) (fun e5 w6 hp7 => ?_)
 obtain ⟨rfl, c2, hOs, hrs⟩ := hp7
 refine ⟨_, rfl, ?_⟩
 have hD : DN ((n : Int) - 1) (sw P 0 ((n : Int) - 1)) (sw A 0 ((n : Int) - 1)) 0 := by
  refine ⟨fun k k0 k1 hk => ?_, fun q => by omega⟩
  rw [bf_sw, tr_o (k := k) (by omega) (by omega), tr_o hk (by omega)]
  exact hH k k0 (by omega)
 refine rl_nil <| run_seq <| run_region <| rl_v rfl rfl rfl (ov_move rfl rfl) <| rl_v rfl rfl rfl (ov_move rfl rfl) ?_
 refine rl_call callable_115 rfl rfl rfl rfl rfl rfl (down_any b B n cap ao (sw P 0 ((n : Int) - 1)) (sw A 0 ((n : Int) - 1)) ((n : Int) - 1) c2 w0 _ H (by omega) (by omega) (by omega) hD hOs hrs) (fun e8 w9 hp10 => ?_)
 obtain ⟨bb, rfl, P', A', c', hO2, hr2, hHP, hC, hlast⟩ := hp10
 refine ⟨_, rfl, ?_⟩
 refine rl_nil <| run_seq <| run_region <| rl_v rfl rfl rfl (ov_move rfl rfl) ?_
 refine rl_invoke callable_187 rfl rfl rfl rfl rfl (m_pop _ _) rfl (pop_pile b B n cap ao P' A' c' w0 _ H hn1 (by omega) hO2 hr2) (fun e11 w12 hp13 => ?_)
 obtain ⟨rfl, hO3⟩ := hp13
 refine ⟨_, rfl, ?_⟩
 have hl := hlast ((n : Int) - 1) (by omega)
 have e1 : P' ((n : Int) - 1) = P 0 := by rw [hl.1]; unfold sw; rw [tr_l]
 have e2 : A' ((n : Int) - 1) = A 0 := by rw [hl.2]; unfold sw; rw [tr_l]
 have hr3 : SRow (.slice ao (n - 1) cap) 123 2 (n - 1) (hpG P' A') c' := by
  have h' := hr2
  rcases h' with ⟨q1, _, _⟩ | ⟨hb, cap', g, q1, q2, q3, q4, q5⟩
  ·cases q1; omega
  ·cases q1
   exact .inr ⟨hb, cap, g, rfl, by omega, q3, q4, fun i hi => q5 i (by omega)⟩
 refine rl_v rfl rfl rfl (ov_assign rfl rfl) <| rl_nil <| run_ret Tryz.func81 (res1 Tryz.results81 rfl) ?_
 exact ⟨by rw [e1, e2], _, P', A', c', hO3, hr3, by rw [show ((n - 1 : Nat) : Int) = (n : Int) - 1 by omega]; exact hHP, fun N S h => by have := (hC N S (h.sw (by omega) (by omega) (by omega) (by omega))).pop (by omega); rw [e1] at this; rw [show ((n - 1 : Nat) : Int) = (n : Int) - 1 by omega]; exact this⟩
end Go.Proofs.YtlldeifbfpmbaaaGreat
