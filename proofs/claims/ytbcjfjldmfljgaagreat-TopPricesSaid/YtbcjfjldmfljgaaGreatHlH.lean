import Derived.Test.YtbcjfjldmfljgaaGreatHlG
set_option maxRecDepth 100000
namespace Go.Proofs.YtbcjfjldmfljgaaGreat
open Go.RowKit Go.Proofs Go.MapKept Hal
set_option maxHeartbeats 4000000 in
theorem riseH_any (wa pa : Option Addr) (wc pc : Nat) (h : Hal) (p : Int → Int) (ba : Option Addr) (bn bc : Nat) (Bs : Int → Int) (la : Option Addr) (ln lc : Nat) (Ls : Int → Int) (w : World) (hM : HalM w.heap.size w wa pa h p) (hC : CrF h p bn Bs ln Ls) (hB : IAt w.heap.size w ba bn (fun q => iv (Bs q))) (hL : IAt w.heap.size w la ln (fun q => iv (Ls q))) :
  Calls Tryz.prog 50 #[.slice wa h.nb wc, .slice pa h.nl pc, .slice ba bn bc, .slice la ln lc] w fun e w' => ∃ s : Int, e = .returned (iv s) ∧ h.Stp p (InR Bs bn) (InR Ls ln) s ∧ s ≤ 1152921504606846976 ∧ Own w.heap.size w w' [] := by
 have hnb := hM.nb
 have hnl := hM.nl
 obtain ⟨A, C, RB, RO, gb, go, hga, hrow, hra, hel, hat⟩ := hM.t.open
 obtain ⟨pb, po, hpa, hpr⟩ := hM.q.open
 obtain ⟨bb, bo, hba, hbr⟩ := hB.open
 have hbl : bn ≤ h.nb := pigeonG (n := bn) (m := h.nb) (e := Bs) (fun q q0 q1 => (hC.c.br (Bs q) ⟨q, ⟨q0, q1⟩, rfl⟩).1) (fun a b a0 a1 b0 b1 e => rise_inj hC.b a0 a1 b0 b1 e)
 have hll : ln ≤ h.nl := pigeonG (n := ln) (m := h.nl) (e := Ls) (fun q q0 q1 => hC.c.lr (Ls q) ⟨q, ⟨q0, q1⟩, rfl⟩) (fun a b a0 a1 b0 b1 e => rise_inj hC.l a0 a1 b0 b1 e)
 refine calls_of_run (F := [(0, _), (1, _), (2, _), (3, _)]) Tryz.func50 rfl Tryz.ntmps50 rfl rfl ?_
 have hO0 := Own.init w
 refine run_seq <| run_region <| rl_v rfl rfl rfl (ov_assign rfl rfl) <| rl_nil <| run_seq <| run_region <| rl_v rfl rfl rfl (ov_assign rfl rfl) <| rl_nil <| run_seq <| run_seq <| run_region <| rl_v rfl rfl rfl (ov_move rfl rfl) <| rl_v rfl rfl rfl (ov_len rfl Tryz.underlying30 rfl) <| rl_v rfl rfl rfl (ov_move rfl rfl) <| rl_nil <| run_block <| Run.keep [0, 1, 3, 9, 15, 16, 17] (F' := [(0, _), (1, _), (3, _), (9, _), (15, _), (16, _), (17, _)]) rfl <| run_loop2 (fun (q : Nat) (s : Int) => [(17, .int .i64 (q : Int)), (9, .int .i64 s)]) [0, 1, 3, 15, 16] (fun (q : Nat) (s : Int) (w1 : World) => q ≤ bn ∧ 1 ≤ s ∧ s ≤ 1152921504606846976 ∧ (∀ x : Int, 0 ≤ x → x < q → s ≤ h.gn p (Bs x) ∧ ∀ j : Int, 0 ≤ j → j < h.nl → ¬ InR Ls ln j → s ≤ h.gn p (Bs x) - (h.V (Bs x) j - p j)) ∧ Own w.heap.size w w1 []) (fun (q : Nat) (s : Int) => bn - q) (0) (1152921504606846976) ?_ (And.intro (by exact slot_int rfl (by first | omega)) (And.intro (by exact slot_int rfl (by first | omega)) (And.intro rfl (And.intro rfl (And.intro rfl (And.intro rfl (And.intro rfl trivial))))))) ?_
 ·exact ⟨Nat.zero_le _, by decide, Int.le_refl _, fun x a b => by omega, hO0⟩
 intro q s w1 hIw1 ih2
 obtain ⟨hq, hs1, hs2, hs3, hO1⟩ := hIw1
 show Run _ _ _ _ [(17, _), (9, _), (0, _), (1, _), (3, _), (15, _), (16, _)] _ _
 refine run_seq <| run_region <| rl_v rfl rfl rfl (ov_lss rfl rfl rfl) <| rl_nil <| run_seq ?_
 first | refine run_cond_dec rfl (fun c1 => ?_) (fun c1 => ?_) | refine run_cond rfl (fun c1 => ?_) (fun c1 => ?_)
 ·have hbi := hC.c.br (Bs q) ⟨q, ⟨by omega, c1⟩, rfl⟩
  obtain ⟨rb1, ro1, hra1, hrr1⟩ := (hat (Bs q) hbi.1.1 hbi.1.2).open
  refine run_skip <| run_seq <| run_block <| run_seq <| run_region <| rl_v rfl rfl rfl (ov_index1 rfl Tryz.underlying30 (by kernel_rfl) rfl rfl ⟨by omega, by omega⟩ (by exact hba (by omega))) ?_
  refine rl_v rfl rfl rfl (ov_load rfl Tryz.underlying3 rfl rfl (by exact hbr _ hO1.below q (by omega) c1)) ?_
  refine rl_v rfl rfl rfl (ov_assign rfl rfl) <| rl_nil <| run_seq <| run_region <| rl_v rfl rfl rfl (ov_move rfl rfl) <| rl_v rfl rfl rfl (ov_move rfl rfl) <| rl_v rfl rfl rfl (ov_index1 rfl Tryz.underlying25 (by kernel_rfl) rfl rfl ⟨by omega, by omega⟩ (by exact hga (by omega))) ?_
  refine rl_v rfl rfl rfl (ov_load rfl Tryz.underlying22 rfl rfl (by exact hrow _ hO1.below (Bs q) hbi.1.1 hbi.1.2)) ?_
  refine rl_v rfl rfl rfl (ov_move rfl rfl) ?_
  refine rl_call callable_25 rfl rfl rfl rfl rfl rfl (gainH_any (A (Bs q)) pa h.nl (C (Bs q)) pc (h.V (Bs q)) p _ hnl (fun j j0 j1 => hM.v _ j hbi.1.1 hbi.1.2 j0 j1) hM.pr (hO1.iatU (hat _ hbi.1.1 hbi.1.2)) (hO1.iatU hM.q)) (fun e3 w4 hp5 => ?_)
  obtain ⟨rfl, hOa⟩ := hp5
  refine ⟨_, rfl, ?_⟩
  have hO6 := hO1.join hOa
  have hge : gnN (fun j => h.V (Bs q) j - p j) h.nl = h.gn p (Bs q) := rfl
  rw [hge]
  have hgM : h.gn p (Bs q) ≤ 1000000000 := gnN_bd (by decide) _ fun j j0 j1 => by
   have q1 := hM.v _ j hbi.1.1 hbi.1.2 j0 j1
   have q2 := hM.pr j j0 j1
   unfold W9 at q1 q2
   omega
  refine rl_v rfl rfl rfl (ov_assign rfl rfl) <| rl_nil <| run_seq <| run_region <| rl_v rfl rfl rfl (ov_move rfl rfl) <| rl_v rfl rfl rfl (ov_move rfl rfl) <| rl_v rfl rfl rfl (ov_min rfl rfl rfl) <| rl_v rfl rfl rfl (ov_assign rfl rfl) <| rl_nil <| run_seq <| run_region <| rl_v rfl rfl rfl (ov_move rfl rfl) <| rl_v rfl rfl rfl (ov_move rfl rfl) <| rl_v rfl rfl rfl (ov_index1 rfl Tryz.underlying25 (by kernel_rfl) rfl rfl ⟨by omega, by omega⟩ (by exact hga (by omega))) ?_
  refine rl_v rfl rfl rfl (ov_load rfl Tryz.underlying22 rfl rfl (by exact hrow _ hO6.below (Bs q) hbi.1.1 hbi.1.2)) ?_
  refine rl_v rfl rfl rfl (ov_len rfl Tryz.underlying22 rfl) <| rl_v rfl rfl rfl (ov_move rfl rfl) <| rl_nil <| run_block <| Run.keep [0, 1, 3, 9, 12, 15, 16, 17, 33, 34, 35] (F' := [(0, _), (1, _), (3, _), (9, _), (12, _), (15, _), (16, _), (17, _), (33, _), (34, _), (35, _)]) rfl <| run_loop2 (fun (j : Nat) (s2 : Int) => [(35, .int .i64 (j : Int)), (9, .int .i64 s2)]) [0, 1, 3, 12, 15, 16, 17, 33, 34] (fun (j : Nat) (s2 : Int) (w7 : World) => j ≤ h.nl ∧ 1 ≤ s2 ∧ s2 ≤ min s (h.gn p (Bs q)) ∧ (∀ k : Int, 0 ≤ k → k < j → ¬ InR Ls ln k → s2 ≤ h.gn p (Bs q) - (h.V (Bs q) k - p k)) ∧ Own w.heap.size w w7 []) (fun (j : Nat) (s2 : Int) => h.nl - j) (0) (min s (h.gn p (Bs q))) ?_ (And.intro (by exact slot_int rfl (by first | omega)) (And.intro (by exact slot_int rfl (by first | omega)) (And.intro rfl (And.intro rfl (And.intro rfl (And.intro rfl (And.intro rfl (And.intro rfl (And.intro rfl (And.intro rfl (And.intro rfl trivial))))))))))) ?_
  ·exact ⟨Nat.zero_le _, by omega, Int.le_refl _, fun x a b => by omega, hO6⟩
  intro j s2 w7 hIw7 ih8
  obtain ⟨hj, hs4, hs5, hs6, hO2⟩ := hIw7
  show Run _ _ _ _ [(35, _), (9, _), (0, _), (1, _), (3, _), (12, _), (15, _), (16, _), (17, _), (33, _), (34, _)] _ _
  refine run_seq <| run_region <| rl_v rfl rfl rfl (ov_lss rfl rfl rfl) <| rl_nil <| run_seq ?_
  first | refine run_cond_dec rfl (fun c2 => ?_) (fun c2 => ?_) | refine run_cond rfl (fun c2 => ?_) (fun c2 => ?_)
  ·have q1 := hM.v _ j hbi.1.1 hbi.1.2 (by omega) c2
   have q2 := hM.pr j (by omega) c2
   unfold W9 at q1 q2
   refine run_skip <| run_seq <| run_block <| run_seq <| run_region <| rl_v rfl rfl rfl (ov_move rfl rfl) <| rl_v rfl rfl rfl (ov_index1 rfl Tryz.underlying22 (by kernel_rfl) rfl rfl ⟨by omega, by omega⟩ (by exact hra1 (by omega))) ?_
   refine rl_v rfl rfl rfl (ov_load rfl Tryz.underlying2 rfl rfl (by exact hrr1 _ hO2.below j (by omega) c2)) ?_
   refine rl_v rfl rfl rfl (ov_assign rfl rfl) <| rl_v rfl rfl rfl (ov_assign rfl rfl) <| rl_nil <| run_seq <| run_region <| rl_v rfl rfl rfl (ov_move rfl rfl) <| rl_v rfl rfl rfl (ov_move rfl rfl) ?_
   refine rl_call callable_26 rfl rfl rfl rfl rfl rfl (contains5_any la ln lc Ls j _ (by omega) (hO2.iatU hL)) (fun e9 w10 hp11 => ?_)
   obtain ⟨rfl, hbl2⟩ := hp11
   refine ⟨_, rfl, ?_⟩
   have hO12 := hO2.past hbl2
   refine rl_v rfl rfl rfl (ov_not rfl rfl) <| rl_nil ?_
   first | refine run_cond_dec rfl (fun c3 => ?_) (fun c3 => ?_) | refine run_cond rfl (fun c3 => ?_) (fun c3 => ?_)
   ·have hnl2 : ¬ InR Ls ln j := fun q => by have := inR_rk.2 q; simp [this] at c3
    have hgj := h.gn_ge p (Bs q) (j := j) (by omega) c2
    have hnw : ¬ h.wn p (Bs q) j := fun q3 => hnl2 (hC.c.wl _ j ⟨q, ⟨by omega, c1⟩, rfl⟩ (by omega) c2 q3)
    unfold Hal.wn at hnw
    refine run_region <| rl_v rfl rfl rfl (ov_move rfl rfl) <| rl_v rfl rfl rfl (ov_move rfl rfl) <| rl_v rfl rfl rfl (ov_move rfl rfl) <| rl_v rfl rfl rfl (ov_move rfl rfl) <| rl_v rfl rfl rfl (ov_move rfl rfl) <| rl_v rfl rfl rfl (ov_index1 rfl Tryz.underlying22 (by kernel_rfl) rfl rfl ⟨by omega, by omega⟩ (by exact hpa (by omega))) ?_
    refine rl_v rfl rfl rfl (ov_load rfl Tryz.underlying2 rfl rfl (by exact hpr _ hO12.below j (by omega) c2)) ?_
    refine rl_v rfl rfl rfl (ov_sub rfl rfl rfl (by omega)) ?_
    refine rl_v rfl rfl rfl (ov_sub rfl rfl rfl (by omega)) ?_
    refine rl_v rfl rfl rfl (ov_min rfl rfl rfl) <| rl_v rfl rfl rfl (ov_assign rfl rfl) <| rl_nil <| run_inBlock <| run_region <| rl_v rfl rfl rfl (ov_add rfl rfl rfl (by omega)) ?_
    refine rl_v rfl rfl rfl (ov_move rfl rfl) <| rl_nil ?_
    refine Run.use (ih8 (j + 1) (min s2 (h.gn p (Bs q) - (h.V (Bs q) j - p j))) _ ?_ ?_) (And.intro (by exact slot_int rfl (by first | omega)) (And.intro (by exact slot_int rfl (by first | omega)) (And.intro rfl (And.intro rfl (And.intro rfl (And.intro rfl (And.intro rfl (And.intro rfl (And.intro rfl (And.intro rfl (And.intro rfl trivial)))))))))))
    ·first | omega | (dsimp only; omega)
    ·exact ⟨by omega, by omega, by omega, fun k k0 k1 hk => by by_cases e : k = j; (rw [e]; omega); (have := hs6 k k0 (by omega) hk; omega), hO12⟩
   ·have hin : InR Ls ln j := inR_rk.1 (by simpa using c3)
    refine run_skip <| run_inBlock <| run_region <| rl_v rfl rfl rfl (ov_add rfl rfl rfl (by omega)) ?_
    refine rl_v rfl rfl rfl (ov_move rfl rfl) <| rl_nil ?_
    refine Run.use (ih8 (j + 1) (s2) _ ?_ ?_) (And.intro (by exact slot_int rfl (by first | omega)) (And.intro (by exact slot_int rfl (by first | omega)) (And.intro rfl (And.intro rfl (And.intro rfl (And.intro rfl (And.intro rfl (And.intro rfl (And.intro rfl (And.intro rfl (And.intro rfl trivial)))))))))))
    ·first | omega | (dsimp only; omega)
    ·exact ⟨by omega, hs4, hs5, fun k k0 k1 hk => by by_cases e : k = j; (rw [e] at hk; exact absurd hin hk); (exact hs6 k k0 (by omega) hk), hO12⟩
  ·have hjn : j = h.nl := by omega
   rw [hjn] at hs6
   have hs7 : ∀ x : Int, 0 ≤ x → x < ((q + 1 : Nat) : Int) → s2 ≤ h.gn p (Bs x) ∧ ∀ j : Int, 0 ≤ j → j < h.nl → ¬ InR Ls ln j → s2 ≤ h.gn p (Bs x) - (h.V (Bs x) j - p j) := fun x x0 x1 => by
    by_cases e : x = q
    ·rw [e]; exact ⟨by omega, hs6⟩
    ·have := hs3 x x0 (by omega)
     exact ⟨by omega, fun j j0 j1 hj => by have := this.2 j j0 j1 hj; omega⟩
   refine run_exit rfl <| run_inBlock <| run_region <| rl_v rfl rfl rfl (ov_add rfl rfl rfl (by omega)) ?_
   refine rl_v rfl rfl rfl (ov_move rfl rfl) <| rl_nil ?_
   refine Run.use (ih2 (q + 1) (s2) _ ?_ ?_) (And.intro (by exact slot_int rfl (by first | omega)) (And.intro (by exact slot_int rfl (by first | omega)) (And.intro rfl (And.intro rfl (And.intro rfl (And.intro rfl (And.intro rfl trivial)))))))
   ·first | omega | (dsimp only; omega)
   ·exact ⟨by omega, hs4, by omega, hs7, hO2⟩
 ·have hqn : q = bn := by omega
  rw [hqn] at hs3
  refine run_exit rfl <| run_seq <| run_region <| rl_v rfl rfl rfl (ov_move rfl rfl) <| rl_v rfl rfl rfl (ov_assign rfl rfl) <| rl_nil <| run_ret Tryz.func50 (res1 Tryz.results50 rfl) ?_
  exact ⟨s, rfl, ⟨hs1, fun i ⟨x, hx, e⟩ => by rw [← e]; exact (hs3 x hx.1 hx.2).1, fun i j ⟨x, hx, e⟩ j0 j1 hj => by rw [← e]; exact (hs3 x hx.1 hx.2).2 j j0 j1 hj⟩, hs2, hO1⟩
abbrev clL (b1 b3 pb : Nat) (wa : Option Addr) (wc : Nat) (h : Hal) (p : Int → Int) : List (Option Blk) := [some (lch b3 22 [.slice (some ⟨pb, 0, none⟩) h.nl h.nl]), some (vch pb 2 h.nl (fun j => iv (p j))), some (lch b1 25 [.slice wa h.nb wc])]
structure HalO (B : Nat) (w : World) (wa : Option Addr) (h : Hal) : Prop where
 nb : 1 ≤ h.nb ∧ h.nb ≤ 64
 nl : 1 ≤ h.nl ∧ h.nl ≤ 64
 v : ∀ i j : Int, 0 ≤ i → i < h.nb → 0 ≤ j → j < h.nl → W9 (h.V i j)
 t : ITab B w wa h.nb (fun _ => h.nl) (fun i j => iv (h.V i j))
theorem HalO.m {B : Nat} {w0 w : World} {H : List (Option Blk)} {wa pa : Option Addr} {h : Hal} {p : Int → Int} (hO : Own B w0 w H) (h1 : HalO B w0 wa h) (hp : ∀ j : Int, 0 ≤ j → j < h.nl → W9 (p j)) (hq : IAt w.heap.size w pa h.nl (fun j => iv (p j))) : HalM w.heap.size w wa pa h p :=
 ⟨h1.nb.2, h1.nl.2, h1.v, hp, (h1.t.below hO.below).mono hO.size, hq⟩
theorem up_step {p : Int → Int} {Ls : Int → Int} {ln c : Nat} {s : Int} (hL : Rise ln Ls) (c1 : c < ln) (j : Int) : up p (InR Ls ((c + 1 : Nat) : Int)) s j = upd (up p (InR Ls c) s) (Ls c) (p (Ls c) + s) j := by
 by_cases e : j = Ls c
 ·rw [e, upd_same]
  exact up_t ⟨c, by omega, rfl⟩
 ·rw [upd_ne _ _ e]
  by_cases d : InR Ls c j
  ·obtain ⟨q, hq, e2⟩ := d
   rw [up_t ⟨q, by omega, e2⟩, up_t ⟨q, hq, e2⟩]
  ·rw [up_f d, up_f]
   rintro ⟨q, hq, e2⟩
   by_cases z : q = c
   ·rw [z] at e2; exact e e2.symm
   ·exact d ⟨q, by omega, e2⟩
def KeepJ (h : Hal) (J : (Int → Int) → Prop) : Prop := ∀ (p : Int → Int), (∀ j : Int, 0 ≤ j → j < h.nl → W9 (p j)) → J p → ∀ {bn ln : Nat} {Bs Ls : Int → Int} {s : Int}, CrF h p bn Bs ln Ls → (∃ m, Gvn h p (InR Bs bn) (InR Ls ln) m) → h.Stp p (InR Bs bn) (InR Ls ln) s → J (up p (InR Ls ln) s)
set_option maxHeartbeats 4000000 in
theorem climbH_any (b1 b3 pb : Nat) (wa : Option Addr) (wc : Nat) (h : Hal) (J : (Int → Int) → Prop) (hJ : KeepJ h J) (p : Int → Int) (B : Nat) (w0 w : World) (hH : HalO B w0 wa h) (hj : J p) (hp : ∀ j : Int, 0 ≤ j → j < h.nl → W9 (p j)) (hc : h.Cov p) (hO : Own B w0 w (clL b1 b3 pb wa wc h p)) :
  Calls Tryz.prog 48 #[ptr b1, ptr b3] w fun e w' => ∃ (b : Bool) (p' : Int → Int), e = .returned (.bool b) ∧ Own B w0 w' (clL b1 b3 pb wa wc h p') ∧ (∀ j : Int, 0 ≤ j → j < h.nl → W9 (p' j)) ∧ h.Cov p' ∧ (b = false → NoC h p') ∧ (b = true → sm p h.nl < sm p' h.nl) ∧ J p' := by
 have hnb := hH.nb
 have hnl := hH.nl
 refine calls_of_run (F := [(0, _), (1, _)]) Tryz.func48 rfl Tryz.ntmps48 rfl rfl <| run_seq <| run_region <| rl_v rfl rfl rfl (ov_assign rfl rfl) <| rl_nil <| run_seq <| run_region <| rl_v rfl rfl rfl (ov_load rfl Tryz.underlying25 rfl rfl (by exact hO.cellL 2 rfl (off := 0) rfl)) ?_
 refine rl_v rfl rfl rfl (ov_load rfl Tryz.underlying22 rfl rfl (by exact hO.cellL 0 rfl (off := 0) rfl)) ?_
 refine rl_call callable_49 rfl rfl rfl rfl rfl rfl (smallestH_any wa (some ⟨pb, 0, none⟩) wc h.nl h p _ (HalO.m hO hH hp (hO.readsH (.tail _ (.head _))))) (fun e1 w2 hp3 => ?_)
 obtain ⟨vb, vl, bn, rfl, Bs, ln, Ls, cb, cl, hvb, hvl, hcs, hOa⟩ := hp3
 refine ⟨_, rfl, ?_⟩
 have hO4 := hO.join hOa
 obtain ⟨ba, bc, rfl⟩ := Row.val hvb
 obtain ⟨la, lc, rfl⟩ := Row.val hvl
 refine rl_v rfl rfl rfl (ov_move rfl rfl) <| rl_v rfl rfl rfl (ov_extract rfl rfl (by rfl)) ?_
 refine rl_v rfl rfl rfl (ov_extract rfl rfl (by rfl)) ?_
 refine rl_v rfl rfl rfl (ov_assign rfl rfl) <| rl_v rfl rfl rfl (ov_assign rfl rfl) <| rl_nil <| run_seq <| run_seq <| run_region <| rl_v rfl rfl rfl (ov_move rfl rfl) <| rl_v rfl rfl rfl (ov_isnil rfl Tryz.underlying30 rfl) <| rl_nil ?_
 first | refine run_cond_dec rfl (fun c1 => ?_) (fun c1 => ?_) | refine run_cond rfl (fun c1 => ?_) (fun c1 => ?_)
 ·have hN : NoC h p := by
   rcases hcs with ⟨_, _, _, q⟩ | ⟨q, _⟩
   ·exact q
   ·obtain ⟨b, hb⟩ := IRow.addr hvb
    have := q.n
    rw [hb (by omega)] at c1
    exact Bool.noConfusion c1
  refine run_seq <| run_region <| rl_v rfl rfl rfl (ov_assign rfl rfl) <| rl_nil <| run_ret Tryz.func48 (res1 Tryz.results48 rfl) ?_
  exact ⟨false, p, rfl, hO4.tail.tail, hp, hc, fun _ => hN, fun q => Bool.noConfusion q, hj⟩
 ·have hCG : CrF h p bn Bs ln Ls ∧ ∃ m, Gvn h p (InR Bs bn) (InR Ls ln) m := by
   rcases hcs with ⟨_, q, _⟩ | ⟨q, r⟩
   ·injection q with e1 _ _
    rw [e1] at c1
    exact Bool.noConfusion c1
   ·exact ⟨q, r rfl⟩
  obtain ⟨hC, m, hG⟩ := hCG
  refine run_skip <| run_seq <| run_region <| rl_v rfl rfl rfl (ov_load rfl Tryz.underlying25 rfl rfl (by exact hO4.cellL 4 rfl (off := 0) rfl)) ?_
  refine rl_v rfl rfl rfl (ov_load rfl Tryz.underlying22 rfl rfl (by exact hO4.cellL 2 rfl (off := 0) rfl)) ?_
  refine rl_v rfl rfl rfl (ov_move rfl rfl) <| rl_v rfl rfl rfl (ov_move rfl rfl) ?_
  refine rl_call callable_50 rfl rfl rfl rfl rfl rfl (riseH_any wa (some ⟨pb, 0, none⟩) wc h.nl h p ba bn bc Bs la ln lc Ls _ (HalO.m hO4 hH hp (hO4.readsH (.tail _ (.tail _ (.tail _ (.head _)))))) hC (hvb.reads hO4 0 rfl) (hvl.reads hO4 1 rfl)) (fun e5 w6 hp7 => ?_)
  obtain ⟨s, rfl, hS, hs60, hOb⟩ := hp7
  refine ⟨_, rfl, ?_⟩
  have hO8 := hO4.join hOb
  have hs1 := hS.s1
  have hll : ln ≤ h.nl := pigeonG (n := ln) (m := h.nl) (e := Ls) (fun q q0 q1 => hC.c.lr (Ls q) ⟨q, ⟨q0, q1⟩, rfl⟩) (fun a b a0 a1 b0 b1 e => rise_inj hC.l a0 a1 b0 b1 e)
  obtain ⟨lb, hla⟩ := IRow.addr hvl
  have hOc := hO8.congrI 3 rfl (G' := fun j => iv (up p (InR Ls ((0 : Nat) : Int)) s j)) (fun j _ _ => by rw [up_f]; rintro ⟨q, hq, _⟩; omega)
  refine rl_v rfl rfl rfl (ov_assign rfl rfl) <| rl_nil <| run_seq <| run_seq <| run_region <| rl_v rfl rfl rfl (ov_move rfl rfl) <| rl_v rfl rfl rfl (ov_len rfl Tryz.underlying30 rfl) <| rl_v rfl rfl rfl (ov_move rfl rfl) <| rl_nil <| run_block <| Run.keep [1, 5, 21, 22, 23] (F' := [(1, _), (5, _), (21, _), (22, _), (23, _)]) rfl <| run_loop1 (fun (c : Nat) => [(23, .int .i64 (c : Int))]) [1, 5, 21, 22] (fun (c : Nat) (w9 : World) => c ≤ ln ∧ Own B w0 w9 (cb :: cl :: clL b1 b3 pb wa wc h (up p (InR Ls c) s))) (fun (c : Nat) => ln - c) (0) ?_ (And.intro (by exact slot_int rfl (by first | omega)) (And.intro rfl (And.intro rfl (And.intro rfl (And.intro rfl trivial))))) ?_
  ·exact ⟨Nat.zero_le _, hOc⟩
  intro c w9 hIw9 ih10
  obtain ⟨hcl, hO1⟩ := hIw9
  show Run _ _ _ _ [(23, _), (1, _), (5, _), (21, _), (22, _)] _ _
  refine run_seq <| run_region <| rl_v rfl rfl rfl (ov_lss rfl rfl rfl) <| rl_nil <| run_seq ?_
  first | refine run_cond_dec rfl (fun c2 => ?_) (fun c2 => ?_) | refine run_cond rfl (fun c2 => ?_) (fun c2 => ?_)
  ·have hlr := hC.c.lr (Ls c) ⟨c, ⟨by omega, c2⟩, rfl⟩
   have hpl := hp (Ls c) hlr.1 hlr.2
   unfold W9 at hpl
   have hup : up p (InR Ls c) s (Ls c) = p (Ls c) := up_f fun ⟨q, hq, e⟩ => by
    have := rise_inj hC.l hq.1 (by omega) (show (0 : Int) ≤ c by omega) c2 e
    omega
   refine run_skip <| run_seq <| run_block <| run_seq <| run_region <| rl_v rfl rfl rfl (ov_index1 rfl Tryz.underlying30 (by kernel_rfl) rfl rfl ⟨by omega, by omega⟩ (by exact hla (by omega))) ?_
   refine rl_v rfl rfl rfl (ov_load rfl Tryz.underlying3 rfl rfl (by exact hvl.cellU hO1 1 rfl (hla (by omega)) (i := c) (by omega) (by omega))) ?_
   refine rl_v rfl rfl rfl (ov_assign rfl rfl) <| rl_nil <| run_region <| rl_v rfl rfl rfl (ov_load rfl Tryz.underlying22 rfl rfl (by exact hO1.cellL 2 rfl (off := 0) rfl)) ?_
   refine rl_v rfl rfl rfl (ov_move rfl rfl) <| rl_v rfl rfl rfl (ov_index1 rfl Tryz.underlying22 (by kernel_rfl) rfl rfl ⟨by omega, by omega⟩ (by rfl)) ?_
   refine rl_v rfl rfl rfl (ov_load rfl Tryz.underlying2 rfl rfl (by exact (hO1.cellI 3 rfl (Ls c) hlr.1 hlr.2).trans (congrArg (fun y => some (iv y)) hup))) ?_
   refine rl_v rfl rfl rfl (ov_move rfl rfl) <| rl_v rfl rfl rfl (ov_add rfl rfl rfl (by omega)) ?_
   refine rl_v rfl rfl rfl (ov_index1 rfl Tryz.underlying22 (by kernel_rfl) rfl rfl ⟨by omega, by omega⟩ (by rfl)) ?_
   refine rl_ow rfl (ow_storeI rfl rfl (by kernel_rfl) hO1 3 rfl rfl ⟨by omega, by omega⟩ rfl) ?_
   rintro _ w11 ⟨rfl, hO12, hs13⟩
   have hOd := hO12.congrI 3 rfl (G' := fun j => iv (up p (InR Ls ((c + 1 : Nat) : Int)) s j)) (fun j _ _ => by rw [up_step hC.l (by omega) j])
   refine rl_nil <| run_inBlock <| run_region <| rl_v rfl rfl rfl (ov_add rfl rfl rfl (by omega)) ?_
   refine rl_v rfl rfl rfl (ov_move rfl rfl) <| rl_nil ?_
   refine Run.use (ih10 (c + 1) _ ?_ ?_) (And.intro (by exact slot_int rfl (by first | omega)) (And.intro rfl (And.intro rfl (And.intro rfl (And.intro rfl trivial)))))
   ·first | omega | (dsimp only; omega)
   ·exact ⟨by omega, hOd⟩
  ·have hcn : c = ln := by omega
   subst hcn
   have hM : ∀ j : Int, 0 ≤ j → j < h.nl → up p (InR Ls c) s j ≤ 1000000000 := up_le (h := h) (fun i j i0 i1 j0 j1 => (hH.v i j i0 i1 j0 j1).2) (fun j j0 j1 => (hp j j0 j1).2) hC.c hS hG.w
   have hle : ∀ j : Int, p j ≤ up p (InR Ls c) s j := fun j => by
    by_cases d : InR Ls c j
    ·rw [up_t d]; omega
    ·rw [up_f d]; exact Int.le_refl _
   have hlt : sm p h.nl < sm (up p (InR Ls c) s) h.nl := by
    have hb := hC.c.br (Bs 0) ⟨0, ⟨Int.le_refl _, by have := hC.n; omega⟩, rfl⟩
    obtain ⟨j, hj, hw⟩ := (h.gn_at p (Bs 0)).resolve_left (by omega)
    have hL := hC.c.wl (Bs 0) j ⟨0, ⟨Int.le_refl _, by have := hC.n; omega⟩, rfl⟩ hj.1 hj.2 hw
    have h1 := sm_pos (f := fun j => up p (InR Ls c) s j - p j) (k := h.nl) (fun j _ _ => by have := hle j; omega) j hj.1 hj.2
    rw [sm_sub, up_t hL] at h1
    omega
   refine run_exit rfl <| run_seq <| run_region <| rl_v rfl rfl rfl (ov_assign rfl rfl) <| rl_nil <| run_ret Tryz.func48 (res1 Tryz.results48 rfl) ?_
   exact ⟨true, up p (InR Ls c) s, rfl, hO1.tail.tail, fun j j0 j1 => ⟨by have := (hp j j0 j1).1; have := hle j; omega, hM j j0 j1⟩, hc.up hC.c hS hG.w hG.i, fun q => Bool.noConfusion q, fun _ => hlt, hJ p hp hj hC ⟨_, hG⟩ hS⟩
set_option maxHeartbeats 4000000 in
theorem leastH_any (wa : Option Addr) (wc : Nat) (h : Hal) (J : (Int → Int) → Prop) (hJ : KeepJ h J) (hJ0 : J fun _ => 0) (w : World) (hH : HalO w.heap.size w wa h) :
  Calls Tryz.prog 23 #[.slice wa h.nb wc] w fun e w' => ∃ (pb : Nat) (p : Int → Int), e = .returned (.slice (some ⟨pb, 0, none⟩) h.nl h.nl) ∧ Own w.heap.size w w' [some (vch pb 2 h.nl (fun j => iv (p j)))] ∧ (∀ j : Int, 0 ≤ j → j < h.nl → W9 (p j)) ∧ h.Cov p ∧ NoC h p ∧ J p := by
 have hnb := hH.nb
 have hnl := hH.nl
 obtain ⟨A, C, RB, RO, gb, go, hga, hrow, hra, hel, hat⟩ := hH.t.open
 refine calls_of_run (F := [(0, _)]) Tryz.func23 rfl Tryz.ntmps23 rfl rfl ?_
 have hO0 := Own.init w
 refine run_seq <| run_region <| rl_ow rfl (ow_box _ rfl rfl rfl rfl rfl hO0) ?_
 rintro _ w1 ⟨b1, rfl, hO2, hs3⟩
 refine rl_v rfl rfl rfl (ov_assign rfl rfl) <| rl_nil <| run_seq <| run_region <| rl_v rfl rfl rfl (ov_load rfl Tryz.underlying25 rfl rfl (by exact hO2.cellL 0 rfl (off := 0) rfl)) ?_
 refine rl_v rfl rfl rfl (ov_index1 rfl Tryz.underlying25 (by kernel_rfl) rfl rfl ⟨by omega, by omega⟩ (by exact hga (by omega))) ?_
 refine rl_v rfl rfl rfl (ov_load rfl Tryz.underlying22 rfl rfl (by exact hrow _ hO2.below 0 (by omega) (by omega))) ?_
 refine rl_v rfl rfl rfl (ov_len rfl Tryz.underlying22 rfl) ?_
 refine rl_make (h.nl) rfl rfl rfl rfl Tryz.underlying22 info_2 rfl hO2 rfl rfl (by rfl) (by rfl) ⟨by omega, by omega⟩ (fun pb w4 hO5 hs6 => ?_)
 refine rl_ow rfl (ow_alloc _ rfl rfl rfl zero_22 rfl hO5) ?_
 rintro _ w7 ⟨b3, rfl, hO8, hs9⟩
 refine rl_ow rfl (ow_storeL rfl rfl (by kernel_rfl) hO8 0 rfl rfl rfl rfl rfl) ?_
 rintro _ w10 ⟨rfl, hO11, hs12⟩
 have hO0 : Own w.heap.size w w10 (clL b1 b3 pb wa wc h (fun _ => 0)) := hO11
 refine rl_nil <| run_seq <| run_region <| rl_v rfl rfl rfl (ov_func rfl rfl rfl) <| rl_v rfl rfl rfl (ov_assign rfl rfl) <| rl_nil <| run_seq <| run_block <| Run.keep [3, 4] (F' := [(3, _), (4, _)]) rfl <| run_loop1 (fun (p : Int → Int) => []) [3, 4] (fun (p : Int → Int) (w13 : World) => (∀ j : Int, 0 ≤ j → j < h.nl → W9 (p j)) ∧ h.Cov p ∧ J p ∧ Own w.heap.size w w13 (clL b1 b3 pb wa wc h p)) (fun (p : Int → Int) => ((h.nl : Int) * 1000000000 - sm p h.nl).toNat) ((fun _ => 0)) ?_ (And.intro rfl (And.intro rfl trivial)) ?_
 ·exact ⟨fun j _ _ => by show (0 : Int) ≤ 0 ∧ (0 : Int) ≤ 1000000000; decide, Cov.init h, hJ0, hO0⟩
 intro p w13 hIw13 ih14
 obtain ⟨hp, hc, hj, hO1⟩ := hIw13
 show Run _ _ _ _ [(3, _), (4, _)] _ _
 have hsb : sm p h.nl ≤ (h.nl : Int) * 1000000000 := sm_bound _ (by omega) fun j j0 j1 => (hp j j0 j1).2
 refine run_seq <| run_seq <| run_region <| rl_v rfl rfl rfl (ov_move rfl rfl) ?_
 refine rl_call callable_48 rfl rfl rfl rfl rfl rfl (climbH_any b1 b3 pb wa wc h J hJ p w.heap.size w _ hH hj hp hc hO1) (fun e15 w16 hp17 => ?_)
 obtain ⟨b, p', rfl, hO2, hp', hc', hN, hlt, hj'⟩ := hp17
 refine ⟨_, rfl, ?_⟩
 refine rl_nil ?_
 first | refine run_cond_dec rfl (fun c1 => ?_) (fun c1 => ?_) | refine run_cond rfl (fun c1 => ?_) (fun c1 => ?_)
 ·have hlt' := hlt c1
  have hsb' : sm p' h.nl ≤ (h.nl : Int) * 1000000000 := sm_bound _ (by omega) fun j j0 j1 => (hp' j j0 j1).2
  refine run_skip <| run_block <| run_skip <| run_inBlock ?_
  refine Run.use (ih14 (p') _ ?_ ?_) (And.intro rfl (And.intro rfl trivial))
  ·first | omega | (dsimp only; omega)
  ·exact ⟨hp', hc', hj', hO2⟩
 ·refine run_exit rfl <| run_seq <| run_region <| rl_v rfl rfl rfl (ov_load rfl Tryz.underlying22 rfl rfl (by exact hO2.cellL 0 rfl (off := 0) rfl)) ?_
  refine rl_v rfl rfl rfl (ov_assign rfl rfl) <| rl_nil <| run_ret Tryz.func23 (res1 Tryz.results23 rfl) ?_
  exact ⟨pb, p', rfl, hO2.sub (.cons _ (.cons_cons _ (List.nil_sublist _))), hp', hc', hN c1, hj'⟩
end Go.Proofs.YtbcjfjldmfljgaaGreat
