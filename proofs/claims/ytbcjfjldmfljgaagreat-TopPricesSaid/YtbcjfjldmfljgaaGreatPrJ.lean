import Derived.Test.YtbcjfjldmfljgaaGreatPrG
import Derived.Test.YtbcjfjldmfljgaaGreatPrI
set_option maxRecDepth 100000
namespace Go.Proofs.YtbcjfjldmfljgaaGreat
open Go.RowKit Go.Proofs Go.MapKept
def zK (N n : Nat) : Int := max 0 ((N : Int) - n)
theorem narrow {N n m1 m2 : Nat} {l1 l2 : Int} {I1 I2 : Int → Int} (h1 : (∀ i : Int, 0 ≤ i → i < ((N + 1 : Nat) : Int) → l1 ≤ -(min ((N : Int) - i) n)) ∧ ∃ i : Int, (0 ≤ i ∧ i < ((N + 1 : Nat) : Int)) ∧ -(min ((N : Int) - i) n) = l1) (hP1 : Pick (fun i => -(min ((N : Int) - i) n) = l1) (N + 1) m1 I1)
  (h2 : (∀ k : Int, 0 ≤ k → k < m1 → l2 ≤ max ((N : Int) - I1 k - n) (-((N : Int) - I1 k - n))) ∧ ∃ k : Int, (0 ≤ k ∧ k < m1) ∧ max ((N : Int) - I1 k - n) (-((N : Int) - I1 k - n)) = l2) (hP2 : Pick (fun k => max ((N : Int) - I1 k - n) (-((N : Int) - I1 k - n)) = l2) m1 m2 I2) :
  m2 = 1 ∧ I1 (I2 0) = zK N n := by
 have hl1 : l1 = -(min (N : Int) n) := by
  have := h1.1 0 (by omega) (by omega)
  obtain ⟨i, hi, e⟩ := h1.2
  omega
 have hin : ∀ k : Int, 0 ≤ k → k < m1 → (0 ≤ I1 k ∧ I1 k ≤ N) ∧ min ((N : Int) - I1 k) n = min (N : Int) n := fun k k0 k1 => by
  have := (hP1.mem (I1 k)).1 ⟨k, ⟨k0, k1⟩, rfl⟩
  omega
 obtain ⟨a, ha, ea⟩ := (hP1.mem (zK N n)).2 ⟨by unfold zK; omega, by unfold zK; omega⟩
 have hl2 : l2 = max ((N : Int) - zK N n - n) (-((N : Int) - zK N n - n)) := by
  have q1 := h2.1 a ha.1 ha.2
  rw [ea] at q1
  obtain ⟨k, hk, e⟩ := h2.2
  have q2 := hin k hk.1 hk.2
  unfold zK at q1 ⊢
  omega
 have hone : ∀ q : Int, 0 ≤ q → q < m2 → I2 q = a := fun q q0 q1 => by
  obtain ⟨r1, r2⟩ := (hP2.mem (I2 q)).1 ⟨q, ⟨q0, q1⟩, rfl⟩
  have r3 := hin (I2 q) r1.1 r1.2
  rw [hl2] at r2
  have r4 : I1 (I2 q) = I1 a := by
   rw [ea]
   unfold zK at r2 ⊢
   omega
  rcases Int.lt_trichotomy (I2 q) a with c | c | c
  ·have := hP1.inc.inc (I2 q) a r1.1 c ha.2; omega
  ·exact c
  ·have := hP1.inc.inc a (I2 q) ha.1 c r1.2; omega
 obtain ⟨k, hk, e⟩ := h2.2
 obtain ⟨q, hq, _⟩ := (hP2.mem k).2 ⟨hk, e⟩
 have hm : m2 = 1 := by
  refine Classical.byContradiction fun hne => ?_
  have := hP2.inc.inc 0 1 (by omega) (by omega) (by omega)
  rw [hone 0 (by omega) (by omega), hone 1 (by omega) (by omega)] at this
  omega
 exact ⟨hm, by rw [hone 0 (by omega) (by omega)]; exact ea⟩
theorem zonesL_sm {N n : Nat} {v Z : Int → Int} (hN : N ≤ 8) (hn : n ≤ 8) (h : Bds N v Z) (hv : ∀ i : Int, 0 ≤ i → i < N → v i ≤ 100000) : (zonesL N n v Z).Sm := by
 refine ⟨fun i i0 i1 => ?_, fun i i0 i1 => ?_, fun i i0 i1 => ?_, fun i i0 i1 => ?_⟩
 ·show 0 ≤ zS N v Z i ∧ zS N v Z i ≤ 1000000000
  have i1' : i < ((N + 1 : Nat) : Int) := i1
  unfold zS
  split
  ·omega
  ·have hr := h.rng (N - i) (by omega) (by omega)
   have := h.p1 _ hr.1 hr.2
   have := hv _ hr.1 hr.2
   omega
 ·show 0 ≤ zT N v Z i ∧ zT N v Z i ≤ 1000000000
  unfold zT
  split
  ·have hr := h.rng (N - i - 1) (by omega) (by omega)
   have := h.p1 _ hr.1 hr.2
   have := hv _ hr.1 hr.2
   omega
  ·omega
 ·have i1' : i < ((N + 1 : Nat) : Int) := i1
  show 0 ≤ (N : Int) - i ∧ (N : Int) - i ≤ 1000000000
  omega
 ·show 0 ≤ (n : Int) ∧ (n : Int) ≤ 1000000000
  omega
theorem zS_le {N n : Nat} {v Z : Int → Int} (hN : 1 ≤ N) (hn : 1 ≤ n) (h : Bds N v Z) : 1 ≤ zS N v Z (zK N n) ∧ zS N v Z (zK N n) ≤ zT N v Z (zK N n) := by
 have hK : 0 ≤ zK N n ∧ zK N n < N := by unfold zK; omega
 have hr := h.rng (N - zK N n - 1) (by omega) (by omega)
 have h1 := h.p1 _ hr.1 hr.2
 unfold zS zT
 rw [if_pos hK.2]
 by_cases c : zK N n = 0
 ·rw [if_pos c]; omega
 ·rw [if_neg c]
  have hr2 := h.rng (N - zK N n) (by omega) (by omega)
  have h2 := h.p1 _ hr2.1 hr2.2
  have := h.dn (N - zK N n - 1) (N - zK N n) (by omega) (by omega) (by omega)
  omega
theorem Own.front {B : Nat} {w0 w : World} {H : List (Option Blk)} (h : Own B w0 w H) (k : Nat) {x : Option Blk} (hk : H[k]? = some x) : Own B w0 w (x :: H.eraseIdx k) := h.perm (perm_front hk)
set_option maxHeartbeats 8000000 in
theorem priceM_any (la : Option Addr) (lc N n : Nat) (v Z : Int → Int) (w : World) (hN : 1 ≤ N ∧ N ≤ 8) (hn : 1 ≤ n ∧ n ≤ 8) (h : Bds N v Z) (hv : ∀ i : Int, 0 ≤ i → i < N → v i ≤ 100000) (hl : SAt w.heap.size w la 3 (N + 1) (bdF N n v)) :
  Calls Tryz.prog 20 #[.slice la (N + 1 : Nat) lc, iv 1] w fun e w' => e = .returned (iv (zS N v Z (zK N n))) ∧ Own w.heap.size w w' [] := by
 have hsm := zonesL_sm hN.2 hn.2 h hv
 refine calls_of_run (F := [(0, _), (1, _)]) Tryz.func20 rfl Tryz.ntmps20 rfl rfl ?_
 have hO0 := Own.init w
 refine run_seq <| run_region <| rl_ow rfl (ow_box _ rfl rfl rfl rfl rfl hO0) ?_
 rintro _ w1 ⟨b3, rfl, hO2, hs3⟩
 refine rl_v rfl rfl rfl (ov_assign rfl rfl) <| rl_nil <| run_seq <| run_region <| rl_v rfl rfl rfl (ov_move rfl rfl) ?_
 refine rl_call callable_35 rfl rfl rfl rfl rfl rfl (zones_any la lc N n v Z _ hN hn h hv (hO2.satU hl)) (fun e4 w5 hp6 => ?_)
 obtain ⟨va, vc, c, rfl, hr, hOa⟩ := hp6
 refine ⟨_, rfl, ?_⟩
 have hO7 := hO2.join hOa
 refine rl_ow rfl (ow_alloc _ rfl rfl rfl zero_66 rfl hO7) ?_
 rintro _ w8 ⟨b5, rfl, hO9, hs10⟩
 refine rl_ow rfl (ow_alloc _ rfl rfl rfl zero_3 rfl hO9) ?_
 rintro _ w11 ⟨b6, rfl, hO12, hs13⟩
 refine rl_ow rfl (ow_storeL rfl rfl (by kernel_rfl) hO12 1 rfl rfl rfl rfl rfl) ?_
 rintro _ w14 ⟨rfl, hO15, hs16⟩
 refine rl_ow rfl (ow_storeL rfl rfl (by kernel_rfl) hO15 0 rfl rfl rfl rfl rfl) ?_
 rintro _ w17 ⟨rfl, hO18, hs19⟩
 refine rl_nil <| run_seq <| run_region <| rl_v rfl rfl rfl (ov_func rfl rfl rfl) <| rl_ow rfl (ow_build1 [_, _, _] rfl rfl rfl rfl rfl Tryz.underlying75 info_71 (by decide) hO18 rfl rfl) ?_
 rintro _ w20 ⟨b13, rfl, hO21, hs22⟩
 refine rl_v rfl rfl rfl (ov_assign rfl rfl) <| rl_nil <| run_seq <| run_seq <| run_region <| rl_v rfl rfl rfl (ov_move rfl rfl) <| rl_v rfl rfl rfl (ov_len rfl Tryz.underlying75 rfl) <| rl_v rfl rfl rfl (ov_move rfl rfl) <| rl_nil <| run_block <| run_once <| run_seq <| run_region <| rl_v rfl rfl rfl (ov_lss rfl rfl rfl) <| rl_nil <| run_seq ?_
 first | refine run_cond_dec rfl (fun q1 => ?_) (fun q1 => ?_) | refine run_cond rfl (fun q1 => ?_) (fun q1 => ?_)
 ·refine run_skip <| run_seq <| run_block <| run_seq <| run_region <| rl_v rfl rfl rfl (ov_index1 rfl Tryz.underlying75 (by kernel_rfl) rfl rfl ⟨by omega, by omega⟩ rfl) ?_
  refine rl_v rfl rfl rfl (ov_load rfl Tryz.underlying71 rfl rfl (by exact (show _ = some (.func (.func 36) #[] #[]) from hO21.cellI 0 rfl 0 (by decide) (by decide)))) ?_
  refine rl_v rfl rfl rfl (ov_assign rfl rfl) <| rl_nil <| run_region <| rl_v rfl rfl rfl (ov_load rfl Tryz.underlying66 rfl rfl (by exact hO21.cellL 2 rfl (off := 0) rfl)) ?_
  refine rl_v rfl rfl rfl (ov_move rfl rfl) ?_
  refine rl_call callable_44 rfl rfl rfl rfl rfl rfl (kept_any 36 callable_36 (zonesL N n v Z) _ (fun i w i0 i1 => price1_any _ hsm i i0 i1 w) (fun i i0 i1 => by have q1 := hsm.d i i0 i1; have q2 := hsm.s i i0 i1; omega) va vc _ (show 1 ≤ N + 1 ∧ N + 1 ≤ 1000 by omega) (hr.reads hO21 3 rfl)) (fun e23 w24 hp25 => ?_)
  obtain ⟨l1, va1, vc1, m1, I1, c1, rfl, hle1, hP1, hr1, hO1⟩ := hp25
  refine ⟨_, rfl, ?_⟩
  have hO26 := hO21.join hO1
  refine rl_ow rfl (ow_storeL rfl rfl (by kernel_rfl) hO26 3 rfl rfl rfl rfl rfl) ?_
  rintro _ w27 ⟨rfl, hO28, hs29⟩
  refine rl_nil <| run_inBlock <| run_region <| rl_v rfl rfl rfl (ov_add rfl rfl rfl (by omega)) ?_
  refine rl_v rfl rfl rfl (ov_move rfl rfl) <| rl_nil <| run_again <| run_seq <| run_region <| rl_v rfl rfl rfl (ov_lss rfl rfl rfl) <| rl_nil <| run_seq ?_
  first | refine run_cond_dec rfl (fun q2 => ?_) (fun q2 => ?_) | refine run_cond rfl (fun q2 => ?_) (fun q2 => ?_)
  ·have hm1 := hP1.le
   have hin1 : ∀ k : Int, 0 ≤ k → k < m1 → 0 ≤ I1 k ∧ I1 k < ((N + 1 : Nat) : Int) := fun k k0 k1 => ((hP1.mem (I1 k)).1 ⟨k, ⟨k0, k1⟩, rfl⟩).1
   have hsm1 : ((zonesL N n v Z).sel m1 I1).Sm := hsm.sel hin1
   have hm11 : 1 ≤ m1 := by
    obtain ⟨i, hi, e⟩ := hle1.2
    obtain ⟨k, hk, _⟩ := (hP1.mem i).2 ⟨hi, e⟩
    omega
   have hm12 : 1 ≤ m1 ∧ m1 ≤ 1000 := by have : m1 ≤ N + 1 := hm1; omega
   refine run_skip <| run_seq <| run_block <| run_seq <| run_region <| rl_v rfl rfl rfl (ov_index1 rfl Tryz.underlying75 (by kernel_rfl) rfl rfl ⟨by omega, by omega⟩ rfl) ?_
   refine rl_v rfl rfl rfl (ov_load rfl Tryz.underlying71 rfl rfl (by exact (show _ = some (.func (.func 38) #[] #[]) from hO28.cellI 1 rfl (0 + 1) (by decide) (by decide)))) ?_
   refine rl_v rfl rfl rfl (ov_assign rfl rfl) <| rl_nil <| run_region <| rl_v rfl rfl rfl (ov_load rfl Tryz.underlying66 rfl rfl (by exact hO28.cellL 3 rfl (off := 0) rfl)) ?_
   refine rl_v rfl rfl rfl (ov_move rfl rfl) ?_
   refine rl_call callable_44 rfl rfl rfl rfl rfl rfl (kept_any 38 callable_38 ((zonesL N n v Z).sel m1 I1) _ (fun i w i0 i1 => price2_any _ hsm1 i i0 i1 w) (fun i i0 i1 => by have q1 := hsm1.d i i0 i1; have q2 := hsm1.s i i0 i1; omega) va1 vc1 _ hm12 (hr1.reads hO28 0 rfl)) (fun e30 w31 hp32 => ?_)
   obtain ⟨l2, va2, vc2, m2, I2, c2, rfl, hle2, hP2, hr2, hO2⟩ := hp32
   refine ⟨_, rfl, ?_⟩
   have hO33 := hO28.join hO2
   obtain ⟨rfl, hK⟩ := narrow hle1 hP1 hle2 hP2
   refine rl_ow rfl (ow_storeL rfl rfl (by kernel_rfl) hO33 4 rfl rfl rfl rfl rfl) ?_
   rintro _ w34 ⟨rfl, hO35, hs36⟩
   refine rl_nil <| run_inBlock <| run_region <| rl_v rfl rfl rfl (ov_add rfl rfl rfl (by omega)) ?_
   refine rl_v rfl rfl rfl (ov_move rfl rfl) <| rl_nil <| run_again <| run_seq <| run_region <| rl_v rfl rfl rfl (ov_lss rfl rfl rfl) <| rl_nil <| run_seq ?_
   first | refine run_cond_dec rfl (fun q3 => ?_) (fun q3 => ?_) | refine run_cond rfl (fun q3 => ?_) (fun q3 => ?_)
   ·obtain ⟨z2, hz2⟩ : ∃ z2, z2 = ((zonesL N n v Z).sel m1 I1).sel 1 I2 := ⟨_, rfl⟩
    rw [← hz2] at hr2
    have hI2 : ∀ k : Int, 0 ≤ k → k < ((1 : Nat) : Int) → 0 ≤ I2 k ∧ I2 k < m1 := fun k k0 k1 => ((hP2.mem (I2 k)).1 ⟨k, ⟨k0, k1⟩, rfl⟩).1
    have hsm2 : z2.Sm := by rw [hz2]; exact hsm1.sel hI2
    have hn2 : z2.n = 1 := by rw [hz2]; rfl
    have hd2 : z2.d 0 = N - zK N n := by rw [hz2, ← hK]; rfl
    have hs2 : z2.s 0 = n := by rw [hz2]; rfl
    have hf2 : z2.f 0 = zS N v Z (zK N n) := by rw [hz2, ← hK]; rfl
    have ht2 : z2.t 0 = zT N v Z (zK N n) := by rw [hz2, ← hK]; rfl
    have hds : z2.d 0 ≤ z2.s 0 := by rw [hd2, hs2]; unfold zK; omega
    have hle := zS_le hN.1 hn.1 h
    have hOx := ((hO35.front 6 rfl).front 4 rfl).front 5 rfl
    have hOy : Own w.heap.size w w34 (xL b5 b6 b3 vc2 va2 c2 0 ++ [c1, some (vch b13 71 3 (fun i => [.func (.func 36) #[] #[], .func (.func 38) #[] #[], f3C b5 b6 b3].getD i.toNat undef)), c]) := hOx
    refine run_skip <| run_seq <| run_block <| run_seq <| run_region <| rl_v rfl rfl rfl (ov_index1 rfl Tryz.underlying75 (by kernel_rfl) rfl rfl ⟨by omega, by omega⟩ rfl) ?_
    refine rl_v rfl rfl rfl (ov_load rfl Tryz.underlying71 rfl rfl (by exact (show _ = some (f3C b5 b6 b3) from hOy.cellI 5 rfl (0 + 1 + 1) (by decide) (by decide)))) ?_
    refine rl_v rfl rfl rfl (ov_assign rfl rfl) <| rl_nil <| run_region <| rl_v rfl rfl rfl (ov_load rfl Tryz.underlying66 rfl rfl (by exact hOy.cellL 0 rfl (off := 0) rfl)) ?_
    refine rl_v rfl rfl rfl (ov_move rfl rfl) ?_
    refine rl_call callable_44 rfl rfl rfl rfl rfl rfl (kept3_any z2 hsm2 hn2 hds b5 b6 b3 vc2 va2 c2 hr2 w.heap.size w 0 _ _ hOy) (fun e37 w38 hp39 => ?_)
    obtain ⟨sa, sc, c3, rfl, hr3, hO3⟩ := hp39
    refine ⟨_, rfl, ?_⟩
    refine rl_ow rfl (ow_storeL rfl rfl (by kernel_rfl) hO3 1 rfl rfl rfl rfl rfl) ?_
    rintro _ w40 ⟨rfl, hO41, hs42⟩
    refine rl_nil <| run_inBlock <| run_region <| rl_v rfl rfl rfl (ov_add rfl rfl rfl (by omega)) ?_
    refine rl_v rfl rfl rfl (ov_move rfl rfl) <| rl_nil <| run_again <| run_seq <| run_region <| rl_v rfl rfl rfl (ov_lss rfl rfl rfl) <| rl_nil <| run_seq ?_
    first | refine run_cond_dec rfl (fun q4 => ?_) (fun q4 => ?_) | refine run_cond rfl (fun q4 => ?_) (fun q4 => ?_)
    ·exfalso; omega
    ·obtain ⟨zb, hzb⟩ := hr3.addr
     refine run_exit rfl <| run_seq <| run_seq <| run_region <| rl_v rfl rfl rfl (ov_load rfl Tryz.underlying66 rfl rfl (by exact hO41.cellL 1 rfl (off := 0) rfl)) ?_
     refine rl_v rfl rfl rfl (ov_index rfl Tryz.underlying66 (by kernel_rfl) (s := 4) rfl rfl ⟨by omega, by omega⟩ (by exact hzb (by omega))) ?_
     refine rl_v rfl rfl rfl (ov_loadE rfl Tryz.underlying69 rfl (by kernel_rfl) rfl ⟨by omega, by omega⟩ rfl ((hr3.cellU hO41 0 rfl (hzb (by omega))))) ?_
     refine rl_call callable_37 rfl rfl rfl rfl rfl rfl (volume_any z2 0 _) (fun e43 w44 hp45 => ?_)
     obtain ⟨rfl, hO4⟩ := hp45
     refine ⟨_, rfl, ?_⟩
     have hO46 := hO41.join hO4
     refine rl_v rfl rfl rfl (ov_eql rfl rfl rfl) <| rl_nil ?_
     first | refine run_cond_dec rfl (fun q5 => ?_) (fun q5 => ?_) | refine run_cond rfl (fun q5 => ?_) (fun q5 => ?_)
     ·exfalso; (rw [hd2, hs2] at q5; unfold zK at q5; omega)
     ·have hO5 : Own w.heap.size w w44 (c3 :: (xL b5 b6 b3 sc sa c2 (leanV z2) ++ [c1, some (vch b13 71 3 (fun i => [.func (.func 36) #[] #[], .func (.func 38) #[] #[], f3C b5 b6 b3].getD i.toNat undef)), c])) := hO46
      have hpk : pckZ z2 0 (leanV z2) 1 = zS N v Z (zK N n) := by
       unfold pckZ leanV
       rw [hd2, hs2, hf2, ht2, if_neg (show ¬ 0 < (N : Int) - zK N n - n by unfold zK; omega)]
       by_cases c : (N : Int) - zK N n - n < 0
       ·rw [if_pos c, if_neg (by decide), if_pos rfl]
       ·rw [if_neg c, if_neg (by decide), if_neg (by decide)]; omega
      refine run_skip <| run_seq <| run_class (ClU w.heap.size w (c3 :: (xL b5 b6 b3 sc sa c2 (leanV z2) ++ [c1, some (vch b13 71 3 (fun i => [.func (.func 36) #[] #[], .func (.func 38) #[] #[], f3C b5 b6 b3].getD i.toNat undef)), c]))) (⟨hO5.drew⟩) mixed (by kernel_rfl) ?_
      refine rk_v rfl rfl rfl (fun wq hQ => ov_load rfl Tryz.underlying66 rfl rfl (by exact (hQ.own).cellL 1 rfl (off := 0) rfl)) ?_
      refine rk_v rfl rfl rfl (fun wq hQ => ov_index rfl Tryz.underlying66 (by kernel_rfl) (s := 4) rfl rfl ⟨by omega, by omega⟩ (by exact hzb (by omega))) ?_
      refine rk_v rfl rfl rfl (fun wq hQ => ov_loadE rfl Tryz.underlying69 rfl (by kernel_rfl) rfl ⟨by omega, by omega⟩ rfl ((hr3.cellU (hQ.own) 0 rfl (hzb (by omega))))) ?_
      refine rk_v rfl rfl rfl (fun wq hQ => ov_load rfl Tryz.underlying3 rfl rfl (by exact (hQ.own).cellL 2 rfl (off := 0) rfl)) ?_
      refine rk_v rfl rfl rfl (fun wq hQ => ov_load rfl Tryz.underlying2 rfl rfl (by exact (hQ.own).cellL 3 rfl (off := 0) rfl)) ?_
      refine rk_call callable_43 rfl rfl rfl rfl rfl rfl (fun wq hQ => (pickZ_any z2 0 (leanV z2) 1 wq).mono fun _ _ h => ⟨h.1, ⟨(hQ.own).join h.2⟩⟩) ?_
      refine rk_v rfl rfl rfl (fun wq hQ => ov_assign rfl rfl) ?_
      refine rk_nil (fun w50 hQ => ?_)
      refine run_ret Tryz.func20 (res1 Tryz.results20 rfl) ?_
      exact ⟨by rw [hpk], (hQ.own).sub (List.nil_sublist _)⟩
   ·exfalso; omega
  ·exfalso; omega
 ·exfalso; omega
end Go.Proofs.YtbcjfjldmfljgaaGreat
