import Derived.Test.YtbepolognfdkeaaGreatLaw0
import Derived.Test.YtbepolognfdkeaaGreatGcA
import Derived.Test.YtbepolognfdkeaaGreatGcF
set_option maxRecDepth 100000
namespace Go.Proofs.YtbepolognfdkeaaGreat
open Go.RowKit Go.Proofs Go.MapKept
def sE : Int → Int → Int := fun r _ => if r = 0 then 1 else 0
theorem sOk : SwapOk 2 (fun _ => 1) sE := fun i i0 i1 => ⟨fun k k0 k1 => by unfold sE; split <;> omega, fun a b a0 a1 b0 b1 _ => by
 have a2 : a < ((1 : Nat) : Int) := a1
 have b2 : b < ((1 : Nat) : Int) := b1
 omega⟩
theorem s_core {o t : Int → Int} (h : (wishOf 2 (fun _ => 1) sE).Cert o t) : o 0 = 1 := by
 have hr0 := h.rng 0 (by decide) (by decide)
 have hr1 := h.rng 1 (by decide) (by decide)
 have hi := h.inj 0 1 (by decide) (by decide) (by decide) (by decide)
 have h0 : o 0 < 2 := hr0.2
 have h1 : o 1 < 2 := hr1.2
 refine Classical.byContradiction fun hne => ?_
 have e0 : o 0 = 0 := by omega
 have e1 : o 1 = 1 := by
  have : ¬ (o 1 = 0) := fun e => by have := hi (by rw [e0, e]); omega
  omega
 have b0 := h.best 0 0 (by decide) (by decide) (by decide) (by rw [e0]; decide)
 have b1 := h.best 1 0 (by decide) (by decide) (by decide) (by rw [e1]; decide)
 have c0 : (wishOf 2 (fun _ => 1) sE).e 0 0 = 1 := by decide
 have c1 : (wishOf 2 (fun _ => 1) sE).e 1 0 = 0 := by decide
 rw [c0] at b0
 rw [c1] at b1
 omega
def sD : Int → Int → Int := fun r c => if r = c then 0 else 1
theorem sV : Valid 2 sD := by
 refine ⟨by decide, by decide, fun r c => ?_, fun r c => ?_, fun r => ?_⟩ <;> unfold sD <;> first | (split <;> omega) | simp
theorem s_net {x : Int → Int → Int} {rk : Int → Int} (hc : Circ 2 sD x) (hb : bnd 2 sD rk = total 2 x) : total 2 x = 2 := by
 have two : ∀ f : Int → Int, sm f (2 : Nat) = f 0 + f 1 := fun f => by
  rw [show ((2 : Nat) : Int) = 0 + 1 + 1 by omega, sm_succ _ (by omega), sm_succ _ (by omega), sm_zero]; simp
 have ht : total 2 x = x 0 0 + x 0 1 + (x 1 0 + x 1 1) := by unfold total; rw [two, two, two]
 have h00 := hc.hi 0 0 (by decide) (by decide) (by decide) (by decide)
 have h01 := hc.hi 0 1 (by decide) (by decide) (by decide) (by decide)
 have h10 := hc.hi 1 0 (by decide) (by decide) (by decide) (by decide)
 have h11 := hc.hi 1 1 (by decide) (by decide) (by decide) (by decide)
 have e00 : sD 0 0 = 0 := by decide
 have e01 : sD 0 1 = 1 := by decide
 have e10 : sD 1 0 = 1 := by decide
 have e11 : sD 1 1 = 0 := by decide
 have hB : bnd 2 sD rk = 0 * max 0 (1 + rk 0 - rk 0) + 1 * max 0 (1 + rk 0 - rk 1) + (1 * max 0 (1 + rk 1 - rk 0) + 0 * max 0 (1 + rk 1 - rk 1)) := by
  unfold bnd; rw [two, two, two]; unfold term; rw [e00, e01, e10, e11]
 omega
def sL1 : Lds := ⟨1, fun _ => 0, fun _ => 1, fun _ => 1, fun _ => 4⟩
theorem sLv : sL1.Valid := fun i _ _ => by unfold Lds.Val; show (0 : Int) ≤ 0 ∧ (0 : Int) < 1 ∧ (1 : Int) ≤ 1000000 ∧ (1 : Int) ≤ 1 ∧ (1 : Int) ≤ 1 - 0 ∧ (0 : Int) ≤ 4 ∧ (4 : Int) ≤ 1000000; decide
theorem sLe : sL1.bestE 1 = 0 := by
 unfold Lds.bestE
 rw [if_pos (Lds.chkK_ok (by decide) sLv (by decide)), if_pos (show sL1.Short from fun i _ _ => rfl)]
theorem s_dry {Z Y : Int → Int} {bn : Nat} (hZ : SrtW sL1 Z) (hR : Rise bn Y) (hm : ∀ i : Int, (∃ j : Int, (0 ≤ j ∧ j < bn) ∧ Y j = i) ↔ grd sL1 1 Z sL1.n i) (hbn : bn ≤ sL1.n) : bn = 1 ∧ sm (fun i => ind (grd sL1 1 Z sL1.n i) * sL1.wo i) sL1.n = 4 := by
 have hb1 : bn ≤ 1 := hbn
 have hr : 0 ≤ Z 0 ∧ Z 0 < 1 := hZ.rng (p := 0) (by decide) (by decide)
 have hz : Z 0 = 0 := by omega
 have hg : grd sL1 1 Z sL1.n 0 := .inr ⟨hz.symm, fun _ => 0, fun i i0 i1 _ => ⟨Int.le_refl _, by show (0 : Int) < 1; decide⟩, fun t => by
  unfold cntE
  refine Int.le_trans (sm_bound 1 (by decide) fun i _ _ => (ind_rng _).2) ?_
  show ((1 : Nat) : Int) * 1 ≤ 1; decide⟩
 refine ⟨?_, ?_⟩
 ·obtain ⟨j, hj, _⟩ := (hm 0).2 hg
  omega
 ·show sm _ ((1 : Nat) : Int) = 4
  rw [show ((1 : Nat) : Int) = 0 + 1 by omega, sm_succ _ (by omega), sm_zero, ind_t hg]; rfl
theorem SAt.congrT {B : Nat} {w : World} {ao : Option Addr} {s n : Nat} {G G' : Int → List Value} (h : SAt B w ao s n G) (e : ∀ i : Int, 0 ≤ i → i < n → G i = G' i) : SAt B w ao s n G' := by
 obtain ⟨b, off, h1, h2, h3⟩ := h
 refine ⟨b, off, h1, h2, fun k hk => (h3 k hk).trans (congrArg some ?_)⟩
 have : k / s < n := Nat.div_lt_of_lt_mul (by rw [Nat.mul_comm]; exact hk)
 show (G ((k / s : Nat) : Int)).getD (k % s) undef = (G' ((k / s : Nat) : Int)).getD (k % s) undef
 rw [e _ (Int.natCast_nonneg _) (Int.ofNat_lt.2 this)]
theorem Own.readsT {B : Nat} {w0 w : World} {H : List (Option Blk)} (h : Own B w0 w H) (k : Nat) {b n : Nat} {t : TypeId} {G : Int → Value} (hk : H[k]? = some (some (vch b t n G))) (m : Nat) (hm : m ≤ n) : IAt w.heap.size w (some ⟨b, 0, none⟩) m G := h.reads k hk m hm
theorem i01 {P : Int → Prop} (h0 : P 0) (h1 : P 1) : ∀ i : Int, 0 ≤ i → i < (2 : Nat) → P i := fun i a b => by
 have : i = 0 ∨ i = 1 := by omega
 rcases this with rfl | rfl
 ·exact h0
 ·exact h1
theorem sI64 : sL1.I64 := ⟨fun _ _ _ => (by decide : (-9223372036854775808 : Int) ≤ 0 ∧ (0 : Int) ≤ 9223372036854775807), fun _ _ _ => (by decide : (-9223372036854775808 : Int) ≤ 1 ∧ (1 : Int) ≤ 9223372036854775807), fun _ _ _ => (by decide : (-9223372036854775808 : Int) ≤ 1 ∧ (1 : Int) ≤ 9223372036854775807), fun _ _ _ => (by decide : (-9223372036854775808 : Int) ≤ 4 ∧ (4 : Int) ≤ 9223372036854775807)⟩
theorem seven_any (w : World) : Calls Tryz.prog 21 #[] w fun e w' => e = .returned (.bool true) ∧ Below w.heap.size w w' := by
 refine calls_of_run (F := []) Tryz.func21 rfl Tryz.ntmps21 rfl rfl ?_
 have hO0 := Own.init w
 refine run_seq <| run_region <| rl_v rfl rfl rfl (ov_assign rfl rfl) <| rl_nil <| run_seq <| run_region <| rl_ow rfl (ow_one rfl rfl rfl Tryz.underlying36 info_3 rfl hO0 rfl rfl) ?_
 rintro _ w1 ⟨b10, rfl, hO2, hs3⟩
 refine rl_ow rfl (ow_one rfl rfl rfl Tryz.underlying36 info_3 rfl hO2 rfl rfl) ?_
 rintro _ w4 ⟨b11, rfl, hO5, hs6⟩
 refine rl_ow rfl (ow_build1 [_, _] rfl rfl rfl rfl rfl Tryz.underlying69 info_36 (by decide) hO5 rfl rfl) ?_
 rintro _ w7 ⟨b12, rfl, hO8, hs9⟩
 have hRT : RTab w7.heap.size w7 (some ⟨b12, 0, none⟩) 2 (fun _ => 1) sE := by
  refine ⟨fun r => if r = 0 then some ⟨b10, 0, none⟩ else some ⟨b11, 0, none⟩, fun _ => 1, (hO8.readsT 0 rfl 2 (Nat.le_refl _)).congr (i01 rfl rfl), fun _ _ _ => Nat.le_refl _, i01 ?_ ?_⟩
  ·exact (hO8.readsT 2 rfl 1 (Nat.le_refl _)).congr fun i i0 i1 => rfl
  ·exact (hO8.readsT 1 rfl 1 (Nat.le_refl _)).congr fun i i0 i1 => rfl
 refine rl_v rfl rfl rfl (ov_buildL rfl lay_98 rfl (us := [_]) rfl) ?_
 refine rl_call callable_46 rfl rfl rfl rfl rfl rfl (core_any sortRows_all (some ⟨b12, 0, none⟩) 2 2 (fun _ => 1) sE _ (by decide) sOk hRT) (fun e10 w11 hp12 => ?_)
 obtain ⟨ob, o, t, rfl, hOc, hC⟩ := hp12
 refine ⟨_, rfl, ?_⟩
 have hO13 := hO8.join hOc
 have ho := s_core hC
 refine rl_v rfl rfl rfl (ov_move rfl rfl) <| rl_v rfl rfl rfl (ov_extract rfl rfl (by rfl)) ?_
 refine rl_v rfl rfl rfl (ov_extract rfl rfl (by rfl)) ?_
 refine rl_v rfl rfl rfl (ov_assign rfl rfl) <| rl_v rfl rfl rfl (ov_assign rfl rfl) <| rl_nil <| run_seq <| run_region <| rl_ow rfl (ow_build1 [_, _] rfl rfl rfl rfl rfl Tryz.underlying59 info_2 (by decide) hO13 rfl rfl) ?_
 rintro _ w14 ⟨b18, rfl, hO15, hs16⟩
 refine rl_ow rfl (ow_build1 [_, _] rfl rfl rfl rfl rfl Tryz.underlying59 info_2 (by decide) hO15 rfl rfl) ?_
 rintro _ w17 ⟨b19, rfl, hO18, hs19⟩
 refine rl_ow rfl (ow_build1 [_, _] rfl rfl rfl rfl rfl Tryz.underlying55 info_59 (by decide) hO18 rfl rfl) ?_
 rintro _ w20 ⟨b20, rfl, hO21, hs22⟩
 have hIT : ITab w20.heap.size w20 (some ⟨b20, 0, none⟩) 2 (fun _ => 2) (fun r c => .int .i64 (sD r c)) := by
  refine ⟨fun r => if r = 0 then some ⟨b18, 0, none⟩ else some ⟨b19, 0, none⟩, fun _ => 2, (hO21.readsT 0 rfl 2 (Nat.le_refl _)).congr (i01 rfl rfl), i01 ?_ ?_⟩
  ·exact (hO21.readsT 2 rfl 2 (Nat.le_refl _)).congr (i01 rfl rfl)
  ·exact (hO21.readsT 1 rfl 2 (Nat.le_refl _)).congr (i01 rfl rfl)
 refine rl_call callable_47 rfl rfl rfl rfl rfl rfl (cancel_any (some ⟨b20, 0, none⟩) 2 2 sD _ sV hIT) (fun e23 w24 hp25 => ?_)
 obtain ⟨v, x, H, rk, rfl, hT, hOd, hCi, _, hB⟩ := hp25
 refine ⟨_, rfl, ?_⟩
 have hO26 := hO21.join hOd
 rw [s_net hCi hB]
 have hOr := hO26.sub (List.sublist_append_right H _)
 refine rl_v rfl rfl rfl (ov_move rfl rfl) <| rl_v rfl rfl rfl (ov_extract rfl rfl (by rfl)) ?_
 refine rl_v rfl rfl rfl (ov_extract rfl rfl (by rfl)) ?_
 refine rl_v rfl rfl rfl (ov_extract rfl rfl (by rfl)) ?_
 refine rl_v rfl rfl rfl (ov_assign rfl rfl) <| rl_v rfl rfl rfl (ov_assign rfl rfl) <| rl_v rfl rfl rfl (ov_assign rfl rfl) <| rl_nil <| run_seq <| run_region <| rl_v rfl rfl rfl (ov_buildL rfl lay_58 rfl (us := [_, _, _, _]) rfl) <| rl_ow rfl (ow_build [_] rfl rfl rfl rfl rfl Tryz.underlying24 info_58 (by decide) hOr rfl rfl) ?_
 rintro _ w27 ⟨b27, rfl, hO28, hs29⟩
 have hS : SAt w27.heap.size w27 (some ⟨b27, 0, none⟩) 4 1 (ldF sL1) := by
  have h : SAt w27.heap.size w27 (some ⟨b27, 0, none⟩) 4 1 (fun i => [[iv 0, iv 1, iv 1, iv 4]].getD i.toNat []) := hO28.reads 0 rfl (1 * 4) (Nat.le_refl _)
  refine h.congrT fun i i0 i1 => ?_
  have : i = 0 := by omega
  subst this; rfl
 refine rl_call callable_16 rfl rfl rfl rfl rfl rfl (Best_any (some ⟨b27, 0, none⟩) 1 sL1 1 _ (by decide) (fun _ => by decide) sI64 hS) (fun e30 w31 hp32 => ?_)
 obtain ⟨ba, bn, bc, Y, s, cb, rfl, hrb, hy, _, hOe⟩ := hp32
 refine ⟨_, rfl, ?_⟩
 have hO33 := hO28.join hOe
 rw [sLe]
 obtain ⟨Z, hZ, hRi, hmem, hbn, hs⟩ := hy sLe
 obtain ⟨e1, e2⟩ := s_dry hZ hRi hmem hbn
 rw [e2] at hs
 subst hs
 subst e1
 refine rl_v rfl rfl rfl (ov_move rfl rfl) <| rl_v rfl rfl rfl (ov_extract rfl rfl (by rfl)) ?_
 refine rl_v rfl rfl rfl (ov_extract rfl rfl (by rfl)) ?_
 refine rl_v rfl rfl rfl (ov_extract rfl rfl (by rfl)) ?_
 refine rl_v rfl rfl rfl (ov_assign rfl rfl) <| rl_v rfl rfl rfl (ov_assign rfl rfl) <| rl_v rfl rfl rfl (ov_assign rfl rfl) <| rl_nil <| run_seq <| run_region <| rl_v rfl rfl rfl (ov_move rfl rfl) <| rl_v rfl rfl rfl (ov_eql rfl rfl rfl) <| rl_v rfl rfl rfl (ov_move rfl rfl) ?_
 first | refine rl_yesD 34 rfl (rfl) ?_ | refine rl_yes 34 rfl (rfl) ?_
 refine rl_gv rfl rfl rfl rfl rfl (ov_move rfl rfl) <| rl_gv rfl rfl rfl rfl rfl (ov_eql rfl rfl rfl) <| rl_v rfl rfl rfl (ov_pick_t rfl rfl rfl) <| rl_v rfl rfl rfl (ov_move rfl rfl) ?_
 first | refine rl_yesD 38 rfl (rfl) ?_ | refine rl_yes 38 rfl (rfl) ?_
 refine rl_gv rfl rfl rfl rfl rfl (ov_move rfl rfl) <| rl_gv rfl rfl rfl rfl rfl (ov_eql rfl rfl rfl) <| rl_v rfl rfl rfl (ov_pick_t rfl rfl rfl) <| rl_v rfl rfl rfl (ov_move rfl rfl) ?_
 first | refine rl_yesD 42 rfl (rfl) ?_ | refine rl_yes 42 rfl (rfl) ?_
 refine rl_gv rfl rfl rfl rfl rfl (ov_move rfl rfl) <| rl_gv rfl rfl rfl rfl rfl (ov_len rfl Tryz.underlying36 rfl) <| rl_gv rfl rfl rfl rfl rfl (ov_eql rfl rfl rfl) <| rl_v rfl rfl rfl (ov_pick_t rfl rfl rfl) <| rl_v rfl rfl rfl (ov_move rfl rfl) ?_
 first | refine rl_yesD 47 rfl (rfl) ?_ | refine rl_yes 47 rfl (rfl) ?_
 refine rl_gv rfl rfl rfl rfl rfl (ov_move rfl rfl) <| rl_gv rfl rfl rfl rfl rfl (ov_index1 rfl Tryz.underlying36 (by kernel_rfl) rfl rfl ⟨by omega, by omega⟩ rfl) ?_
 refine rl_gv rfl rfl rfl rfl rfl (ov_load rfl Tryz.underlying3 rfl rfl (by exact (hO33.cellI 5 rfl 0 (by decide) (by decide)).trans (by rw [ho]))) ?_
 refine rl_gv rfl rfl rfl rfl rfl (ov_eql rfl rfl rfl) <| rl_v rfl rfl rfl (ov_pick_t rfl rfl rfl) <| rl_v rfl rfl rfl (ov_move rfl rfl) ?_
 first | refine rl_yesD 53 rfl (rfl) ?_ | refine rl_yes 53 rfl (rfl) ?_
 refine rl_gv rfl rfl rfl rfl rfl (ov_move rfl rfl) <| rl_gv rfl rfl rfl rfl rfl (ov_eql rfl rfl rfl) <| rl_v rfl rfl rfl (ov_pick_t rfl rfl rfl) <| rl_v rfl rfl rfl (ov_move rfl rfl) ?_
 first | refine rl_yesD 57 rfl (rfl) ?_ | refine rl_yes 57 rfl (rfl) ?_
 refine rl_gv rfl rfl rfl rfl rfl (ov_move rfl rfl) <| rl_gv rfl rfl rfl rfl rfl (ov_len rfl Tryz.underlying36 rfl) <| rl_gv rfl rfl rfl rfl rfl (ov_eql rfl rfl rfl) <| rl_v rfl rfl rfl (ov_pick_t rfl rfl rfl) <| rl_v rfl rfl rfl (ov_move rfl rfl) ?_
 first | refine rl_yesD 62 rfl (rfl) ?_ | refine rl_yes 62 rfl (rfl) ?_
 refine rl_gv rfl rfl rfl rfl rfl (ov_move rfl rfl) <| rl_gv rfl rfl rfl rfl rfl (ov_eql rfl rfl rfl) <| rl_v rfl rfl rfl (ov_pick_t rfl rfl rfl) <| rl_v rfl rfl rfl (ov_assign rfl rfl) <| rl_nil <| run_ret Tryz.func21 (res1 Tryz.results21 rfl) ?_
 exact ⟨rfl, hO33.below⟩
end Go.Proofs.YtbepolognfdkeaaGreat
