import Derived.Test.YtlldeifbfpmbaaaGreatLaw0
import Derived.Test.YtlldeifbfpmbaaaGreatGbC
import Derived.Test.YtlldeifbfpmbaaaGreatGcF
import Derived.Test.YtlldeifbfpmbaaaGreatFhA
import Derived.Test.YtlldeifbfpmbaaaGreatFcF
import Derived.Test.YtlldeifbfpmbaaaGreatGow
import Derived.Test.YtlldeifbfpmbaaaGreatFcA
import Derived.Test.YtlldeifbfpmbaaaGreatGbH
set_option maxRecDepth 100000
namespace Go.Proofs.YtlldeifbfpmbaaaGreat
open Go.RowKit Go.Proofs Go.MapKept
def sE : Int → Int → Int := fun r _ => if r = 0 then 1 else 0
theorem sOk : SwapOk 2 (fun _ => 1) sE := fun i i0 i1 => ⟨fun k k0 k1 => by unfold sE; split <;> omega, fun a b a0 a1 b0 b1 _ => by
 have a2 : a < ((1 : Nat) : Int) := a1
 have b2 : b < ((1 : Nat) : Int) := b1
 omega⟩
theorem s_core {o t : Int → Int} (h : (wishOf 2 (fun _ => 1) sE).Cert o t) : o 0 = 1 := by
 have hr0 := h.rng 0 (by decide) (by decide)
 have hr1 := h.rng 1 (by decide) (by decide)
 have hi := h.inj 0 1 (by decide) (by decide) (by decide) (by decide)
 have h0 : o 0 < 2 := hr0.2
 have h1 : o 1 < 2 := hr1.2
 refine Classical.byContradiction fun hne => ?_
 have e0 : o 0 = 0 := by omega
 have e1 : o 1 = 1 := by
  have : ¬ (o 1 = 0) := fun e => by have := hi (by rw [e0, e]); omega
  omega
 have b0 := h.best 0 0 (by decide) (by decide) (by decide) (by rw [e0]; decide)
 have b1 := h.best 1 0 (by decide) (by decide) (by decide) (by rw [e1]; decide)
 have c0 : (wishOf 2 (fun _ => 1) sE).e 0 0 = 1 := by decide
 have c1 : (wishOf 2 (fun _ => 1) sE).e 1 0 = 0 := by decide
 rw [c0] at b0
 rw [c1] at b1
 omega
def sD : Int → Int → Int := fun r c => if r = c then 0 else 1
theorem sV : Valid 2 sD := by
 refine ⟨by decide, by decide, fun r c => ?_, fun r c => ?_, fun r => ?_⟩ <;> unfold sD <;> first | (split <;> omega) | simp
theorem s_net {x : Int → Int → Int} {rk : Int → Int} (hc : Circ 2 sD x) (hb : bnd 2 sD rk = total 2 x) : total 2 x = 2 := by
 have two : ∀ f : Int → Int, sm f (2 : Nat) = f 0 + f 1 := fun f => by
  rw [show ((2 : Nat) : Int) = 0 + 1 + 1 by omega, sm_succ _ (by omega), sm_succ _ (by omega), sm_zero]; simp
 have ht : total 2 x = x 0 0 + x 0 1 + (x 1 0 + x 1 1) := by unfold total; rw [two, two, two]
 have h00 := hc.hi 0 0 (by decide) (by decide) (by decide) (by decide)
 have h01 := hc.hi 0 1 (by decide) (by decide) (by decide) (by decide)
 have h10 := hc.hi 1 0 (by decide) (by decide) (by decide) (by decide)
 have h11 := hc.hi 1 1 (by decide) (by decide) (by decide) (by decide)
 have e00 : sD 0 0 = 0 := by decide
 have e01 : sD 0 1 = 1 := by decide
 have e10 : sD 1 0 = 1 := by decide
 have e11 : sD 1 1 = 0 := by decide
 have hB : bnd 2 sD rk = 0 * max 0 (1 + rk 0 - rk 0) + 1 * max 0 (1 + rk 0 - rk 1) + (1 * max 0 (1 + rk 1 - rk 0) + 0 * max 0 (1 + rk 1 - rk 1)) := by
  unfold bnd; rw [two, two, two]; unfold term; rw [e00, e01, e10, e11]
 omega
def sL1 : Lds := ⟨1, fun _ => 0, fun _ => 1, fun _ => 1, fun _ => 4⟩
theorem sLv : sL1.Valid := fun i _ _ => by unfold Lds.Val; show (0 : Int) ≤ 0 ∧ (0 : Int) < 1 ∧ (1 : Int) ≤ 1000000 ∧ (1 : Int) ≤ 1 ∧ (1 : Int) ≤ 1 - 0 ∧ (0 : Int) ≤ 4 ∧ (4 : Int) ≤ 1000000; decide
theorem sLe : sL1.bestE 1 = 0 := by
 unfold Lds.bestE
 rw [if_pos (Lds.chkK_ok (by decide) sLv (by decide)), if_pos (show sL1.Short from fun i _ _ => rfl)]
theorem s_dry {Z Y : Int → Int} {bn : Nat} (hZ : SrtW sL1 Z) (hR : Rise bn Y) (hm : ∀ i : Int, (∃ j : Int, (0 ≤ j ∧ j < bn) ∧ Y j = i) ↔ grd sL1 1 Z sL1.n i) (hbn : bn ≤ sL1.n) : bn = 1 ∧ sm (fun i => ind (grd sL1 1 Z sL1.n i) * sL1.wo i) sL1.n = 4 := by
 have hb1 : bn ≤ 1 := hbn
 have hr : 0 ≤ Z 0 ∧ Z 0 < 1 := hZ.rng (p := 0) (by decide) (by decide)
 have hz : Z 0 = 0 := by omega
 have hg : grd sL1 1 Z sL1.n 0 := .inr ⟨hz.symm, fun _ => 0, fun i i0 i1 _ => ⟨Int.le_refl _, by show (0 : Int) < 1; decide⟩, fun t => by
  unfold cntE
  refine Int.le_trans (sm_bound 1 (by decide) fun i _ _ => (ind_rng _).2) ?_
  show ((1 : Nat) : Int) * 1 ≤ 1; decide⟩
 refine ⟨?_, ?_⟩
 ·obtain ⟨j, hj, _⟩ := (hm 0).2 hg
  omega
 ·show sm _ ((1 : Nat) : Int) = 4
  rw [show ((1 : Nat) : Int) = 0 + 1 by omega, sm_succ _ (by omega), sm_zero, ind_t hg]; rfl
theorem SAt.congrT {B : Nat} {w : World} {ao : Option Addr} {s n : Nat} {G G' : Int → List Value} (h : SAt B w ao s n G) (e : ∀ i : Int, 0 ≤ i → i < n → G i = G' i) : SAt B w ao s n G' := by
 obtain ⟨b, off, h1, h2, h3⟩ := h
 refine ⟨b, off, h1, h2, fun k hk => (h3 k hk).trans (congrArg some ?_)⟩
 have : k / s < n := Nat.div_lt_of_lt_mul (by rw [Nat.mul_comm]; exact hk)
 show (G ((k / s : Nat) : Int)).getD (k % s) undef = (G' ((k / s : Nat) : Int)).getD (k % s) undef
 rw [e _ (Int.natCast_nonneg _) (Int.ofNat_lt.2 this)]
theorem Own.readsT {B : Nat} {w0 w : World} {H : List (Option Blk)} (h : Own B w0 w H) (k : Nat) {b n : Nat} {t : TypeId} {G : Int → Value} (hk : H[k]? = some (some (vch b t n G))) (m : Nat) (hm : m ≤ n) : IAt w.heap.size w (some ⟨b, 0, none⟩) m G := h.reads k hk m hm
theorem i01 {P : Int → Prop} (h0 : P 0) (h1 : P 1) : ∀ i : Int, 0 ≤ i → i < (2 : Nat) → P i := fun i a b => by
 have : i = 0 ∨ i = 1 := by omega
 rcases this with rfl | rfl
 ·exact h0
 ·exact h1
theorem sI64 : sL1.I64 := ⟨fun _ _ _ => (by decide : (-9223372036854775808 : Int) ≤ 0 ∧ (0 : Int) ≤ 9223372036854775807), fun _ _ _ => (by decide : (-9223372036854775808 : Int) ≤ 1 ∧ (1 : Int) ≤ 9223372036854775807), fun _ _ _ => (by decide : (-9223372036854775808 : Int) ≤ 1 ∧ (1 : Int) ≤ 9223372036854775807), fun _ _ _ => (by decide : (-9223372036854775808 : Int) ≤ 4 ∧ (4 : Int) ≤ 9223372036854775807)⟩
theorem seven_any (w : World) : Calls Tryz.prog 31 #[] w fun e w' => e = .returned (.bool true) ∧ Below w.heap.size w w' := by
 refine calls_of_run (F := []) Tryz.func31 rfl Tryz.ntmps31 rfl rfl ?_
 have hO0 := Own.init w
 refine run_seq <| run_region <| rl_v rfl rfl rfl (ov_assign rfl rfl) <| rl_nil <| run_seq <| run_region <| rl_ow rfl (ow_one rfl rfl rfl Tryz.underlying23 info_3 rfl hO0 rfl rfl) ?_
 rintro _ w1 ⟨b10, rfl, hO2, hs3⟩
 refine rl_ow rfl (ow_one rfl rfl rfl Tryz.underlying23 info_3 rfl hO2 rfl rfl) ?_
 rintro _ w4 ⟨b11, rfl, hO5, hs6⟩
 refine rl_ow rfl (ow_build1 [_, _] rfl rfl rfl rfl rfl Tryz.underlying22 info_23 (by decide) hO5 rfl rfl) ?_
 rintro _ w7 ⟨b12, rfl, hO8, hs9⟩
 have hRT : RTab w7.heap.size w7 (some ⟨b12, 0, none⟩) 2 (fun _ => 1) sE := by
  refine ⟨fun r => if r = 0 then some ⟨b10, 0, none⟩ else some ⟨b11, 0, none⟩, fun _ => 1, (hO8.readsT 0 rfl 2 (Nat.le_refl _)).congr (i01 rfl rfl), fun _ _ _ => Nat.le_refl _, i01 ?_ ?_⟩
  ·exact (hO8.readsT 2 rfl 1 (Nat.le_refl _)).congr fun i i0 i1 => rfl
  ·exact (hO8.readsT 1 rfl 1 (Nat.le_refl _)).congr fun i i0 i1 => rfl
 refine rl_v rfl rfl rfl (ov_buildL rfl lay_63 rfl (us := [_]) rfl) ?_
 refine rl_call callable_46 rfl rfl rfl rfl rfl rfl (core_any sortRows_all (some ⟨b12, 0, none⟩) 2 2 (fun _ => 1) sE _ (by decide) sOk hRT) (fun e10 w11 hp12 => ?_)
 obtain ⟨ob, o, t, rfl, hOc, hC⟩ := hp12
 refine ⟨_, rfl, ?_⟩
 have hO13 := hO8.join hOc
 have ho := s_core hC
 refine rl_v rfl rfl rfl (ov_move rfl rfl) <| rl_v rfl rfl rfl (ov_extract rfl rfl (by rfl)) ?_
 refine rl_v rfl rfl rfl (ov_extract rfl rfl (by rfl)) ?_
 refine rl_v rfl rfl rfl (ov_assign rfl rfl) <| rl_v rfl rfl rfl (ov_assign rfl rfl) <| rl_nil <| run_seq <| run_region <| rl_ow rfl (ow_build1 [_, _] rfl rfl rfl rfl rfl Tryz.underlying65 info_2 (by decide) hO13 rfl rfl) ?_
 rintro _ w14 ⟨b18, rfl, hO15, hs16⟩
 refine rl_ow rfl (ow_build1 [_, _] rfl rfl rfl rfl rfl Tryz.underlying65 info_2 (by decide) hO15 rfl rfl) ?_
 rintro _ w17 ⟨b19, rfl, hO18, hs19⟩
 refine rl_ow rfl (ow_build1 [_, _] rfl rfl rfl rfl rfl Tryz.underlying64 info_65 (by decide) hO18 rfl rfl) ?_
 rintro _ w20 ⟨b20, rfl, hO21, hs22⟩
 have hIT : ITab w20.heap.size w20 (some ⟨b20, 0, none⟩) 2 (fun _ => 2) (fun r c => .int .i64 (sD r c)) := by
  refine ⟨fun r => if r = 0 then some ⟨b18, 0, none⟩ else some ⟨b19, 0, none⟩, fun _ => 2, (hO21.readsT 0 rfl 2 (Nat.le_refl _)).congr (i01 rfl rfl), i01 ?_ ?_⟩
  ·exact (hO21.readsT 2 rfl 2 (Nat.le_refl _)).congr (i01 rfl rfl)
  ·exact (hO21.readsT 1 rfl 2 (Nat.le_refl _)).congr (i01 rfl rfl)
 refine rl_call callable_34 rfl rfl rfl rfl rfl rfl (cancel_any (some ⟨b20, 0, none⟩) 2 2 sD _ sV hIT) (fun e23 w24 hp25 => ?_)
 obtain ⟨v, x, H, rk, rfl, hT, hOd, hCi, _, hB⟩ := hp25
 refine ⟨_, rfl, ?_⟩
 have hO26 := hO21.join hOd
 rw [s_net hCi hB]
 have hOr := hO26.sub (List.sublist_append_right H _)
 refine rl_v rfl rfl rfl (ov_move rfl rfl) <| rl_v rfl rfl rfl (ov_extract rfl rfl (by rfl)) ?_
 refine rl_v rfl rfl rfl (ov_extract rfl rfl (by rfl)) ?_
 refine rl_v rfl rfl rfl (ov_extract rfl rfl (by rfl)) ?_
 refine rl_v rfl rfl rfl (ov_assign rfl rfl) <| rl_v rfl rfl rfl (ov_assign rfl rfl) <| rl_v rfl rfl rfl (ov_assign rfl rfl) <| rl_nil <| run_seq <| run_region <| rl_v rfl rfl rfl (ov_buildL rfl lay_104 rfl (us := [_, _, _, _]) rfl) <| rl_ow rfl (ow_build [_] rfl rfl rfl rfl rfl Tryz.underlying105 info_104 (by decide) hOr rfl rfl) ?_
 rintro _ w27 ⟨b27, rfl, hO28, hs29⟩
 have hS : SAt w27.heap.size w27 (some ⟨b27, 0, none⟩) 4 1 (ldF sL1) := by
  have h : SAt w27.heap.size w27 (some ⟨b27, 0, none⟩) 4 1 (fun i => [[iv 0, iv 1, iv 1, iv 4]].getD i.toNat []) := hO28.reads 0 rfl (1 * 4) (Nat.le_refl _)
  refine h.congrT fun i i0 i1 => ?_
  have : i = 0 := by omega
  subst this; rfl
 refine rl_call callable_57 rfl rfl rfl rfl rfl rfl (Best_any (some ⟨b27, 0, none⟩) 1 sL1 1 _ (by decide) (fun _ => by decide) sI64 hS) (fun e30 w31 hp32 => ?_)
 obtain ⟨ba, bn, bc, Y, s, cb, rfl, hrb, hy, _, hOe⟩ := hp32
 refine ⟨_, rfl, ?_⟩
 have hO33 := hO28.join hOe
 rw [sLe]
 obtain ⟨Z, hZ, hRi, hmem, hbn, hs⟩ := hy sLe
 obtain ⟨e1, e2⟩ := s_dry hZ hRi hmem hbn
 rw [e2] at hs
 subst hs
 subst e1
 refine rl_v rfl rfl rfl (ov_move rfl rfl) <| rl_v rfl rfl rfl (ov_extract rfl rfl (by rfl)) ?_
 refine rl_v rfl rfl rfl (ov_extract rfl rfl (by rfl)) ?_
 refine rl_v rfl rfl rfl (ov_extract rfl rfl (by rfl)) ?_
 refine rl_v rfl rfl rfl (ov_assign rfl rfl) <| rl_v rfl rfl rfl (ov_assign rfl rfl) <| rl_v rfl rfl rfl (ov_assign rfl rfl) <| rl_nil <| run_seq <| run_region <| rl_v rfl rfl rfl (ov_move rfl rfl) <| rl_v rfl rfl rfl (ov_eql rfl rfl rfl) <| rl_v rfl rfl rfl (ov_move rfl rfl) ?_
 first | refine rl_yesD 34 rfl (rfl) ?_ | refine rl_yes 34 rfl (rfl) ?_
 refine rl_gv rfl rfl rfl rfl rfl (ov_move rfl rfl) <| rl_gv rfl rfl rfl rfl rfl (ov_eql rfl rfl rfl) <| rl_v rfl rfl rfl (ov_pick_t rfl rfl rfl) <| rl_v rfl rfl rfl (ov_move rfl rfl) ?_
 first | refine rl_yesD 38 rfl (rfl) ?_ | refine rl_yes 38 rfl (rfl) ?_
 refine rl_gv rfl rfl rfl rfl rfl (ov_move rfl rfl) <| rl_gv rfl rfl rfl rfl rfl (ov_eql rfl rfl rfl) <| rl_v rfl rfl rfl (ov_pick_t rfl rfl rfl) <| rl_v rfl rfl rfl (ov_move rfl rfl) ?_
 first | refine rl_yesD 42 rfl (rfl) ?_ | refine rl_yes 42 rfl (rfl) ?_
 refine rl_gv rfl rfl rfl rfl rfl (ov_move rfl rfl) <| rl_gv rfl rfl rfl rfl rfl (ov_len rfl Tryz.underlying23 rfl) <| rl_gv rfl rfl rfl rfl rfl (ov_eql rfl rfl rfl) <| rl_v rfl rfl rfl (ov_pick_t rfl rfl rfl) <| rl_v rfl rfl rfl (ov_move rfl rfl) ?_
 first | refine rl_yesD 47 rfl (rfl) ?_ | refine rl_yes 47 rfl (rfl) ?_
 refine rl_gv rfl rfl rfl rfl rfl (ov_move rfl rfl) <| rl_gv rfl rfl rfl rfl rfl (ov_index1 rfl Tryz.underlying23 (by kernel_rfl) rfl rfl ⟨by omega, by omega⟩ rfl) ?_
 refine rl_gv rfl rfl rfl rfl rfl (ov_load rfl Tryz.underlying3 rfl rfl (by exact (hO33.cellI 5 rfl 0 (by decide) (by decide)).trans (by rw [ho]))) ?_
 refine rl_gv rfl rfl rfl rfl rfl (ov_eql rfl rfl rfl) <| rl_v rfl rfl rfl (ov_pick_t rfl rfl rfl) <| rl_v rfl rfl rfl (ov_move rfl rfl) ?_
 first | refine rl_yesD 53 rfl (rfl) ?_ | refine rl_yes 53 rfl (rfl) ?_
 refine rl_gv rfl rfl rfl rfl rfl (ov_move rfl rfl) <| rl_gv rfl rfl rfl rfl rfl (ov_eql rfl rfl rfl) <| rl_v rfl rfl rfl (ov_pick_t rfl rfl rfl) <| rl_v rfl rfl rfl (ov_move rfl rfl) ?_
 first | refine rl_yesD 57 rfl (rfl) ?_ | refine rl_yes 57 rfl (rfl) ?_
 refine rl_gv rfl rfl rfl rfl rfl (ov_move rfl rfl) <| rl_gv rfl rfl rfl rfl rfl (ov_len rfl Tryz.underlying23 rfl) <| rl_gv rfl rfl rfl rfl rfl (ov_eql rfl rfl rfl) <| rl_v rfl rfl rfl (ov_pick_t rfl rfl rfl) <| rl_v rfl rfl rfl (ov_move rfl rfl) ?_
 first | refine rl_yesD 62 rfl (rfl) ?_ | refine rl_yes 62 rfl (rfl) ?_
 refine rl_gv rfl rfl rfl rfl rfl (ov_move rfl rfl) <| rl_gv rfl rfl rfl rfl rfl (ov_eql rfl rfl rfl) <| rl_v rfl rfl rfl (ov_pick_t rfl rfl rfl) <| rl_v rfl rfl rfl (ov_assign rfl rfl) <| rl_nil <| run_ret Tryz.func31 (res1 Tryz.results31 rfl) ?_
 exact ⟨rfl, hO33.below⟩
end Go.Proofs.YtlldeifbfpmbaaaGreat
set_option maxRecDepth 100000
namespace Go.Proofs.YtlldeifbfpmbaaaGreat
open Go.RowKit Go.Proofs
namespace Fair
structure Cut (f : Fair) (l : Int → Int) (q : Int) (bl : Int → Nat) : Prop where
 le : ∀ b : Int, 0 ≤ b → b < f.m → bl b ≤ f.bl b
 by_ : ∀ b i : Int, 0 ≤ b → b < f.m → 0 ≤ i → i < q → f.rg i b < f.rg i (l i) → f.rb b i < f.bl b → bl b ≤ f.rb b i
 ex : ∀ b : Int, 0 ≤ b → b < f.m → bl b = f.bl b ∨ ∃ i : Int, (0 ≤ i ∧ i < q) ∧ f.rg i b < f.rg i (l i) ∧ f.rb b i < f.bl b ∧ (bl b : Int) = f.rb b i
def cut (f : Fair) (l : Int → Int) (q : Int) (bl : Int → Nat) : Fair :=
 ⟨f.n, f.m, fun g => if g < q then (if l g < 0 then 0 else 1) else f.gl g, fun g k => if g < q then l g else f.ge g k, bl, f.be, f.q⟩
section
variable {f : Fair} {l : Int → Int} {q : Int} {bl : Int → Nat}
theorem cut_gl_lo {g : Int} (h : g < q) : (f.cut l q bl).gl g = if l g < 0 then 0 else 1 := if_pos h
theorem cut_gl_hi {g : Int} (h : ¬ g < q) : (f.cut l q bl).gl g = f.gl g := if_neg h
theorem cut_ge_hi {g : Int} (h : ¬ g < q) : (f.cut l q bl).ge g = f.ge g := funext fun _ => if_neg h
theorem cut_rg_hi {g b : Int} (h : ¬ g < q) : (f.cut l q bl).rg g b = f.rg g b := by
 unfold rg
 rw [cut_gl_hi h, cut_ge_hi h]
theorem cut_rg_lo {g b : Int} (h : g < q) : (f.cut l q bl).rg g b < (f.cut l q bl).gl g ↔ 0 ≤ l g ∧ b = l g := by
 have hr := rk_rng ((f.cut l q bl).ge g) b ((f.cut l q bl).gl g)
 unfold rg
 constructor
 ·intro h1
  have h2 := rk_at h1
  have h3 : (f.cut l q bl).ge g (rk ((f.cut l q bl).ge g) ((f.cut l q bl).gl g) b) = l g := if_pos h
  rw [cut_gl_lo h] at h1 hr
  by_cases c : l g < 0
  ·rw [if_pos c] at h1 hr; omega
  ·exact ⟨by omega, h2.symm.trans h3⟩
 ·rintro ⟨h1, h2⟩
  have e : (f.cut l q bl).gl g = 1 := by rw [cut_gl_lo h, if_neg (by omega)]
  refine Classical.byContradiction fun hn => ?_
  have h3 := rk_ne (f := (f.cut l q bl).ge g) (x := b) (n := (f.cut l q bl).gl g) (k := 0) (Int.le_refl _) (by rw [e] at hn hr ⊢; omega)
  exact h3 ((if_pos h : (f.cut l q bl).ge g 0 = l g).trans h2.symm)
theorem rk_short {X : Int → Int} {a b : Nat} (hab : a ≤ b) {x : Int} : (rk X a x < a ↔ rk X b x < a) ∧ (rk X b x < a → rk X a x = rk X b x) := by
 have h1 := rk_rng X x a
 have h2 := rk_rng X x b
 have key : rk X b x < a → rk X a x = rk X b x := fun h => by
  rcases Int.lt_trichotomy (rk X a x) (rk X b x) with c | c | c
  ·exact absurd (rk_at (by omega)) (rk_ne (n := b) h1.1 c)
  ·exact c
  ·exact absurd (rk_at (f := X) (n := b) (x := x) (by omega)) (rk_ne (n := a) h2.1 c)
 refine ⟨⟨fun h => ?_, fun h => by rw [key h]; exact h⟩, key⟩
 exact Classical.byContradiction fun hn => rk_ne (f := X) (n := b) (x := x) h1.1 (by omega) (rk_at h)
theorem cut_rb (hc : f.Cut l q bl) {b g : Int} (b0 : 0 ≤ b) (b1 : b < f.m) : ((f.cut l q bl).rb b g < bl b ↔ f.rb b g < bl b) ∧ (f.rb b g < bl b → (f.cut l q bl).rb b g = f.rb b g) :=
 rk_short (hc.le b b0 b1)
theorem cut_ok (hf : f.Ok) (hc : f.Cut l q bl) (hl : ∀ i : Int, 0 ≤ i → i < q → l i < f.m) : (f.cut l q bl).Ok := by
 refine ⟨fun g k g0 g1 k0 k1 => ?_, fun g g0 g1 a b a0 a1 b0 b1 e => ?_, fun b k b0 b1 k0 k1 => hf.br b k b0 b1 k0 (by have := hc.le b b0 b1; change k < (bl b : Int) at k1; omega), fun b b0 b1 x y x0 x1 y0 y1 e => ?_, hf.q0⟩
 ·by_cases c : g < q
  ·rw [cut_gl_lo c] at k1
   show 0 ≤ (if g < q then l g else f.ge g k) ∧ (if g < q then l g else f.ge g k) < f.m
   rw [if_pos c]
   by_cases c2 : l g < 0
   ·rw [if_pos c2] at k1; omega
   ·exact ⟨by omega, hl g g0 c⟩
  ·rw [cut_gl_hi c] at k1
   rw [cut_ge_hi c]
   exact hf.gr g k g0 g1 k0 k1
 ·by_cases c : g < q
  ·rw [cut_gl_lo c] at a1 b1
   by_cases c2 : l g < 0
   ·rw [if_pos c2] at a1; omega
   ·rw [if_neg c2] at a1 b1; omega
  ·rw [cut_gl_hi c] at a1 b1
   rw [cut_ge_hi c] at e
   exact hf.gd g g0 g1 a b a0 a1 b0 b1 e
 ·have := hc.le b b0 b1
  change x < (bl b : Int) at x1
  change y < (bl b : Int) at y1
  exact hf.bd b b0 b1 x y x0 (by omega) y0 (by omega) e
theorem Cut.full (hc : f.Cut l q bl) {s : Int → Int} (hs : f.Stab s) (hsl : ∀ i : Int, 0 ≤ i → i < q → s i = l i) (hq : q ≤ f.n) {b i : Int} (b0 : 0 ≤ b) (b1 : b < f.m) (i0 : 0 ≤ i) (i1 : i < q) (h1 : f.rg i b < f.rg i (l i)) (h2 : f.rb b i < f.bl b) : f.q b ≤ f.cnt s b ∧ ∀ j : Int, 0 ≤ j → j < f.n → s j = b → f.rb b j ≤ f.rb b i := by
 have hr := rk_rng (f.ge i) (l i) (f.gl i)
 change 0 ≤ f.rg i (l i) ∧ f.rg i (l i) ≤ f.gl i at hr
 have hsi := hsl i i0 i1
 have hnb := hs.none i b i0 (by omega) b0 b1
 have hbl : ¬ (f.cnt s b < f.q b ∨ ∃ j : Int, (0 ≤ j ∧ j < f.n) ∧ s j = b ∧ f.rb b i < f.rb b j) := fun h => hnb ⟨fun e => by rw [hsi] at e; rw [e] at h1; omega, ⟨by omega, h2⟩, fun ⟨_, h⟩ => by rw [hsi] at h; omega, h⟩
 refine ⟨Int.not_lt.1 fun h => hbl (.inl h), fun j j0 j1 e => Int.not_lt.1 fun h => hbl (.inr ⟨j, ⟨j0, j1⟩, e, h⟩)⟩
theorem cut_stab (hc : f.Cut l q bl) {s : Int → Int} (hs : f.Stab s) (hsl : ∀ i : Int, 0 ≤ i → i < q → s i = l i) (hq : q ≤ f.n) : (f.cut l q bl).Stab s := by
 have hkn : ∀ g : Int, 0 ≤ g → g < f.n → s g ≠ -1 → (0 ≤ s g ∧ s g < f.m) ∧ (f.cut l q bl).know g (s g) := fun g g0 g1 hne => by
  rcases hs.poss.at_ g g0 g1 with e | ⟨hr, hk⟩
  ·exact absurd e hne
  ·refine ⟨hr, ?_, ?_⟩
   ·by_cases c : g < q
    ·exact (cut_rg_lo c).2 ⟨by rw [← hsl g g0 c]; exact hr.1, hsl g g0 c⟩
    ·rw [cut_rg_hi c, cut_gl_hi c]; exact hk.1
   ·refine (cut_rb hc hr.1 hr.2).1.2 (Classical.byContradiction fun hn => ?_)
    rcases hc.ex (s g) hr.1 hr.2 with e | ⟨i, hi, h1, h2, h3⟩
    ·have := hk.2; omega
    ·have h4 := (hc.full hs hsl hq hr.1 hr.2 hi.1 hi.2 h1 h2).2 g g0 g1 rfl
     have h5 : f.rb (s g) i = f.rb (s g) g := by omega
     have h6 := rb_inj h2 h5
     rw [h6, ← hsl g (by omega) (by omega)] at h1
     omega
 refine ⟨⟨fun g g0 g1 => ?_, hs.poss.cnt⟩, fun g b g0 g1 b0 b1 hB => ?_⟩
 ·by_cases e : s g = -1
  ·exact .inl e
  ·exact .inr (hkn g g0 g1 e)
 ·obtain ⟨h1, h2, h3, h4⟩ := hB
  by_cases c : g < q
  ·exact h1 ((hsl g g0 c).trans ((cut_rg_lo c).1 h2.1).2.symm)
  ·have hrb := (cut_rb hc b0 b1).1.1 h2.2
   refine hs.none g b g0 g1 b0 b1 ⟨h1, ⟨by have := h2.1; rw [cut_rg_hi c, cut_gl_hi c] at this; exact this, by have := hc.le b b0 b1; omega⟩, fun ⟨p1, p2⟩ => h3 ⟨p1, by rw [cut_rg_hi c, cut_rg_hi c]; exact p2⟩, ?_⟩
   rcases h4 with h4 | ⟨i, hi, e, h5⟩
   ·exact .inl h4
   ·refine .inr ⟨i, hi, e, ?_⟩
    have hki := (hkn i hi.1 hi.2 (by omega)).2.2
    rw [e] at hki
    have hki2 := (cut_rb hc b0 b1).1.1 hki
    rw [(cut_rb hc b0 b1).2 hrb, (cut_rb hc b0 b1).2 hki2] at h5
    exact h5
theorem cut_best (hf : f.Ok) (hc : f.Cut l q bl) {s o : Int → Int} (hs : f.Stab s) (hsl : ∀ i : Int, 0 ≤ i → i < q → s i = l i) (hq : q ≤ f.n) (ho : (f.cut l q bl).Best o) : (∀ i : Int, 0 ≤ i → i < q → o i = l i) ∧ f.Stab o := by
 have hsh := ho.share (cut_stab hc hs hsl hq)
 have hol : ∀ i : Int, 0 ≤ i → i < q → o i = l i := fun i i0 i1 => by
  rcases ho.stab.poss.at_ i i0 (show i < f.n by omega) with e | ⟨_, hk⟩
  ·rw [e, ← hsl i i0 i1, (hsh.who i i0 (show i < f.n by omega)).1 e]
  ·exact ((cut_rg_lo i1).1 hk.1).2
 have hkn : ∀ g : Int, 0 ≤ g → g < f.n → o g ≠ -1 → (0 ≤ o g ∧ o g < f.m) ∧ f.know g (o g) ∧ f.rb (o g) g < bl (o g) := fun g g0 g1 hne => by
  rcases ho.stab.poss.at_ g g0 g1 with e | ⟨hr, hk⟩
  ·exact absurd e hne
  ·have h2 := (cut_rb hc hr.1 hr.2).1.1 hk.2
   refine ⟨hr, ⟨?_, by have := hc.le _ hr.1 hr.2; omega⟩, h2⟩
   by_cases c : g < q
   ·have h3 := hol g g0 c
    have h4 := hsl g g0 c
    rcases hs.poss.at_ g g0 g1 with e | ⟨_, hks⟩
    ·omega
    ·rw [h3, ← h4]; exact hks.1
   ·have := hk.1
    rw [cut_rg_hi c, cut_gl_hi c] at this
    exact this
 have hfull : ∀ b g : Int, 0 ≤ b → b < f.m → (bl b : Int) ≤ f.rb b g → f.rb b g < f.bl b → f.q b ≤ f.cnt o b := fun b g b0 b1 h1 h2 => by
  rcases hc.ex b b0 b1 with e | ⟨i, hi, h3, h4, h5⟩
  ·omega
  ·have h6 := (hc.full hs hsl hq b0 b1 hi.1 hi.2 h3 h4).1
   rw [show f.cnt o b = f.cnt s b from hsh.cnt b b0 b1]
   exact h6
 refine ⟨hol, ⟨⟨fun g g0 g1 => ?_, fun b b0 b1 => ho.stab.poss.cnt b b0 b1⟩, fun g b g0 g1 b0 b1 hB => ?_⟩⟩
 ·by_cases e : o g = -1
  ·exact .inl e
  ·exact .inr ⟨(hkn g g0 g1 e).1, (hkn g g0 g1 e).2.1⟩
 ·obtain ⟨h1, h2, h3, h4⟩ := hB
  have hcutg : (bl b : Int) ≤ f.rb b g → False := fun hle => by
   rcases h4 with h4 | ⟨i, hi, e, h5⟩
   ·have := hfull b g b0 b1 hle h2.2; omega
   ·have := (hkn i hi.1 hi.2 (by omega)).2.2
    rw [e] at this
    omega
  by_cases c : g < q
  ·have hog := hol g g0 c
   have hlt : f.rg g b < f.rg g (l g) := by
    by_cases e : 0 ≤ l g
    ·have h5 : ¬ f.rg g (l g) < f.rg g b := fun h => h3 ⟨by rw [hog]; exact e, by rw [hog]; exact h⟩
     refine Classical.byContradiction fun hn => ?_
     have h6 : f.rg g b = f.rg g (l g) := by omega
     exact h1 (by rw [hog]; exact (rg_inj h2.1 h6).symm)
    ·have h5 : f.rg g (l g) = f.gl g := by
      have hr := rk_rng (f.ge g) (l g) (f.gl g)
      refine Classical.byContradiction fun hn => ?_
      have h6 := rk_at (f := f.ge g) (n := f.gl g) (x := l g) (by unfold rg at hn; omega)
      have h7 := hf.gr g (rk (f.ge g) (f.gl g) (l g)) g0 g1 hr.1 (by unfold rg at hn; omega)
      omega
     rw [h5]; exact h2.1
   exact hcutg (hc.by_ b g b0 b1 g0 c hlt h2.2)
  ·by_cases c2 : f.rb b g < bl b
   ·refine ho.stab.none g b g0 g1 b0 b1 ⟨h1, ⟨by rw [cut_rg_hi c, cut_gl_hi c]; exact h2.1, (cut_rb hc b0 b1).1.2 c2⟩, fun ⟨p1, p2⟩ => h3 ⟨p1, by rw [cut_rg_hi c, cut_rg_hi c] at p2; exact p2⟩, ?_⟩
    rcases h4 with h4 | ⟨i, hi, e, h5⟩
    ·exact .inl h4
    ·refine .inr ⟨i, hi, e, ?_⟩
     have hki := (hkn i hi.1 hi.2 (by omega)).2.2
     rw [e] at hki
     rw [(cut_rb hc b0 b1).2 c2, (cut_rb hc b0 b1).2 hki]
     exact h5
   ·exact hcutg (by omega)
end
end Fair
end Go.Proofs.YtlldeifbfpmbaaaGreat
set_option maxRecDepth 100000
namespace Go.Proofs.YtlldeifbfpmbaaaGreat
open Go.RowKit Go.Proofs Go.MapKept
def RdR (T : List (Option Blk)) (v : Value) (n : Nat) (E : Int → Int) : Prop := ∃ (ao : Option Addr) (c : Nat), v = .slice ao n c ∧ n ≤ c ∧ ∀ (B : Nat) (w0 w : World), Own B w0 w T → IAt w.heap.size w ao n (fun j => iv (E j))
theorem RdR.cons {T : List (Option Blk)} {v : Value} {n : Nat} {E : Int → Int} (h : RdR T v n E) (c : Option Blk) : RdR (c :: T) v n E := by
 obtain ⟨ao, cp, h1, h2, h3⟩ := h
 exact ⟨ao, cp, h1, h2, fun B w0 w hO => h3 B w0 w hO.tail⟩
end Go.Proofs.YtlldeifbfpmbaaaGreat
set_option maxRecDepth 100000
namespace Go.Proofs.YtlldeifbfpmbaaaGreat
open Go.RowKit Go.Proofs Go.MapKept
theorem IRow.cellA {ao : Option Addr} {m cap b : Nat} {E : TypeId} {n : Nat} {G : Int → Value} {c : Option Blk} {B : Nat} {w0 w : World} {H : List (Option Blk)} (h : IRow (.slice ao m cap) E n G c) (ho : Own B w0 w H) (k : Nat) (hk : H[k]? = some c) (ha : ao = some ⟨b, 0, none⟩) {i : Int} (i0 : 0 ≤ i) (i1 : i < n) : w.cell? ⟨b, 0 + i.toNat, none⟩ = some (G i) := by
 obtain ⟨b', e, r⟩ := h.openS ho k hk
 have := e (by omega)
 rw [ha] at this
 cases this
 exact r i i0 i1
end Go.Proofs.YtlldeifbfpmbaaaGreat
