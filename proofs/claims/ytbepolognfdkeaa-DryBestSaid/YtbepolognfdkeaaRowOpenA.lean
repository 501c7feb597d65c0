import Derived.Test.YtbepolognfdkeaaGcI
import Derived.Test.YtbepolognfdkeaaEff
import Derived.Test.YtbepolognfdkeaaTab
import Derived.Test.YtbepolognfdkeaaChecked
import Derived.Test.YtbepolognfdkeaaRows
import Derived.ProofKit
import Derived.SizedLaws
import Derived.Deep.Modes
import Derived.Deep.Frames
import Derived.Deep.Matrix
import Derived.Carry
import Derived.Lib.SmallJoins
set_option maxRecDepth 100000
namespace Go.Proofs.Ytbepolognfdkeaa
open Go.RowKit Go.Proofs Go.MapKept
theorem rise_len {n m : Nat} {X Y : Int → Int} (hX : Rise n X) (hY : Rise m Y) (h : ∀ i : Int, (∃ j : Int, (0 ≤ j ∧ j < n) ∧ X j = i) → ∃ j : Int, (0 ≤ j ∧ j < m) ∧ Y j = i) : n ≤ m := by
 have hex : ∀ j : Int, ∃ a : Int, 0 ≤ j → j < n → (0 ≤ a ∧ a < m) ∧ Y a = X j := fun j => by
  by_cases c : 0 ≤ j ∧ j < n
  ·obtain ⟨a, ha, e⟩ := h (X j) ⟨j, c, rfl⟩
   exact ⟨a, fun _ _ => ⟨ha, e⟩⟩
  ·exact ⟨0, fun a b => absurd ⟨a, b⟩ c⟩
 refine pigeonG (e := fun j => Classical.choose (hex j)) (fun j j0 j1 => (Classical.choose_spec (hex j) j0 j1).1) (fun a b a0 a1 b0 b1 e => ?_)
 have h1 := (Classical.choose_spec (hex a) a0 a1).2
 have h2 := (Classical.choose_spec (hex b) b0 b1).2
 have e' : Classical.choose (hex a) = Classical.choose (hex b) := e
 rw [e'] at h1
 have h3 : X a = X b := h1.symm.trans h2
 rcases Int.lt_trichotomy a b with d | d | d
 ·have := hX.inc a b a0 d b1; omega
 ·exact d
 ·have := hX.inc b a b0 d a1; omega
theorem rise_uniq {n m : Nat} {X Y : Int → Int} (hX : Rise n X) (hY : Rise m Y) (h : ∀ i : Int, (∃ j : Int, (0 ≤ j ∧ j < n) ∧ X j = i) ↔ ∃ j : Int, (0 ≤ j ∧ j < m) ∧ Y j = i) : n = m ∧ ∀ j : Int, 0 ≤ j → j < n → X j = Y j := by
 have hnm : n = m := Nat.le_antisymm (rise_len hX hY fun i => (h i).1) (rise_len hY hX fun i => (h i).2)
 subst hnm
 refine ⟨rfl, ?_⟩
 have key : ∀ q : Nat, ∀ j : Int, 0 ≤ j → j < q → j < n → X j = Y j := by
  intro q
  induction q with
  | zero => intro j j0 j1 _; omega
  | succ q ih =>
   intro j j0 j1 j2
   by_cases c : j < q
   ·exact ih j j0 c j2
   ·have hjq : j = q := by omega
    obtain ⟨a, ha, ea⟩ := (h (X j)).1 ⟨j, ⟨j0, j2⟩, rfl⟩
    obtain ⟨b, hb, eb⟩ := (h (Y j)).2 ⟨j, ⟨j0, j2⟩, rfl⟩
    have h1 : j ≤ a := Classical.byContradiction fun hn => by
     have e := ih a ha.1 (by omega) ha.2
     have := hX.inc a j ha.1 (by omega) j2
     omega
    have h2 : j ≤ b := Classical.byContradiction fun hn => by
     have e := ih b hb.1 (by omega) hb.2
     have := hY.inc b j hb.1 (by omega) j2
     omega
    have h3 : Y j ≤ Y a := by
     by_cases e : j = a
     ·rw [e]; exact Int.le_refl _
     ·have := hY.inc j a j0 (by omega) ha.2; omega
    have h4 : X j ≤ X b := by
     by_cases e : j = b
     ·rw [e]; exact Int.le_refl _
     ·have := hX.inc j b j0 (by omega) hb.2; omega
    omega
 exact fun j j0 j1 => key n j j0 j1 j1
theorem grd_rng {l : Lds} {k : Int} {Z : Int → Int} (hZ : SrtW l Z) {i : Int} (h : grd l k Z l.n i) : 0 ≤ i ∧ i < l.n := by
 obtain ⟨q, hq, e⟩ := grd_in h
 rw [← e]; exact hZ.rng hq.1 hq.2
theorem Lds.best_ok {l : Lds} {k : Int} (hk : l.chkK k = 0) (hs : l.Short) : l.bestE k = 0 := by unfold Lds.bestE; rw [if_pos hk, if_pos hs]
set_option maxHeartbeats 4000000 in
theorem best7_any (la : Option Addr) (lc : Nat) (l : Lds) (kilns : Int) (w : World) (hc : l.n ≤ lc) (hI : l.I64) (hl : SAt w.heap.size w la 4 l.n (ldF l)) :
  Calls Try.prog 9 #[.slice la l.n lc, iv kilns] w fun e w' => e = .returned (.bool true) ∧ Below w.heap.size w w' := by
 obtain ⟨k, hk⟩ : ∃ k, k = 1 + kilns % 18446744073709551616 % 3 := ⟨_, rfl⟩
 have hm := modsD (x := kilns) (m := 3) ⟨by decide, by decide⟩
 obtain ⟨o, ho⟩ : ∃ o, o = l.own 20 true := ⟨_, rfl⟩
 have hV : o.Valid := ho ▸ l.own_valid 20 true
 have hn : o.n ≤ 20 := ho ▸ l.own_le 20 true
 have hsh : o.Short := ho ▸ l.own_short 20
 have hkk : o.chkK k = 0 := Lds.chkK_ok (by omega) hV (by omega)
 have hkk2 : o.chkK (k + 1) = 0 := Lds.chkK_ok (by omega) hV (by omega)
 obtain ⟨g, hg⟩ : ∃ g, g = l.own 7 true := ⟨_, rfl⟩
 have hVg : g.Valid := hg ▸ l.own_valid 7 true
 have hng : g.n ≤ 7 := hg ▸ l.own_le 7 true
 have hshg : g.Short := hg ▸ l.own_short 7
 have hkg : g.chkK k = 0 := Lds.chkK_ok (by omega) hVg (by omega)
 have hE1 := Lds.best_ok hkk hsh
 have hE2 := Lds.best_ok hkk2 hsh
 have hE3 := Lds.best_ok hkg hshg
 refine calls_of_run (F := [(0, _), (1, _)]) Try.func9 rfl Try.ntmps9 rfl rfl ?_
 have hO0 := Own.init w
 refine run_seq <| run_region <| rl_v rfl rfl rfl (ov_assign rfl rfl) <| rl_nil <| run_seq <| run_region <| rl_v rfl rfl rfl (ov_move rfl rfl) <| rl_v rfl rfl rfl (ov_conv rfl Try.underlying3 Try.underlying33 rfl) <| rl_v rfl rfl rfl (ov_rem rfl rfl rfl (u64_nnD _) (by omega)) ?_
 refine rl_v rfl rfl rfl (ov_convTo (hm.1) rfl Try.underlying33 Try.underlying3 rfl) <| rl_v rfl rfl rfl (ov_add rfl rfl rfl (by omega)) ?_
 refine rl_v rfl rfl rfl (ov_assign rfl rfl) <| rl_nil <| run_seq <| run_region <| rl_v rfl rfl rfl (ov_move rfl rfl) ?_
 refine rl_call callable_13 rfl rfl rfl rfl rfl rfl (own7_any la lc l 20 true _ hc (by decide) hI (hO0.satU hl)) (fun e1 w2 hp3 => ?_)
 obtain ⟨va, vc, c, rfl, hr, hOa⟩ := hp3
 refine ⟨_, rfl, ?_⟩
 have hO4 := hO0.join hOa
 rw [← ho] at hr ⊢
 rw [← hk]
 refine rl_v rfl rfl rfl (ov_assign rfl rfl) <| rl_nil <| run_seq <| run_region <| rl_v rfl rfl rfl (ov_move rfl rfl) ?_
 refine rl_call callable_15 rfl rfl rfl rfl rfl rfl (give7_any va vc o _ (by omega) (hr.reads hO4 0 rfl)) (fun e5 w6 hp7 => ?_)
 obtain ⟨xa, xc, cx, rfl, hx, hOb⟩ := hp7
 refine ⟨_, rfl, ?_⟩
 have hO8 := hO4.join hOb
 refine rl_v rfl rfl rfl (ov_move rfl rfl) ?_
 refine rl_call callable_30 rfl rfl rfl rfl rfl rfl (Best_any xa xc o k _ (by omega) (fun _ => hn) hV.i64 (hx.reads hO8 0 rfl)) (fun e9 w10 hp11 => ?_)
 obtain ⟨ba, bn, bc, Y, s, cb, rfl, hrb, hy1, _, hOc⟩ := hp11
 refine ⟨_, rfl, ?_⟩
 have hO12 := hO8.join hOc
 rw [hE1]
 obtain ⟨Z, hZ, hRi, hmem, hbn, hs⟩ := hy1 hE1
 refine rl_v rfl rfl rfl (ov_move rfl rfl) <| rl_v rfl rfl rfl (ov_extract rfl rfl (by rfl)) ?_
 refine rl_v rfl rfl rfl (ov_extract rfl rfl (by rfl)) ?_
 refine rl_v rfl rfl rfl (ov_extract rfl rfl (by rfl)) ?_
 refine rl_v rfl rfl rfl (ov_assign rfl rfl) <| rl_v rfl rfl rfl (ov_assign rfl rfl) <| rl_v rfl rfl rfl (ov_assign rfl rfl) <| rl_nil <| run_seq <| run_region <| rl_v rfl rfl rfl (ov_move rfl rfl) <| rl_v rfl rfl rfl (ov_move rfl rfl) ?_
 refine rl_call callable_31 rfl rfl rfl rfl rfl rfl (refBest_any va vc o k Z _ (by omega) hV (by omega) hZ (hr.reads hO12 2 rfl)) (fun e13 w14 hp15 => ?_)
 obtain ⟨da, dn, dc, Y2, cd, rfl, hrd, hRi2, hmem2, hOd⟩ := hp15
 refine ⟨_, rfl, ?_⟩
 have hO16 := hO12.join hOd
 rw [← hs]
 obtain ⟨hbd, heq⟩ := rise_uniq hRi hRi2 fun i => (hmem i).trans (Iff.trans ⟨fun h => ⟨grd_rng hZ h, h⟩, And.right⟩ (hmem2 i).symm)
 subst hbd
 refine rl_v rfl rfl rfl (ov_move rfl rfl) <| rl_v rfl rfl rfl (ov_extract rfl rfl (by rfl)) ?_
 refine rl_v rfl rfl rfl (ov_extract rfl rfl (by rfl)) ?_
 refine rl_v rfl rfl rfl (ov_assign rfl rfl) <| rl_v rfl rfl rfl (ov_assign rfl rfl) <| rl_nil <| run_seq <| run_region <| rl_v rfl rfl rfl (ov_move rfl rfl) ?_
 refine rl_call callable_15 rfl rfl rfl rfl rfl rfl (give7_any va vc o _ (by omega) (hr.reads hO16 3 rfl)) (fun e17 w18 hp19 => ?_)
 obtain ⟨xa, xc, cx, rfl, hx, hOb⟩ := hp19
 refine ⟨_, rfl, ?_⟩
 have hO20 := hO16.join hOb
 refine rl_v rfl rfl rfl (ov_move rfl rfl) <| rl_v rfl rfl rfl (ov_add rfl rfl rfl (by omega)) ?_
 refine rl_call callable_30 rfl rfl rfl rfl rfl rfl (Best_any xa xc o (k + 1) _ (by omega) (fun _ => hn) hV.i64 (hx.reads hO20 0 rfl)) (fun e21 w22 hp23 => ?_)
 obtain ⟨ea, en, ec, Y3, s2, ce, rfl, hre, hy2, _, hOe⟩ := hp23
 refine ⟨_, rfl, ?_⟩
 have hO24 := hO20.join hOe
 rw [hE2]
 obtain ⟨Z2, hZ2, _, _, _, hs2⟩ := hy2 hE2
 have hmore : s ≤ s2 := by
  rw [hs, hs2]
  exact grd_best hV (by omega) hZ2 ((grd_can (by omega) o.n).mono (by omega))
 refine rl_v rfl rfl rfl (ov_move rfl rfl) <| rl_v rfl rfl rfl (ov_extract rfl rfl (by rfl)) ?_
 refine rl_v rfl rfl rfl (ov_extract rfl rfl (by rfl)) ?_
 refine rl_v rfl rfl rfl (ov_extract rfl rfl (by rfl)) ?_
 refine rl_v rfl rfl rfl (ov_assign rfl rfl) <| rl_v rfl rfl rfl (ov_assign rfl rfl) <| rl_v rfl rfl rfl (ov_assign rfl rfl) <| rl_nil <| run_seq <| run_seq <| run_region <| rl_v rfl rfl rfl (ov_move rfl rfl) <| rl_v rfl rfl rfl (ov_neq rfl rfl rfl) <| rl_v rfl rfl rfl (ov_move rfl rfl) ?_
 first | refine rl_noD 48 rfl (by decide) ?_ | refine rl_no 48 rfl (by decide) ?_
 refine rl_gv rfl rfl rfl rfl rfl (ov_move rfl rfl) <| rl_gv rfl rfl rfl rfl rfl (ov_neq rfl rfl rfl) <| rl_v rfl rfl rfl (ov_pick_f rfl rfl rfl) <| rl_v rfl rfl rfl (ov_move rfl rfl) ?_
 first | refine rl_noD 52 rfl (by decide) ?_ | refine rl_no 52 rfl (by decide) ?_
 refine rl_gv rfl rfl rfl rfl rfl (ov_move rfl rfl) <| rl_gv rfl rfl rfl rfl rfl (ov_move rfl rfl) ?_
 refine rl_gcall callable_32 rfl rfl rfl rfl rfl rfl rfl rfl (ints7_any ba da bn bc bn dc Y Y2 _ (hrb.reads hO24 3 rfl) (hrd.reads hO24 2 rfl) (by omega) rfl heq) (fun e25 w26 hp27 => ?_)
 obtain ⟨rfl, hOf⟩ := hp27
 refine ⟨_, rfl, ?_⟩
 have hO28 := hO24.join hOf
 refine rl_gv rfl rfl rfl rfl rfl (ov_not rfl rfl) <| rl_v rfl rfl rfl (ov_pick_f rfl rfl rfl) <| rl_v rfl rfl rfl (ov_move rfl rfl) ?_
 first | refine rl_noD 58 rfl (rfl) ?_ | refine rl_no 58 rfl (rfl) ?_
 refine rl_gv rfl rfl rfl rfl rfl (ov_move rfl rfl) <| rl_gv rfl rfl rfl rfl rfl (ov_move rfl rfl) <| rl_gv rfl rfl rfl rfl rfl (ov_neq rfl rfl rfl) <| rl_v rfl rfl rfl (ov_pick_f rfl rfl rfl) <| rl_v rfl rfl rfl (ov_move rfl rfl) ?_
 first | refine rl_noD 63 rfl ((fun h => h rfl)) ?_ | refine rl_no 63 rfl ((fun h => h rfl)) ?_
 refine rl_gv rfl rfl rfl rfl rfl (ov_move rfl rfl) <| rl_gv rfl rfl rfl rfl rfl (ov_move rfl rfl) <| rl_gv rfl rfl rfl rfl rfl (ov_lss rfl rfl rfl) <| rl_v rfl rfl rfl (ov_pick_f rfl rfl rfl) <| rl_nil ?_
 first | refine run_cond_dec rfl (fun c1 => ?_) (fun c1 => ?_) | refine run_cond rfl (fun c1 => ?_) (fun c1 => ?_)
 ·exfalso; omega
 ·refine run_skip <| run_seq <| run_region <| rl_v rfl rfl rfl (ov_move rfl rfl) ?_
  refine rl_call callable_13 rfl rfl rfl rfl rfl rfl (own7_any la lc l 7 true _ hc (by decide) hI (hO28.satU hl)) (fun e29 w30 hp31 => ?_)
  obtain ⟨va, vc, c, rfl, hr, hOa⟩ := hp31
  refine ⟨_, rfl, ?_⟩
  have hO32 := hO28.join hOa
  rw [← hg] at hr ⊢
  refine rl_v rfl rfl rfl (ov_assign rfl rfl) <| rl_nil <| run_seq <| run_region <| rl_v rfl rfl rfl (ov_move rfl rfl) ?_
  refine rl_call callable_15 rfl rfl rfl rfl rfl rfl (give7_any va vc g _ (by omega) (hr.reads hO32 0 rfl)) (fun e33 w34 hp35 => ?_)
  obtain ⟨xa, xc, cx, rfl, hx, hOb⟩ := hp35
  refine ⟨_, rfl, ?_⟩
  have hO36 := hO32.join hOb
  refine rl_v rfl rfl rfl (ov_move rfl rfl) ?_
  refine rl_call callable_30 rfl rfl rfl rfl rfl rfl (Best_any xa xc g k _ (by omega) (fun _ => (by omega : g.n ≤ 20)) hVg.i64 (hx.reads hO36 0 rfl)) (fun e37 w38 hp39 => ?_)
  obtain ⟨ba, bn, bc, Y, s3, cb, rfl, hrb, hy3, _, hOc⟩ := hp39
  refine ⟨_, rfl, ?_⟩
  have hO40 := hO36.join hOc
  rw [hE3]
  obtain ⟨Z3, hZ3, _, _, _, hs3⟩ := hy3 hE3
  refine rl_v rfl rfl rfl (ov_move rfl rfl) <| rl_v rfl rfl rfl (ov_extract rfl rfl (by rfl)) ?_
  refine rl_v rfl rfl rfl (ov_extract rfl rfl (by rfl)) ?_
  refine rl_v rfl rfl rfl (ov_extract rfl rfl (by rfl)) ?_
  refine rl_v rfl rfl rfl (ov_assign rfl rfl) <| rl_v rfl rfl rfl (ov_assign rfl rfl) <| rl_nil <| run_seq <| run_region <| rl_v rfl rfl rfl (ov_move rfl rfl) <| rl_v rfl rfl rfl (ov_eql rfl rfl rfl) <| rl_v rfl rfl rfl (ov_move rfl rfl) ?_
  first | refine rl_yesD 80 rfl (rfl) ?_ | refine rl_yes 80 rfl (rfl) ?_
  refine rl_gv rfl rfl rfl rfl rfl (ov_move rfl rfl) <| rl_gv rfl rfl rfl rfl rfl (ov_move rfl rfl) <| rl_gv rfl rfl rfl rfl rfl (ov_move rfl rfl) ?_
  refine rl_gcall callable_33 rfl rfl rfl rfl rfl rfl rfl rfl (tried7_any va vc g k _ hng hVg (by omega) (hr.reads hO40 2 rfl)) (fun e41 w42 hp43 => ?_)
  obtain ⟨b, rfl, hall, hex, hOg⟩ := hp43
  refine ⟨_, rfl, ?_⟩
  have hO44 := hO40.join hOg
  have hb1 : b ≤ s3 := by
   rcases hex with e | ⟨t, ht, e⟩
   ·rw [e, hs3]
    exact sm_nonneg fun i i0 i1 => Int.mul_nonneg (ind_rng _).1 (by have := hVg i i0 i1; unfold Lds.Val at this; omega)
   ·rw [e, hs3]
    exact grd_best hVg (by omega) hZ3 ht
  have hb2 : s3 ≤ b := by
   obtain ⟨t, ht, hbt⟩ := set_ex (grd g k Z3 g.n) g.n
   have h9 := hall t ht ((grd_can (by omega) g.n).sub fun i i0 i1 h => (hbt i i0 i1).1 h)
   rw [hs3]
   refine Int.le_trans (Int.le_of_eq ?_) h9
   exact sm_congr fun i i0 i1 => by rw [ind_congr (hbt i i0 i1).symm]
  refine rl_gv rfl rfl rfl rfl rfl (ov_eql rfl rfl rfl) <| rl_v rfl rfl rfl (ov_pick_t rfl rfl rfl) <| rl_v rfl rfl rfl (ov_move rfl rfl) ?_
  first | refine rl_yesD 87 rfl (by omega) ?_ | refine rl_yes 87 rfl (by omega) ?_
  refine rl_gcall callable_17 rfl rfl rfl rfl rfl rfl rfl rfl (awake7_any _) (fun e45 w46 hp47 => ?_)
  obtain ⟨rfl, hOh⟩ := hp47
  refine ⟨_, rfl, ?_⟩
  have hO48 := hO44.join hOh
  refine rl_v rfl rfl rfl (ov_pick_t rfl rfl rfl) <| rl_v rfl rfl rfl (ov_assign rfl rfl) <| rl_nil <| run_ret Try.func9 (res1 Try.results9 rfl) ?_
  exact ⟨rfl, hO48.below⟩
end Go.Proofs.Ytbepolognfdkeaa
set_option maxRecDepth 100000
namespace Go.Proofs.Ytbepolognfdkeaa
open Go.Joins Go.ChangeShapes Go.WideShapes Go.ChangeAt Go.RowKit Go.Deep Go.Proofs
theorem Try.own : ownKnob Try.prog.godebug = none := by kernel_rfl
theorem Try.laidOut : laidOutB Try.prog = true := by kernel_rfl
theorem cell_lt {w : World} {b off : Nat} {v : Value} (h : w.cell? ⟨b, off, none⟩ = some v) : b < w.heap.size := by
 by_cases hb : b < w.heap.size
 ·exact hb
 ·have : w.heap[b]? = none := by simp; omega
  simp [World.cell?, this] at h
end Go.Proofs.Ytbepolognfdkeaa
