import Derived.Test.YtbepolognfdkeaaGbU
import Derived.Test.YtbepolognfdkeaaEff
import Derived.Test.YtbepolognfdkeaaTab
import Derived.Test.YtbepolognfdkeaaChecked
import Derived.Test.YtbepolognfdkeaaRows
import Derived.ProofKit
import Derived.SizedLaws
import Derived.Deep.Modes
import Derived.Deep.Frames
import Derived.Deep.Matrix
import Derived.Carry
import Derived.Lib.SmallJoins
set_option maxRecDepth 100000
namespace Go.Proofs.Ytbepolognfdkeaa
open Go.RowKit Go.Proofs Go.MapKept
namespace Lds
noncomputable def own (l : Lds) (most : Nat) (s : Bool) : Lds := (l.tame s).cut (min l.n most)
theorem own_valid (l : Lds) (most : Nat) (s : Bool) : (l.own most s).Valid := fun i i0 i1 => l.tame_valid s i i0 (by have h : i < ((min l.n most : Nat) : Int) := i1; show i < (l.n : Int); omega)
theorem own_le (l : Lds) (most : Nat) (s : Bool) : (l.own most s).n ≤ most := Nat.min_le_right _ _
theorem Valid.i64 {l : Lds} (h : l.Valid) : l.I64 := by
 refine ⟨fun i a b => ?_, fun i a b => ?_, fun i a b => ?_, fun i a b => ?_⟩ <;> (have := h i a b; unfold Val at this; omega)
end Lds
theorem own7_any (la : Option Addr) (lc : Nat) (l : Lds) (most : Nat) (s : Bool) (w : World) (hc : l.n ≤ lc) (hm : most ≤ 1000) (hI : l.I64) (hl : SAt w.heap.size w la 4 l.n (ldF l)) :
  Calls Try.prog 13 #[.slice la l.n lc, iv most, .bool s] w fun e w' => ∃ (va : Option Addr) (vc : Nat) (c : Option Blk), e = .returned (.slice va (l.own most s).n vc) ∧ SRow (.slice va (l.own most s).n vc) 72 4 (l.own most s).n (ldF (l.own most s)) c ∧ Own w.heap.size w w' [c] :=
 tame7_any la lc l most s w hc hm hI hl
end Go.Proofs.Ytbepolognfdkeaa
set_option maxRecDepth 100000
namespace Go.Proofs.Ytbepolognfdkeaa
open Go.RowKit Go.Proofs Go.MapKept
theorem Lds.late_i64 {l : Lds} (h : l.Valid) {D : Int} (hD : 0 ≤ D) (hD2 : D ≤ 900000000) : (l.late D).I64 := by
 refine ⟨fun i a b => ?_, fun i a b => ?_, fun i a b => ?_, fun i a b => ?_⟩ <;> (have := h i a b; unfold Lds.Val at this)
 ·show _ ≤ l.r i ∧ l.r i ≤ _; omega
 ·show _ ≤ l.d i + D ∧ l.d i + D ≤ _; omega
 ·show _ ≤ l.len i ∧ l.len i ≤ _; omega
 ·show _ ≤ l.wo i ∧ l.wo i ≤ _; omega
theorem Lds.late_less {l : Lds} (h : l.Valid) {D E : Int} (hD : (l.late D).Valid) (hE : 0 ≤ E) (hED : E ≤ D) : (l.late E).Valid := fun i a b => by
 have h1 := h i a b
 have h2 := hD i a b
 unfold Lds.Val at h1 h2 ⊢
 have e1 : (l.late D).d i = l.d i + D := rfl
 have e2 : (l.late E).d i = l.d i + E := rfl
 have e3 : (l.late E).r i = l.r i := rfl
 have e4 : (l.late E).len i = l.len i := rfl
 have e5 : (l.late E).wo i = l.wo i := rfl
 rw [e1] at h2
 rw [e2, e3, e4, e5]
 omega
set_option maxHeartbeats 2000000 in
theorem delays7_any (la : Option Addr) (lc : Nat) (l : Lds) (kilns : Int) (w : World) (hc : l.n ≤ lc) (hI : l.I64) (hl : SAt w.heap.size w la 4 l.n (ldF l)) :
  Calls Try.prog 6 #[.slice la l.n lc, iv kilns] w fun e w' => e = .returned (.bool true) ∧ Below w.heap.size w w' := by
 obtain ⟨k, hk⟩ : ∃ k, k = 1 + kilns % 18446744073709551616 % 3 := ⟨_, rfl⟩
 have hm := modsD (x := kilns) (m := 3) ⟨by decide, by decide⟩
 obtain ⟨o, ho⟩ : ∃ o, o = l.own 20 false := ⟨_, rfl⟩
 have hV : o.Valid := ho ▸ l.own_valid 20 false
 have hn : o.n ≤ 20 := ho ▸ l.own_le 20 false
 have hkk : o.chkK k = 0 := Lds.chkK_ok (by omega) hV (by omega)
 refine calls_of_run (F := [(0, _), (1, _)]) Try.func6 rfl Try.ntmps6 rfl rfl ?_
 have hO0 := Own.init w
 refine run_seq <| run_region <| rl_v rfl rfl rfl (ov_assign rfl rfl) <| rl_nil <| run_seq <| run_region <| rl_v rfl rfl rfl (ov_move rfl rfl) ?_
 refine rl_call callable_13 rfl rfl rfl rfl rfl rfl (own7_any la lc l 20 false _ hc (by decide) hI (hO0.satU hl)) (fun e1 w2 hp3 => ?_)
 obtain ⟨va, vc, c, rfl, hr, hOa⟩ := hp3
 refine ⟨_, rfl, ?_⟩
 have hO4 := hO0.join hOa
 rw [← ho] at hr ⊢
 refine rl_v rfl rfl rfl (ov_assign rfl rfl) <| rl_nil <| run_seq <| run_region <| rl_v rfl rfl rfl (ov_move rfl rfl) <| rl_v rfl rfl rfl (ov_conv rfl Try.underlying3 Try.underlying33 rfl) <| rl_v rfl rfl rfl (ov_rem rfl rfl rfl (u64_nnD _) (by omega)) ?_
 refine rl_v rfl rfl rfl (ov_convTo (hm.1) rfl Try.underlying33 Try.underlying3 rfl) <| rl_v rfl rfl rfl (ov_add rfl rfl rfl (by omega)) ?_
 refine rl_v rfl rfl rfl (ov_assign rfl rfl) <| rl_nil <| run_seq <| run_region <| rl_v rfl rfl rfl (ov_move rfl rfl) ?_
 refine rl_call callable_15 rfl rfl rfl rfl rfl rfl (give7_any va vc o _ (by omega) (hr.reads hO4 0 rfl)) (fun e5 w6 hp7 => ?_)
 obtain ⟨xa, xc, cx, rfl, hx, hOc⟩ := hp7
 refine ⟨_, rfl, ?_⟩
 have hO8 := hO4.join hOc
 rw [← hk]
 refine rl_v rfl rfl rfl (ov_move rfl rfl) ?_
 refine rl_call callable_21 rfl rfl rfl rfl rfl rfl (Delay_any xa xc o k _ (by omega) hV.i64 (hx.reads hO8 0 rfl)) (fun e9 w10 hp11 => ?_)
 obtain ⟨d, rfl, hK, hOd⟩ := hp11
 refine ⟨_, rfl, ?_⟩
 have hO12 := hO8.join hOd
 rw [hkk]
 obtain ⟨d0, d1, hcan, hless⟩ := hK.yes hkk
 refine rl_v rfl rfl rfl (ov_move rfl rfl) <| rl_v rfl rfl rfl (ov_extract rfl rfl (by rfl)) ?_
 refine rl_v rfl rfl rfl (ov_extract rfl rfl (by rfl)) ?_
 refine rl_v rfl rfl rfl (ov_assign rfl rfl) <| rl_v rfl rfl rfl (ov_assign rfl rfl) <| rl_nil <| run_seq <| run_seq <| run_region <| rl_v rfl rfl rfl (ov_move rfl rfl) <| rl_v rfl rfl rfl (ov_neq rfl rfl rfl) <| rl_v rfl rfl rfl (ov_move rfl rfl) ?_
 first | refine rl_noD 29 rfl (by decide) ?_ | refine rl_no 29 rfl (by decide) ?_
 refine rl_gv rfl rfl rfl rfl rfl (ov_move rfl rfl) <| rl_gv rfl rfl rfl rfl rfl (ov_lss rfl rfl rfl) <| rl_v rfl rfl rfl (ov_pick_f rfl rfl rfl) <| rl_nil ?_
 first | refine run_cond_dec rfl (fun c1 => ?_) (fun c1 => ?_) | refine run_cond rfl (fun c1 => ?_) (fun c1 => ?_)
 ·exfalso; omega
 ·have hadd : ∀ E : Int, 0 ≤ E → E ≤ d → ∀ i : Int, 0 ≤ i → i < o.n → -9223372036854775808 ≤ o.d i + E ∧ o.d i + E ≤ 9223372036854775807 := fun E e0 e1 i i0 i1 => by have := hV i i0 i1; unfold Lds.Val at this; omega
  refine run_skip <| run_seq <| run_seq <| run_region <| rl_v rfl rfl rfl (ov_move rfl rfl) <| rl_v rfl rfl rfl (ov_move rfl rfl) ?_
  refine rl_call callable_23 rfl rfl rfl rfl rfl rfl (later7_any va vc o d _ (by omega) (hadd d d0 (Int.le_refl _)) (hr.reads hO12 1 rfl)) (fun e13 w14 hp15 => ?_)
  obtain ⟨ya, yc, cy, rfl, hy, hOe⟩ := hp15
  refine ⟨_, rfl, ?_⟩
  have hO16 := hO12.join hOe
  refine rl_call callable_22 rfl rfl rfl rfl rfl rfl (refCheck7_any ya yc (o.late d) _ (show o.n ≤ 100000 by omega) (Lds.late_i64 hV d0 d1) (hy.reads hO16 0 rfl)) (fun e17 w18 hp19 => ?_)
  obtain ⟨rfl, hOf⟩ := hp19
  refine ⟨_, rfl, ?_⟩
  have hO20 := hO16.join hOf
  refine rl_v rfl rfl rfl (ov_neq rfl rfl rfl) <| rl_nil ?_
  first | refine run_cond_dec rfl (fun c2 => ?_) (fun c2 => ?_) | refine run_cond rfl (fun c2 => ?_) (fun c2 => ?_)
  ·refine run_seq <| run_region ?_
   refine rl_call callable_17 rfl rfl rfl rfl rfl rfl (awake7_any _) (fun e21 w22 hp23 => ?_)
   obtain ⟨rfl, hOg⟩ := hp23
   refine ⟨_, rfl, ?_⟩
   have hO24 := hO20.join hOg
   refine rl_v rfl rfl rfl (ov_assign rfl rfl) <| rl_nil <| run_ret Try.func6 (res1 Try.results6 rfl) ?_
   exact ⟨rfl, hO24.below⟩
  ·have hV2 := (Lds.of_chk (Classical.not_not.1 c2)).2
   refine run_skip <| run_seq <| run_seq <| run_region <| rl_v rfl rfl rfl (ov_move rfl rfl) <| rl_v rfl rfl rfl (ov_move rfl rfl) ?_
   refine rl_call callable_23 rfl rfl rfl rfl rfl rfl (later7_any va vc o d _ (by omega) (hadd d d0 (Int.le_refl _)) (hr.reads hO20 2 rfl)) (fun e25 w26 hp27 => ?_)
   obtain ⟨za, zc, cz, rfl, hz, hOh⟩ := hp27
   refine ⟨_, rfl, ?_⟩
   have hO28 := hO20.join hOh
   refine rl_v rfl rfl rfl (ov_move rfl rfl) ?_
   refine rl_call callable_16 rfl rfl rfl rfl rfl rfl (planned7_any za zc (o.late d) k _ (Lds.chkK_ok (show o.n ≤ 256 by omega) hV2 (by omega)) hV2.i64 (hz.reads hO28 0 rfl)) (fun e29 w30 hp31 => ?_)
   obtain ⟨rfl, hOi⟩ := hp31
   refine ⟨_, rfl, ?_⟩
   have hO32 := hO28.join hOi
   rw [decide_eq_true hcan]
   refine rl_v rfl rfl rfl (ov_move rfl rfl) <| rl_v rfl rfl rfl (ov_extract rfl rfl (by rfl)) ?_
   refine rl_v rfl rfl rfl (ov_extract rfl rfl (by rfl)) ?_
   refine rl_v rfl rfl rfl (ov_assign rfl rfl) <| rl_v rfl rfl rfl (ov_assign rfl rfl) <| rl_nil <| run_seq <| run_region <| rl_v rfl rfl rfl (ov_move rfl rfl) <| rl_v rfl rfl rfl (ov_not rfl rfl) <| rl_v rfl rfl rfl (ov_move rfl rfl) ?_
   first | refine rl_noD 49 rfl (rfl) ?_ | refine rl_no 49 rfl (rfl) ?_
   refine rl_gv rfl rfl rfl rfl rfl (ov_move rfl rfl) <| rl_gv rfl rfl rfl rfl rfl (ov_not rfl rfl) <| rl_v rfl rfl rfl (ov_pick_f rfl rfl rfl) <| rl_nil ?_
   first | refine run_cond_dec rfl (fun c3 => ?_) (fun c3 => ?_) | refine run_cond rfl (fun c3 => ?_) (fun c3 => ?_)
   ·exfalso; exact Bool.noConfusion c3
   ·refine run_skip <| run_seq <| run_seq <| run_region <| rl_v rfl rfl rfl (ov_move rfl rfl) <| rl_v rfl rfl rfl (ov_gtr rfl rfl rfl) <| rl_nil ?_
    first | refine run_cond_dec rfl (fun c4 => ?_) (fun c4 => ?_) | refine run_cond rfl (fun c4 => ?_) (fun c4 => ?_)
    ·have hcan2 := hless.resolve_left (by omega)
     have hV3 := Lds.late_less hV hV2 (show 0 ≤ d - 1 by omega) (by omega)
     refine run_seq <| run_region <| rl_v rfl rfl rfl (ov_move rfl rfl) <| rl_v rfl rfl rfl (ov_move rfl rfl) <| rl_v rfl rfl rfl (ov_sub rfl rfl rfl (by omega)) ?_
     refine rl_call callable_23 rfl rfl rfl rfl rfl rfl (later7_any va vc o (d - 1) _ (by omega) (hadd (d - 1) (by omega) (by omega)) (hr.reads hO32 3 rfl)) (fun e33 w34 hp35 => ?_)
     obtain ⟨qa, qc, cq, rfl, hq, hOj⟩ := hp35
     refine ⟨_, rfl, ?_⟩
     have hO36 := hO32.join hOj
     refine rl_v rfl rfl rfl (ov_move rfl rfl) ?_
     refine rl_call callable_16 rfl rfl rfl rfl rfl rfl (planned7_any qa qc (o.late (d - 1)) k _ (Lds.chkK_ok (show o.n ≤ 256 by omega) hV3 (by omega)) hV3.i64 (hq.reads hO36 0 rfl)) (fun e37 w38 hp39 => ?_)
     obtain ⟨rfl, hOk⟩ := hp39
     refine ⟨_, rfl, ?_⟩
     have hO40 := hO36.join hOk
     rw [decide_eq_false hcan2]
     refine rl_v rfl rfl rfl (ov_move rfl rfl) <| rl_v rfl rfl rfl (ov_extract rfl rfl (by rfl)) ?_
     refine rl_v rfl rfl rfl (ov_extract rfl rfl (by rfl)) ?_
     refine rl_v rfl rfl rfl (ov_assign rfl rfl) <| rl_v rfl rfl rfl (ov_assign rfl rfl) <| rl_nil <| run_seq <| run_region <| rl_v rfl rfl rfl (ov_move rfl rfl) <| rl_v rfl rfl rfl (ov_move rfl rfl) ?_
     first | refine rl_noD 65 rfl (rfl) ?_ | refine rl_no 65 rfl (rfl) ?_
     refine rl_gv rfl rfl rfl rfl rfl (ov_move rfl rfl) <| rl_gv rfl rfl rfl rfl rfl (ov_not rfl rfl) <| rl_v rfl rfl rfl (ov_pick_f rfl rfl rfl) <| rl_nil ?_
     first | refine run_cond_dec rfl (fun c5 => ?_) (fun c5 => ?_) | refine run_cond rfl (fun c5 => ?_) (fun c5 => ?_)
     ·exfalso; exact Bool.noConfusion c5
     ·refine run_skip <| run_seq <| run_region ?_
      refine rl_call callable_17 rfl rfl rfl rfl rfl rfl (awake7_any _) (fun e41 w42 hp43 => ?_)
      obtain ⟨rfl, hOg⟩ := hp43
      refine ⟨_, rfl, ?_⟩
      have hO44 := hO40.join hOg
      refine rl_v rfl rfl rfl (ov_assign rfl rfl) <| rl_nil <| run_ret Try.func6 (res1 Try.results6 rfl) ?_
      exact ⟨rfl, hO44.below⟩
    ·refine run_skip <| run_seq <| run_region ?_
     refine rl_call callable_17 rfl rfl rfl rfl rfl rfl (awake7_any _) (fun e45 w46 hp47 => ?_)
     obtain ⟨rfl, hOg⟩ := hp47
     refine ⟨_, rfl, ?_⟩
     have hO48 := hO32.join hOg
     refine rl_v rfl rfl rfl (ov_assign rfl rfl) <| rl_nil <| run_ret Try.func6 (res1 Try.results6 rfl) ?_
     exact ⟨rfl, hO48.below⟩
end Go.Proofs.Ytbepolognfdkeaa
set_option maxRecDepth 100000
namespace Go.Proofs.Ytbepolognfdkeaa
open Go.Joins Go.ChangeShapes Go.WideShapes Go.ChangeAt Go.RowKit Go.Deep Go.Proofs
theorem Try.own : ownKnob Try.prog.godebug = none := by kernel_rfl
theorem Try.laidOut : laidOutB Try.prog = true := by kernel_rfl
theorem cell_lt {w : World} {b off : Nat} {v : Value} (h : w.cell? ⟨b, off, none⟩ = some v) : b < w.heap.size := by
 by_cases hb : b < w.heap.size
 ·exact hb
 ·have : w.heap[b]? = none := by simp; omega
  simp [World.cell?, this] at h
end Go.Proofs.Ytbepolognfdkeaa
