import Derived.Test.YtbepolognfdkeaaGbU
import Derived.Test.YtbepolognfdkeaaEff
import Derived.Test.YtbepolognfdkeaaTab
import Derived.Test.YtbepolognfdkeaaChecked
import Derived.Test.YtbepolognfdkeaaRows
import Derived.ProofKit
import Derived.SizedLaws
import Derived.Deep.Modes
import Derived.Deep.Frames
import Derived.Deep.Matrix
import Derived.Carry
import Derived.Lib.SmallJoins
set_option maxRecDepth 100000
namespace Go.Proofs.Ytbepolognfdkeaa
open Go.RowKit Go.Proofs Go.MapKept
theorem ov_neqB7 {P : Program} {N : Nat} {o : Oper} {F : Fr} {w : World} {T U : TypeId} {x y : Operand} {a b : Bool} (ho : o.op = .binOp .neq T x y U) (hT : P.underlying T = some .bool) (hx : Fr.ev F x = some (.bool a)) (hy : Fr.ev F y = some (.bool b)) : OpV P N o F w (.bool (decide (a ≠ b))) := by
 intro r hr
 unfold execOp
 have h1 := run_equal_bool (P := P) w T a b hT
 have e : (!(a == b)) = decide (a ≠ b) := by cases a <;> cases b <;> rfl
 simp only [ho, hr.ev hx, hr.ev hy, Sem.run_bind, eqGuard]
 simp [binOp, h1, Result.andThen, e]
namespace Lds
noncomputable def own (l : Lds) (most : Nat) (s : Bool) : Lds := (l.tame s).cut (min l.n most)
theorem own_valid (l : Lds) (most : Nat) (s : Bool) : (l.own most s).Valid := fun i i0 i1 => l.tame_valid s i i0 (by have h : i < ((min l.n most : Nat) : Int) := i1; show i < (l.n : Int); omega)
theorem own_le (l : Lds) (most : Nat) (s : Bool) : (l.own most s).n ≤ most := Nat.min_le_right _ _
theorem Valid.i64 {l : Lds} (h : l.Valid) : l.I64 := by
 refine ⟨fun i a b => ?_, fun i a b => ?_, fun i a b => ?_, fun i a b => ?_⟩ <;> (have := h i a b; unfold Val at this; omega)
end Lds
theorem own7_any (la : Option Addr) (lc : Nat) (l : Lds) (most : Nat) (s : Bool) (w : World) (hc : l.n ≤ lc) (hm : most ≤ 1000) (hI : l.I64) (hl : SAt w.heap.size w la 4 l.n (ldF l)) :
  Calls Try.prog 13 #[.slice la l.n lc, iv most, .bool s] w fun e w' => ∃ (va : Option Addr) (vc : Nat) (c : Option Blk), e = .returned (.slice va (l.own most s).n vc) ∧ SRow (.slice va (l.own most s).n vc) 72 4 (l.own most s).n (ldF (l.own most s)) c ∧ Own w.heap.size w w' [c] :=
 tame7_any la lc l most s w hc hm hI hl
set_option maxHeartbeats 2000000 in
theorem kilns7_any (la : Option Addr) (lc : Nat) (l : Lds) (w : World) (hc : l.n ≤ lc) (hI : l.I64) (hl : SAt w.heap.size w la 4 l.n (ldF l)) :
  Calls Try.prog 3 #[.slice la l.n lc] w fun e w' => e = .returned (.bool true) ∧ Below w.heap.size w w' := by
 obtain ⟨o, ho⟩ : ∃ o, o = l.own 40 false := ⟨_, rfl⟩
 have hV : o.Valid := ho ▸ l.own_valid 40 false
 have hn : o.n ≤ 40 := ho ▸ l.own_le 40 false
 have hk0 : o.chk = 0 := Lds.chk_ok (by omega) hV
 refine calls_of_run (F := [(0, _)]) Try.func3 rfl Try.ntmps3 rfl rfl ?_
 have hO0 := Own.init w
 refine run_seq <| run_region <| rl_v rfl rfl rfl (ov_assign rfl rfl) <| rl_nil <| run_seq <| run_region <| rl_v rfl rfl rfl (ov_move rfl rfl) ?_
 refine rl_call callable_13 rfl rfl rfl rfl rfl rfl (own7_any la lc l 40 false _ hc (by decide) hI (hO0.satU hl)) (fun e1 w2 hp3 => ?_)
 obtain ⟨va, vc, c, rfl, hr, hOa⟩ := hp3
 refine ⟨_, rfl, ?_⟩
 have hO4 := hO0.join hOa
 rw [← ho] at hr ⊢
 refine rl_v rfl rfl rfl (ov_assign rfl rfl) <| rl_nil <| run_seq <| run_region <| rl_v rfl rfl rfl (ov_move rfl rfl) ?_
 refine rl_call callable_15 rfl rfl rfl rfl rfl rfl (give7_any va vc o _ (by omega) (hr.reads hO4 0 rfl)) (fun e5 w6 hp7 => ?_)
 obtain ⟨xa, xc, cx, rfl, hx, hOc⟩ := hp7
 refine ⟨_, rfl, ?_⟩
 have hO8 := hO4.join hOc
 refine rl_call callable_14 rfl rfl rfl rfl rfl rfl (Kilns_any xa xc o _ (by omega) hV.i64 (hx.reads hO8 0 rfl)) (fun e9 w10 hp11 => ?_)
 obtain ⟨n, rfl, hK, hOd⟩ := hp11
 refine ⟨_, rfl, ?_⟩
 have hO12 := hO8.join hOd
 rw [hk0]
 obtain ⟨n0, hcan, hless⟩ := hK.yes hk0
 have hnn : n ≤ o.n := Classical.byContradiction fun h => by
  rcases hless with e | e
  ·omega
  ·exact e (Lds.Can.many hV (by omega))
 have hz : decide (n = 0) = decide ((o.n : Int) = 0) := decide_eq_decide.2 ⟨fun e => by
  rw [e] at hcan
  exact Classical.byContradiction fun h => Lds.Can.none hV (by omega) hcan, fun e => by omega⟩
 refine rl_v rfl rfl rfl (ov_move rfl rfl) <| rl_v rfl rfl rfl (ov_extract rfl rfl (by rfl)) ?_
 refine rl_v rfl rfl rfl (ov_extract rfl rfl (by rfl)) ?_
 refine rl_v rfl rfl rfl (ov_assign rfl rfl) <| rl_v rfl rfl rfl (ov_assign rfl rfl) <| rl_nil <| run_seq <| run_seq <| run_region <| rl_v rfl rfl rfl (ov_move rfl rfl) <| rl_v rfl rfl rfl (ov_neq rfl rfl rfl) <| rl_v rfl rfl rfl (ov_move rfl rfl) ?_
 first | refine rl_noD 20 rfl (by decide) ?_ | refine rl_no 20 rfl (by decide) ?_
 refine rl_gv rfl rfl rfl rfl rfl (ov_move rfl rfl) <| rl_gv rfl rfl rfl rfl rfl (ov_lss rfl rfl rfl) <| rl_v rfl rfl rfl (ov_pick_f rfl rfl rfl) <| rl_v rfl rfl rfl (ov_move rfl rfl) ?_
 first | refine rl_noD 24 rfl (by omega) ?_ | refine rl_no 24 rfl (by omega) ?_
 refine rl_gv rfl rfl rfl rfl rfl (ov_move rfl rfl) <| rl_gv rfl rfl rfl rfl rfl (ov_move rfl rfl) <| rl_gv rfl rfl rfl rfl rfl (ov_len rfl Try.underlying22 rfl) <| rl_gv rfl rfl rfl rfl rfl (ov_gtr rfl rfl rfl) <| rl_v rfl rfl rfl (ov_pick_f rfl rfl rfl) <| rl_v rfl rfl rfl (ov_move rfl rfl) ?_
 first | refine rl_noD 30 rfl (by omega) ?_ | refine rl_no 30 rfl (by omega) ?_
 refine rl_gv rfl rfl rfl rfl rfl (ov_move rfl rfl) <| rl_gv rfl rfl rfl rfl rfl (ov_eql rfl rfl rfl) <| rl_gv rfl rfl rfl rfl rfl (ov_move rfl rfl) <| rl_gv rfl rfl rfl rfl rfl (ov_len rfl Try.underlying22 rfl) <| rl_gv rfl rfl rfl rfl rfl (ov_eql rfl rfl rfl) <| rl_gv rfl rfl rfl rfl rfl (ov_neqB7 rfl Try.underlying4 rfl rfl) <| rl_v rfl rfl rfl (ov_pick_f rfl rfl rfl) <| rl_nil ?_
 first | refine run_cond_dec rfl (fun c1 => ?_) (fun c1 => ?_) | refine run_cond rfl (fun c1 => ?_) (fun c1 => ?_)
 ·exfalso; exact c1 hz
 ·refine run_skip <| run_seq <| run_seq <| run_region <| rl_v rfl rfl rfl (ov_move rfl rfl) <| rl_v rfl rfl rfl (ov_geq rfl rfl rfl) <| rl_nil ?_
  first | refine run_cond_dec rfl (fun c2 => ?_) (fun c2 => ?_) | refine run_cond rfl (fun c2 => ?_) (fun c2 => ?_)
  ·refine run_seq <| run_region <| rl_v rfl rfl rfl (ov_move rfl rfl) <| rl_v rfl rfl rfl (ov_move rfl rfl) ?_
   refine rl_call callable_16 rfl rfl rfl rfl rfl rfl (planned7_any va vc o n _ (Lds.chkK_ok (by omega) hV (by omega)) hV.i64 (hr.reads hO12 1 rfl)) (fun e13 w14 hp15 => ?_)
   obtain ⟨rfl, hOe⟩ := hp15
   refine ⟨_, rfl, ?_⟩
   have hO16 := hO12.join hOe
   rw [decide_eq_true hcan]
   refine rl_v rfl rfl rfl (ov_move rfl rfl) <| rl_v rfl rfl rfl (ov_extract rfl rfl (by rfl)) ?_
   refine rl_v rfl rfl rfl (ov_extract rfl rfl (by rfl)) ?_
   refine rl_v rfl rfl rfl (ov_assign rfl rfl) <| rl_v rfl rfl rfl (ov_assign rfl rfl) <| rl_nil <| run_seq <| run_region <| rl_v rfl rfl rfl (ov_move rfl rfl) <| rl_v rfl rfl rfl (ov_not rfl rfl) <| rl_v rfl rfl rfl (ov_move rfl rfl) ?_
   first | refine rl_noD 48 rfl (rfl) ?_ | refine rl_no 48 rfl (rfl) ?_
   refine rl_gv rfl rfl rfl rfl rfl (ov_move rfl rfl) <| rl_gv rfl rfl rfl rfl rfl (ov_not rfl rfl) <| rl_v rfl rfl rfl (ov_pick_f rfl rfl rfl) <| rl_nil ?_
   first | refine run_cond_dec rfl (fun c3 => ?_) (fun c3 => ?_) | refine run_cond rfl (fun c3 => ?_) (fun c3 => ?_)
   ·exfalso; exact Bool.noConfusion c3
   ·refine run_skip <| run_seq <| run_seq <| run_region <| rl_v rfl rfl rfl (ov_move rfl rfl) <| rl_v rfl rfl rfl (ov_geq rfl rfl rfl) <| rl_nil ?_
    first | refine run_cond_dec rfl (fun c4 => ?_) (fun c4 => ?_) | refine run_cond rfl (fun c4 => ?_) (fun c4 => ?_)
    ·have hcan2 : ¬ o.Can (n - 1) := hless.resolve_left (by omega)
     refine run_seq <| run_region <| rl_v rfl rfl rfl (ov_move rfl rfl) <| rl_v rfl rfl rfl (ov_move rfl rfl) <| rl_v rfl rfl rfl (ov_sub rfl rfl rfl (by omega)) ?_
     refine rl_call callable_16 rfl rfl rfl rfl rfl rfl (planned7_any va vc o (n - 1) _ (Lds.chkK_ok (by omega) hV (by omega)) hV.i64 (hr.reads hO16 1 rfl)) (fun e17 w18 hp19 => ?_)
     obtain ⟨rfl, hOf⟩ := hp19
     refine ⟨_, rfl, ?_⟩
     have hO20 := hO16.join hOf
     rw [decide_eq_false hcan2]
     refine rl_v rfl rfl rfl (ov_move rfl rfl) <| rl_v rfl rfl rfl (ov_extract rfl rfl (by rfl)) ?_
     refine rl_v rfl rfl rfl (ov_extract rfl rfl (by rfl)) ?_
     refine rl_v rfl rfl rfl (ov_assign rfl rfl) <| rl_v rfl rfl rfl (ov_assign rfl rfl) <| rl_nil <| run_seq <| run_region <| rl_v rfl rfl rfl (ov_move rfl rfl) <| rl_v rfl rfl rfl (ov_move rfl rfl) ?_
     first | refine rl_noD 62 rfl (rfl) ?_ | refine rl_no 62 rfl (rfl) ?_
     refine rl_gv rfl rfl rfl rfl rfl (ov_move rfl rfl) <| rl_gv rfl rfl rfl rfl rfl (ov_not rfl rfl) <| rl_v rfl rfl rfl (ov_pick_f rfl rfl rfl) <| rl_nil ?_
     first | refine run_cond_dec rfl (fun c5 => ?_) (fun c5 => ?_) | refine run_cond rfl (fun c5 => ?_) (fun c5 => ?_)
     ·exfalso; exact Bool.noConfusion c5
     ·refine run_skip <| run_seq <| run_region ?_
      refine rl_call callable_17 rfl rfl rfl rfl rfl rfl (awake7_any _) (fun e21 w22 hp23 => ?_)
      obtain ⟨rfl, hOg⟩ := hp23
      refine ⟨_, rfl, ?_⟩
      have hO24 := hO20.join hOg
      refine rl_v rfl rfl rfl (ov_assign rfl rfl) <| rl_nil <| run_ret Try.func3 (res1 Try.results3 rfl) ?_
      exact ⟨rfl, hO24.below⟩
    ·refine run_skip <| run_seq <| run_region ?_
     refine rl_call callable_17 rfl rfl rfl rfl rfl rfl (awake7_any _) (fun e25 w26 hp27 => ?_)
     obtain ⟨rfl, hOg⟩ := hp27
     refine ⟨_, rfl, ?_⟩
     have hO28 := hO16.join hOg
     refine rl_v rfl rfl rfl (ov_assign rfl rfl) <| rl_nil <| run_ret Try.func3 (res1 Try.results3 rfl) ?_
     exact ⟨rfl, hO28.below⟩
  ·refine run_skip <| run_seq <| run_seq <| run_region <| rl_v rfl rfl rfl (ov_move rfl rfl) <| rl_v rfl rfl rfl (ov_geq rfl rfl rfl) <| rl_nil ?_
   first | refine run_cond_dec rfl (fun c4 => ?_) (fun c4 => ?_) | refine run_cond rfl (fun c4 => ?_) (fun c4 => ?_)
   ·exfalso; omega
   ·refine run_skip <| run_seq <| run_region ?_
    refine rl_call callable_17 rfl rfl rfl rfl rfl rfl (awake7_any _) (fun e29 w30 hp31 => ?_)
    obtain ⟨rfl, hOg⟩ := hp31
    refine ⟨_, rfl, ?_⟩
    have hO32 := hO12.join hOg
    refine rl_v rfl rfl rfl (ov_assign rfl rfl) <| rl_nil <| run_ret Try.func3 (res1 Try.results3 rfl) ?_
    exact ⟨rfl, hO32.below⟩
end Go.Proofs.Ytbepolognfdkeaa
set_option maxRecDepth 100000
namespace Go.Proofs.Ytbepolognfdkeaa
open Go.Joins Go.ChangeShapes Go.WideShapes Go.ChangeAt Go.RowKit Go.Deep Go.Proofs
theorem Try.own : ownKnob Try.prog.godebug = none := by kernel_rfl
theorem Try.laidOut : laidOutB Try.prog = true := by kernel_rfl
theorem cell_lt {w : World} {b off : Nat} {v : Value} (h : w.cell? ⟨b, off, none⟩ = some v) : b < w.heap.size := by
 by_cases hb : b < w.heap.size
 ·exact hb
 ·have : w.heap[b]? = none := by simp; omega
  simp [World.cell?, this] at h
end Go.Proofs.Ytbepolognfdkeaa
