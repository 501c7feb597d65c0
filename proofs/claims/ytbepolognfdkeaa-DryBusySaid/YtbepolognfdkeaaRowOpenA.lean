import Derived.Test.YtbepolognfdkeaaGbZ
import Derived.Test.YtbepolognfdkeaaEff
import Derived.Test.YtbepolognfdkeaaTab
import Derived.Test.YtbepolognfdkeaaChecked
import Derived.Test.YtbepolognfdkeaaRows
import Derived.ProofKit
import Derived.SizedLaws
import Derived.Deep.Modes
import Derived.Deep.Frames
import Derived.Deep.Matrix
import Derived.Carry
import Derived.Lib.SmallJoins
set_option maxRecDepth 100000
namespace Go.Proofs.Ytbepolognfdkeaa
open Go.RowKit Go.Proofs Go.MapKept
theorem eqA3 (a b c x y z : Int) (w : World) : (Op.equalIn 10000 41 (.agg #[.int .i64 a, .int .i64 b, .int .i64 c]) (.agg #[.int .i64 x, .int .i64 y, .int .i64 z])).run Try.prog w = .ok (a == x && (b == y && c == z)) w := by
 have u3 := Try.underlying3
 have a3 := Try.isAgg3
 have z3 := Try.sizeOf3
 rw [show (10000 : Nat) = 9999 + 1 from rfl, Op.equalIn]
 simp only [Sem.run_bind, run_underlying Try.underlying41, Result.andThen_ok]
 simp only [Std.Legacy.Range.forIn_eq_forIn_range', Std.Legacy.Range.size, Nat.sub_zero, Nat.add_sub_cancel, Nat.div_one, List.range'_succ, List.range'_zero, List.forIn_cons, List.forIn_nil]
 go_simp
 by_cases h1 : a = x <;> by_cases h2 : b = y <;> by_cases h3 : c = z <;> simp [h1, h2, h3]
theorem ov_neqA3 {N : Nat} {o : Oper} {F : Fr} {w : World} {x y : Operand} {U : TypeId} {a b c d e f : Int} (ho : o.op = .binOp .neq 41 x y U) (hm : Try.prog.eqGuardType Try.prog.depth 41 = false) (hx : Fr.ev F x = some (.agg #[iv a, iv b, iv c])) (hy : Fr.ev F y = some (.agg #[iv d, iv e, iv f])) : OpV Try.prog N o F w (.bool (decide (¬ (a = d ∧ b = e ∧ c = f)))) := by
 intro r hr
 have h1 := eqA3 a b c d e f w
 unfold execOp
 have hg := run_eqGuard_agg (P := Try.prog) w .neq 41 x y #[iv a, iv b, iv c] #[iv d, iv e, iv f] hm
 simp only [ho, hr.ev hx, hr.ev hy, Sem.run_bind, hg, Result.andThen_ok, run_neq_struct, h1]
 by_cases h1 : a = d <;> by_cases h2 : b = e <;> by_cases h3 : c = f <;> simp [h1, h2, h3]
set_option maxHeartbeats 2000000 in
theorem busy7_any (la : Option Addr) (lc : Nat) (l : Lds) (w : World) (hc : l.n ≤ lc) (hI : l.I64) (hl : SAt w.heap.size w la 4 l.n (ldF l)) :
  Calls Try.prog 5 #[.slice la l.n lc] w fun e w' => e = .returned (.bool true) ∧ Below w.heap.size w w' := by
 obtain ⟨o, ho⟩ : ∃ o, o = l.own 30 false := ⟨_, rfl⟩
 have hV : o.Valid := ho ▸ l.own_valid 30 false
 have hn : o.n ≤ 30 := ho ▸ l.own_le 30 false
 have hk0 : o.chk = 0 := Lds.chk_ok (by omega) hV
 refine calls_of_run (F := [(0, _)]) Try.func5 rfl Try.ntmps5 rfl rfl ?_
 have hO0 := Own.init w
 refine run_seq <| run_region <| rl_v rfl rfl rfl (ov_assign rfl rfl) <| rl_nil <| run_seq <| run_region <| rl_v rfl rfl rfl (ov_move rfl rfl) ?_
 refine rl_call callable_13 rfl rfl rfl rfl rfl rfl (own7_any la lc l 30 false _ hc (by decide) hI (hO0.satU hl)) (fun e1 w2 hp3 => ?_)
 obtain ⟨va, vc, c_, rfl, hr, hOa⟩ := hp3
 refine ⟨_, rfl, ?_⟩
 have hO4 := hO0.join hOa
 rw [← ho] at hr ⊢
 refine rl_v rfl rfl rfl (ov_assign rfl rfl) <| rl_nil <| run_seq <| run_region <| rl_v rfl rfl rfl (ov_move rfl rfl) ?_
 refine rl_call callable_15 rfl rfl rfl rfl rfl rfl (give7_any va vc o _ (by omega) (hr.reads hO4 0 rfl)) (fun e5 w6 hp7 => ?_)
 obtain ⟨xa, xc, cx, rfl, hx, hOb⟩ := hp7
 refine ⟨_, rfl, ?_⟩
 have hO8 := hO4.join hOb
 refine rl_call callable_19 rfl rfl rfl rfl rfl rfl (Busy_any xa xc o _ (by omega) hV.i64 (hx.reads hO8 0 rfl)) (fun e9 w10 hp11 => ?_)
 obtain ⟨ba, bc, T, cb, c, X, rfl, hb, hy, _, hOc⟩ := hp11
 refine ⟨_, rfl, ?_⟩
 have hO12 := hO8.join hOc
 rw [hk0]
 obtain ⟨hC, hT⟩ := hy hk0
 have hTl := bzK_len o X (c - 1)
 have hcle := hC.le
 refine rl_v rfl rfl rfl (ov_move rfl rfl) <| rl_v rfl rfl rfl (ov_extract rfl rfl (by rfl)) ?_
 refine rl_v rfl rfl rfl (ov_extract rfl rfl (by rfl)) ?_
 refine rl_v rfl rfl rfl (ov_assign rfl rfl) <| rl_v rfl rfl rfl (ov_assign rfl rfl) <| rl_nil <| run_seq <| run_region <| rl_v rfl rfl rfl (ov_move rfl rfl) ?_
 refine rl_call callable_20 rfl rfl rfl rfl rfl rfl (refBusy_any va vc o c X _ (by omega) hV hC (hr.reads hO12 2 rfl)) (fun e13 w14 hp15 => ?_)
 obtain ⟨da, dc, cd, rfl, hd, hOd⟩ := hp15
 refine ⟨_, rfl, ?_⟩
 have hO16 := hO12.join hOd
 rw [← hT] at hd hTl ⊢
 refine rl_v rfl rfl rfl (ov_assign rfl rfl) <| rl_nil <| run_seq <| run_seq <| run_region <| rl_v rfl rfl rfl (ov_move rfl rfl) <| rl_v rfl rfl rfl (ov_neq rfl rfl rfl) <| rl_v rfl rfl rfl (ov_move rfl rfl) ?_
 first | refine rl_noD 20 rfl (by decide) ?_ | refine rl_no 20 rfl (by decide) ?_
 refine rl_gv rfl rfl rfl rfl rfl (ov_move rfl rfl) <| rl_gv rfl rfl rfl rfl rfl (ov_len rfl Try.underlying37 rfl) <| rl_gv rfl rfl rfl rfl rfl (ov_move rfl rfl) <| rl_gv rfl rfl rfl rfl rfl (ov_len rfl Try.underlying37 rfl) <| rl_gv rfl rfl rfl rfl rfl (ov_neq rfl rfl rfl) <| rl_v rfl rfl rfl (ov_pick_f rfl rfl rfl) <| rl_nil ?_
 first | refine run_cond_dec rfl (fun c1 => ?_) (fun c1 => ?_) | refine run_cond rfl (fun c1 => ?_) (fun c1 => ?_)
 ·exfalso; exact c1 rfl
 ·obtain ⟨bb, hba⟩ := hb.addr
  obtain ⟨db, hda⟩ := hd.addr
  refine run_skip <| run_seq <| run_seq <| run_region <| rl_v rfl rfl rfl (ov_assign rfl rfl) <| rl_nil <| run_block <| Run.keep [4, 6, 7] (F' := [(4, _), (6, _), (7, _)]) rfl <| run_loop1 (fun (i : Nat) => [(7, .int .i64 (i : Int))]) [4, 6] (fun (i : Nat) (w17 : World) => i ≤ T.length ∧ Own w.heap.size w w17 [cd, cb, cx, c_]) (fun (i : Nat) => T.length - i) (0) ?_ (And.intro (by exact slot_int rfl (by first | omega)) (And.intro rfl (And.intro rfl trivial))) ?_
  ·exact ⟨Nat.zero_le _, hO16⟩
  intro i w17 hIw17 ih18
  obtain ⟨hi, hOe⟩ := hIw17
  show Run _ _ _ _ [(7, _), (4, _), (6, _)] _ _
  refine run_seq <| run_seq <| run_region <| rl_v rfl rfl rfl (ov_move rfl rfl) <| rl_v rfl rfl rfl (ov_move rfl rfl) <| rl_v rfl rfl rfl (ov_len rfl Try.underlying37 rfl) <| rl_v rfl rfl rfl (ov_lss rfl rfl rfl) <| rl_nil ?_
  first | refine run_cond_dec rfl (fun c2 => ?_) (fun c2 => ?_) | refine run_cond rfl (fun c2 => ?_) (fun c2 => ?_)
  ·have hcb := hb.cellU hOe 1 rfl (hba (by omega))
   have hcd := hd.cellU hOe 0 rfl (hda (by omega))
   refine run_skip <| run_seq <| run_block <| run_seq <| run_quiet mixed (by kernel_rfl) ?_
   refine rq_v rfl rfl rfl (fun _ => ov_move rfl rfl) ?_
   refine rq_v rfl rfl rfl (fun _ => ov_move rfl rfl) ?_
   refine rq_v rfl rfl rfl (fun _ => ov_index rfl Try.underlying37 (by kernel_rfl) (s := 3) rfl rfl ⟨by omega, by omega⟩ (by exact hba (by omega))) ?_
   refine rq_v rfl rfl rfl (fun _ => ov_loadE rfl Try.underlying41 rfl (by kernel_rfl) rfl ⟨by omega, by omega⟩ rfl (hcb)) ?_
   refine rq_v rfl rfl rfl (fun _ => ov_move rfl rfl) ?_
   refine rq_v rfl rfl rfl (fun _ => ov_move rfl rfl) ?_
   refine rq_v rfl rfl rfl (fun _ => ov_index rfl Try.underlying37 (by kernel_rfl) (s := 3) rfl rfl ⟨by omega, by omega⟩ (by exact hda (by omega))) ?_
   refine rq_v rfl rfl rfl (fun _ => ov_loadE rfl Try.underlying41 rfl (by kernel_rfl) rfl ⟨by omega, by omega⟩ rfl (hcd)) ?_
   refine rq_v rfl rfl rfl (fun _ => ov_neqA3 rfl (by kernel_rfl) rfl rfl) ?_
   refine rq_nil (fun n19 => ?_)
   have hO21 := hOe.drewN n19
   generalize World.drewN w17 n19 = w20 at hO21 ⊢
   first | refine run_cond_dec rfl (fun c3 => ?_) (fun c3 => ?_) | refine run_cond rfl (fun c3 => ?_) (fun c3 => ?_)
   ·exfalso; exact c3 ⟨rfl, rfl, rfl⟩
   ·refine run_skip <| run_inBlock <| run_region <| rl_v rfl rfl rfl (ov_move rfl rfl) <| rl_v rfl rfl rfl (ov_add rfl rfl rfl (by omega)) ?_
    refine rl_v rfl rfl rfl (ov_assign rfl rfl) <| rl_nil ?_
    refine Run.use (ih18 (i + 1) _ ?_ ?_) (And.intro (by exact slot_int rfl (by first | omega)) (And.intro rfl (And.intro rfl trivial)))
    ·first | omega | (dsimp only; omega)
    ·exact ⟨by omega, hO21⟩
  ·refine run_exit rfl <| run_seq <| run_region ?_
   refine rl_call callable_17 rfl rfl rfl rfl rfl rfl (awake7_any _) (fun e22 w23 hp24 => ?_)
   obtain ⟨rfl, hOg⟩ := hp24
   refine ⟨_, rfl, ?_⟩
   have hO25 := hOe.join hOg
   refine rl_v rfl rfl rfl (ov_assign rfl rfl) <| rl_nil <| run_ret Try.func5 (res1 Try.results5 rfl) ?_
   exact ⟨rfl, hO25.below⟩
end Go.Proofs.Ytbepolognfdkeaa
set_option maxRecDepth 100000
namespace Go.Proofs.Ytbepolognfdkeaa
open Go.Joins Go.ChangeShapes Go.WideShapes Go.ChangeAt Go.RowKit Go.Deep Go.Proofs
theorem Try.own : ownKnob Try.prog.godebug = none := by kernel_rfl
theorem Try.laidOut : laidOutB Try.prog = true := by kernel_rfl
theorem cell_lt {w : World} {b off : Nat} {v : Value} (h : w.cell? ⟨b, off, none⟩ = some v) : b < w.heap.size := by
 by_cases hb : b < w.heap.size
 ·exact hb
 ·have : w.heap[b]? = none := by simp; omega
  simp [World.cell?, this] at h
end Go.Proofs.Ytbepolognfdkeaa
