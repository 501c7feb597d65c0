import Derived.Test.YtfbbagnpdfafjaaHcM
import Derived.Laws.StructEq
set_option maxRecDepth 100000
namespace Go.Proofs.Ytfbbagnpdfafjaa
open Go.RowKit Go.Proofs
theorem eqF_same {P : Program} {w : World} {d : Nat} {xs : Array Value} : ∀ (fs : List Field), (∀ f ∈ fs, ∃ (kk : IntKind) (m : Int), P.underlying f.type = some (.int kk) ∧ xs[f.offset]? = some (.int kk m)) → (Op.eqFields (d + 1) xs xs fs).run P w = .ok true w
 | [], _ => rfl
 | f :: fs, h => by
  obtain ⟨kk, m, hu, hx⟩ := h f (List.mem_cons_self ..)
  have hp : (part f.type xs f.offset).run P w = .ok (.int kk m) w := by simp [part, isAgg, run_underlying hu, hx]
  have he : (Op.equalIn (d + 1) f.type (.int kk m) (.int kk m)).run P w = .ok true w := by rw [run_equalIn_int w d f.type kk kk m m hu]; simp
  have ih := eqF_same (w := w) (d := d) fs fun g hg => h g (List.mem_cons_of_mem _ hg)
  unfold Op.eqFields
  split
  ·simp [hp, he, ih, Result.andThen]
  ·exact ih
theorem ov_neqS {N : Nat} {o : Oper} {F : Fr} {w : World} {x y : Operand} {U T : TypeId} {xs : Array Value} {fs : Array Field} (ho : o.op = .binOp .neq T x y U) (hT : Try.prog.underlying T = some (.struct fs)) (hsm : ∀ f ∈ fs.toList, ∃ (kk : IntKind) (m : Int), Try.prog.underlying f.type = some (.int kk) ∧ xs[f.offset]? = some (.int kk m))
  (hp : Try.prog.stoodInHeld T = false) (hm : Try.prog.eqGuardType Try.prog.depth T = false) (hx : Fr.ev F x = some (.agg xs)) (hy : Fr.ev F y = some (.agg xs)) : OpV Try.prog N o F w (.bool false) := by
 intro r hr
 have hfo : Try.prog.fieldsOf T = fs := by unfold Program.fieldsOf; rw [hT]
 have h1 : (Op.equalIn 10000 T (.agg xs) (.agg xs)).run Try.prog w = .ok true w := by
  rw [run_equalIn_struct w 9999 T _ _ (by rw [hfo]; exact hT) hp, hfo]
  exact eqF_same (d := 9998) _ hsm
 unfold execOp
 have hg := run_eqGuard_agg (P := Try.prog) w .neq T x y xs xs hm
 simp only [ho, hr.ev hx, hr.ev hy, Sem.run_bind, hg, Result.andThen_ok, run_neq_struct, h1]
 simp
theorem ov_neqB {P : Program} {N : Nat} {o : Oper} {F : Fr} {w : World} {T U : TypeId} {x y : Operand} {a b : Bool} (ho : o.op = .binOp .neq T x y U) (hT : P.underlying T = some .bool) (hx : Fr.ev F x = some (.bool a)) (hy : Fr.ev F y = some (.bool b)) : OpV P N o F w (.bool (decide (a ≠ b))) := by
 intro r hr
 unfold execOp
 have h1 := run_equal_bool (P := P) w T a b hT
 have e : (!(a == b)) = decide (a ≠ b) := by cases a <;> cases b <;> rfl
 simp only [ho, hr.ev hx, hr.ev hy, Sem.run_bind, eqGuard]
 simp [binOp, h1, Result.andThen, e]
section
variable {P : Program} {f N : Nat} {ops : Array Oper} {k : List Item} {F : Fr} {w : World} {R : Ending → World → Prop} {S : World → Prop} {fuel : Nat} {listed : Array Bool}
theorem rh_yes (g : Nat) {b : Bool} (hb : Fr.get F g = some (.bool b)) (h : b = true) (hf : RH P f N ops S fuel listed k ((g, .bool true) :: F) w R) : RH P f N ops S fuel listed k F w R :=
 fun a ha => hf a (holds_at ha (by rw [hb, h]))
theorem rh_yesD (g : Nat) {p : Prop} {dp : Decidable p} (hb : Fr.get F g = some (.bool (decide p))) (h : p) (hf : RH P f N ops S fuel listed k ((g, .bool true) :: F) w R) : RH P f N ops S fuel listed k F w R :=
 rh_yes g hb (decide_eq_true h) hf
end
theorem sameC (c : Ct) : ∀ f ∈ (Try.prog.fieldsOf 146).toList, ∃ (kk : IntKind) (q : Int), Try.prog.underlying f.type = some (.int kk) ∧ (ctL c).toArray[f.offset]? = some (.int kk q) := by
 unfold Program.fieldsOf
 rw [Try.underlying146]
 intro f hf
 simp only [List.mem_cons, List.not_mem_nil, or_false] at hf
 rcases hf with rfl | rfl | rfl | rfl | rfl
 ·exact ⟨.i64, c.b, Try.underlying3, rfl⟩
 ·exact ⟨.i64, c.s, Try.underlying3, rfl⟩
 ·exact ⟨.i64, c.m, Try.underlying3, rfl⟩
 ·exact ⟨.i64, c.q, Try.underlying2, rfl⟩
 ·exact ⟨.i64, c.p, Try.underlying2, rfl⟩
theorem ov_neqCt {N : Nat} {o : Oper} {F : Fr} {w : World} {x y : Operand} {U : TypeId} {c : Ct} (ho : o.op = .binOp .neq 146 x y U) (hx : Fr.ev F x = some (.agg (ctL c).toArray)) (hy : Fr.ev F y = some (.agg (ctL c).toArray)) : OpV Try.prog N o F w (.bool false) :=
 ov_neqS ho (by unfold Program.fieldsOf; rw [Try.underlying146]) (sameC c) (by kernel_rfl) (by kernel_rfl) hx hy
theorem HAt.mk {B : Nat} {w0 w : World} {hb : Nat} {X : HM} {Pl R N : List (Option Blk)} {K : HK} (hO : Own B w0 w (houB hb (X.r K) :: K.blk :: (N ++ R))) (hK : HOk X K N) (hPl : Pl.Sublist N) : HAt B w0 w hb X Pl R := ⟨K, N, hO, hK, hPl⟩
theorem HAt.own {B : Nat} {w0 w : World} {hb : Nat} {X : HM} {Pl R : List (Option Blk)} (h : HAt B w0 w hb X Pl R) : Own B w0 w R := h.fr
set_option maxHeartbeats 2000000 in
theorem shows_any (hb B : Nat) (X : HM) (K : GK) (Pl R0 R : List (Option Blk)) (w0 w : World) (h : HAt B w0 w hb X Pl R) (hI : GIn R0 X K) (hs : R0.Sublist R) (hX : GG X) :
  Calls Try.prog 35 #[ptr hb, .agg (ghL X K).toArray] w fun e w' => e = .returned (.bool true) ∧ HAt B w0 w' hb X Pl R := by
 have hG := hX.g
 have hmem := hG.mem
 have hmo := hG.mo
 have hmo1 := hX.mo
 have hmn := X.mn_eq hX.mo
 have hnn := hG.n
 have hk64 := hG.k
 have hR := h.own.sub hs
 obtain ⟨xb, xo, ex, rx⟩ := hI.av.at (by decide) hR (by omega)
 obtain ⟨pb0, po0, ep0, rp0⟩ := hI.pv.at hR (by omega)
 obtain ⟨K1, N1, hO, hK1, hP1⟩ := h.open
 refine calls_of_run (F := [(0, _), (1, _)]) Try.func35 rfl Try.ntmps35 rfl rfl <| run_seq <| run_region <| rl_ow rfl (ow_box _ rfl rfl rfl rfl rfl hO) ?_
 rintro _ w1 ⟨b3, rfl, hO2, hs3⟩
 have hH1 : HAt B w0 w1 hb X Pl (some (lch b3 34 (ghL X K)) :: R) := HAt.put hO2 hK1 hP1
 have hs3 : R0.Sublist (some (lch b3 34 (ghL X K)) :: R) := .cons _ hs
 refine rl_v rfl rfl rfl (ov_assign rfl rfl) <| rl_nil <| run_seq <| run_seq <| run_region <| rl_v rfl rfl rfl (ov_assign rfl rfl) <| rl_nil <| run_block <| Run.keep [0, 3, 5] (F' := [(0, _), (3, _), (5, _)]) rfl <| run_loop1 (fun (i : Int) => [(5, .int .i64 i)]) [0, 3] (fun (i : Int) (w4 : World) => (1 ≤ i ∧ i ≤ (X.mem : Int) + 1) ∧ HAt B w0 w4 hb X Pl (some (lch b3 34 (ghL X K)) :: R)) (fun (i : Int) => ((X.mem : Int) + 1 - i).toNat) (1) ?_ (And.intro (by exact slot_int rfl (by first | omega)) (And.intro rfl (And.intro rfl trivial))) ?_
 ·exact ⟨by omega, hH1⟩
 intro i w4 hIw4 ih5
 obtain ⟨hi, hH2⟩ := hIw4
 show Run _ _ _ _ [(5, _), (0, _), (3, _)] _ _
 refine run_seq <| run_seq <| run_region <| rl_v rfl rfl rfl (ov_move rfl rfl) <| rl_v rfl rfl rfl (ov_fieldS rfl Try.underlying34 rfl (fo := 7) rfl (by kernel_rfl) rfl) ?_
 refine rl_v rfl rfl rfl (ov_load rfl Try.underlying31 rfl rfl (by exact (hH2.own).cellL 0 rfl (off := 7) rfl)) ?_
 refine rl_v rfl rfl rfl (ov_len rfl Try.underlying31 rfl) <| rl_v rfl rfl rfl (ov_leq rfl rfl rfl) <| rl_nil ?_
 first | refine run_cond_dec rfl (fun h1 => ?_) (fun h1 => ?_) | refine run_cond rfl (fun h1 => ?_) (fun h1 => ?_)
 ·have hii : X.is i := ⟨by omega, by omega⟩
  refine run_skip <| run_seq <| run_block <| run_seq <| run_region <| rl_v rfl rfl rfl (ov_move rfl rfl) <| rl_v rfl rfl rfl (ov_move rfl rfl) ?_
  refine rl_call callable_31 rfl rfl rfl rfl rfl rfl (account_in hb B X Pl _ w0 w4 hH2 hG i hii) (fun e6 w7 hp8 => ?_)
  obtain ⟨va, ca, rfl, hra, hH3⟩ := hp8
  refine ⟨_, rfl, ?_⟩
  obtain ⟨aa, pa, rfl⟩ := hra.val
  obtain ⟨K2, N2, hO3, hK2, hP2⟩ := hH3.open
  refine rl_v rfl rfl rfl (ov_move rfl rfl) <| rl_v rfl rfl rfl (ov_extract rfl rfl (by rfl)) ?_
  refine rl_v rfl rfl rfl (ov_extract rfl rfl (by rfl)) ?_
  refine rl_ow rfl (ow_alloc _ rfl rfl rfl zero_64 rfl hO3) ?_
  rintro _ w9 ⟨b6, rfl, hO10, hs11⟩
  refine rl_ow rfl (ow_storeW rfl rfl (by kernel_rfl) hO10 0 rfl rfl (by rfl) rfl (by rfl)) ?_
  rintro _ w12 ⟨rfl, hO13, hs14⟩
  have hH4 : HAt B w0 w12 hb X Pl (some (lch b6 64 [iv (X.acct i).cash, iv (X.acct i).fund, .slice aa X.mn pa, .bool (X.acct i).out]) :: ca :: some (lch b3 34 (ghL X K)) :: R) := HAt.put hO13 hK2 hP2
  refine rl_v rfl rfl rfl (ov_assign rfl rfl) <| rl_nil <| run_seq <| run_region <| rl_v rfl rfl rfl (ov_move rfl rfl) <| rl_v rfl rfl rfl (ov_move rfl rfl) ?_
  refine rl_call callable_24 rfl rfl rfl rfl rfl rfl (margin_in hb B X Pl _ w0 w12 hH4 hG i hii) (fun e15 w16 hp17 => ?_)
  obtain ⟨rfl, hH5⟩ := hp17
  refine ⟨_, rfl, ?_⟩
  refine rl_v rfl rfl rfl (ov_move rfl rfl) <| rl_v rfl rfl rfl (ov_extract rfl rfl (by rfl)) ?_
  refine rl_v rfl rfl rfl (ov_extract rfl rfl (by rfl)) ?_
  refine rl_v rfl rfl rfl (ov_assign rfl rfl) <| rl_v rfl rfl rfl (ov_assign rfl rfl) <| rl_nil <| run_seq <| run_region <| rl_v rfl rfl rfl (ov_move rfl rfl) <| rl_v rfl rfl rfl (ov_move rfl rfl) ?_
  refine rl_call callable_38 rfl rfl rfl rfl rfl rfl (worst_in hb B X Pl _ w0 w16 hH5 hG i hii) (fun e18 w19 hp20 => ?_)
  obtain ⟨rfl, hH6⟩ := hp20
  refine ⟨_, rfl, ?_⟩
  obtain ⟨K3, N3, hO6, hK3, hP3⟩ := hH6.open
  refine rl_v rfl rfl rfl (ov_move rfl rfl) <| rl_v rfl rfl rfl (ov_extract rfl rfl (by rfl)) ?_
  refine rl_v rfl rfl rfl (ov_extract rfl rfl (by rfl)) ?_
  refine rl_v rfl rfl rfl (ov_extract rfl rfl (by rfl)) ?_
  refine rl_v rfl rfl rfl (ov_assign rfl rfl) <| rl_v rfl rfl rfl (ov_assign rfl rfl) <| rl_v rfl rfl rfl (ov_assign rfl rfl) <| rl_nil <| run_seq <| run_region <| rl_v rfl rfl rfl (ov_fieldS rfl Try.underlying34 rfl (fo := 7) rfl (by kernel_rfl) rfl) ?_
  refine rl_v rfl rfl rfl (ov_load rfl Try.underlying31 rfl rfl (by exact hH6.own.cellL 2 rfl (off := 7) rfl)) ?_
  refine rl_v rfl rfl rfl (ov_move rfl rfl) <| rl_v rfl rfl rfl (ov_sub rfl rfl rfl (by omega)) ?_
  refine rl_v rfl rfl rfl (ov_index rfl Try.underlying31 (by kernel_rfl) (s := 4) rfl rfl ⟨by omega, by omega⟩ (by exact (id ex))) ?_
  refine rl_v rfl rfl rfl (ov_loadE rfl Try.underlying49 rfl (by kernel_rfl) rfl ⟨by omega, by omega⟩ rfl ((rx (hH6.own.sub (.cons _ (.cons _ hs3)))))) ?_
  refine rl_ow rfl (ow_alloc _ rfl rfl rfl zero_49 rfl hO6) ?_
  rintro _ w21 ⟨b13, rfl, hO22, hs23⟩
  refine rl_ow rfl (ow_storeW rfl rfl (by kernel_rfl) hO22 0 rfl rfl (by rfl) rfl (by rfl)) ?_
  rintro _ w24 ⟨rfl, hO25, hs26⟩
  have hH7 : HAt B w0 w24 hb X Pl (some (lch b13 49 (gacL (X.acct i) (K.qa (i - 1)) X.mn (K.qc (i - 1)))) :: some (lch b6 64 [iv (X.acct i).cash, iv (X.acct i).fund, .slice aa X.mn pa, .bool (X.acct i).out]) :: ca :: some (lch b3 34 (ghL X K)) :: R) := HAt.put hO25 hK3 hP3
  refine rl_nil <| run_seq <| run_region <| rl_v rfl rfl rfl (ov_loadW rfl Try.underlying34 rfl (by kernel_rfl) rfl (hH7.own) 3 rfl) ?_
  refine rl_v rfl rfl rfl (ov_move rfl rfl) ?_
  refine rl_call callable_83 rfl rfl rfl rfl rfl rfl (rWorst K hH7 hI (.cons _ (.cons _ (.cons _ hs3))) hX i hii) (fun e27 w28 hp29 => ?_)
  obtain ⟨rfl, hH8⟩ := hp29
  refine ⟨_, rfl, ?_⟩
  refine rl_v rfl rfl rfl (ov_move rfl rfl) <| rl_v rfl rfl rfl (ov_extract rfl rfl (by rfl)) ?_
  refine rl_v rfl rfl rfl (ov_extract rfl rfl (by rfl)) ?_
  refine rl_v rfl rfl rfl (ov_assign rfl rfl) <| rl_v rfl rfl rfl (ov_assign rfl rfl) <| rl_nil <| run_seq <| run_region <| rl_v rfl rfl rfl (ov_move rfl rfl) <| rl_v rfl rfl rfl (ov_neq rfl rfl rfl) <| rl_v rfl rfl rfl (ov_move rfl rfl) ?_
  first | refine rl_noD 67 rfl (fun h => h rfl) ?_ | refine rl_no 67 rfl (fun h => h rfl) ?_
  refine rl_gv rfl rfl rfl rfl rfl (ov_move rfl rfl) <| rl_gv rfl rfl rfl rfl rfl (ov_neq rfl rfl rfl) <| rl_v rfl rfl rfl (ov_pick_f rfl rfl rfl) <| rl_v rfl rfl rfl (ov_move rfl rfl) ?_
  first | refine rl_noD 71 rfl (fun h => h rfl) ?_ | refine rl_no 71 rfl (fun h => h rfl) ?_
  refine rl_gv rfl rfl rfl rfl rfl (ov_move rfl rfl) <| rl_gv rfl rfl rfl rfl rfl (ov_neq rfl rfl rfl) <| rl_v rfl rfl rfl (ov_pick_f rfl rfl rfl) <| rl_v rfl rfl rfl (ov_move rfl rfl) ?_
  first | refine rl_noD 75 rfl (fun h => h rfl) ?_ | refine rl_no 75 rfl (fun h => h rfl) ?_
  refine rl_gv rfl rfl rfl rfl rfl (ov_fieldS rfl Try.underlying64 rfl (fo := 0) rfl (by kernel_rfl) rfl) ?_
  refine rl_gv rfl rfl rfl rfl rfl (ov_load rfl Try.underlying2 rfl rfl (by exact (hH8.own).cellL 1 rfl (off := 0) rfl)) ?_
  refine rl_gv rfl rfl rfl rfl rfl (ov_fieldS rfl Try.underlying49 rfl (fo := 0) rfl (by kernel_rfl) rfl) ?_
  refine rl_gv rfl rfl rfl rfl rfl (ov_load rfl Try.underlying2 rfl rfl (by exact (hH8.own).cellL 0 rfl (off := 0) rfl)) ?_
  refine rl_gv rfl rfl rfl rfl rfl (ov_neq rfl rfl rfl) <| rl_v rfl rfl rfl (ov_pick_f rfl rfl rfl) <| rl_v rfl rfl rfl (ov_move rfl rfl) ?_
  first | refine rl_noD 82 rfl (fun h => h rfl) ?_ | refine rl_no 82 rfl (fun h => h rfl) ?_
  refine rl_gv rfl rfl rfl rfl rfl (ov_fieldS rfl Try.underlying64 rfl (fo := 1) rfl (by kernel_rfl) rfl) ?_
  refine rl_gv rfl rfl rfl rfl rfl (ov_load rfl Try.underlying2 rfl rfl (by exact (hH8.own).cellL 1 rfl (off := 1) rfl)) ?_
  refine rl_gv rfl rfl rfl rfl rfl (ov_fieldS rfl Try.underlying49 rfl (fo := 1) rfl (by kernel_rfl) rfl) ?_
  refine rl_gv rfl rfl rfl rfl rfl (ov_load rfl Try.underlying2 rfl rfl (by exact (hH8.own).cellL 0 rfl (off := 1) rfl)) ?_
  refine rl_gv rfl rfl rfl rfl rfl (ov_neq rfl rfl rfl) <| rl_v rfl rfl rfl (ov_pick_f rfl rfl rfl) <| rl_v rfl rfl rfl (ov_move rfl rfl) ?_
  first | refine rl_noD 89 rfl (fun h => h rfl) ?_ | refine rl_no 89 rfl (fun h => h rfl) ?_
  refine rl_gv rfl rfl rfl rfl rfl (ov_fieldS rfl Try.underlying64 rfl (fo := 3) rfl (by kernel_rfl) rfl) ?_
  refine rl_gv rfl rfl rfl rfl rfl (ov_load rfl Try.underlying4 rfl rfl (by exact (hH8.own).cellL 1 rfl (off := 3) rfl)) ?_
  refine rl_gv rfl rfl rfl rfl rfl (ov_fieldS rfl Try.underlying49 rfl (fo := 3) rfl (by kernel_rfl) rfl) ?_
  refine rl_gv rfl rfl rfl rfl rfl (ov_load rfl Try.underlying4 rfl rfl (by exact (hH8.own).cellL 0 rfl (off := 3) rfl)) ?_
  refine rl_gv rfl rfl rfl rfl rfl (ov_neqB rfl Try.underlying4 rfl rfl) <| rl_v rfl rfl rfl (ov_pick_f rfl rfl rfl) <| rl_v rfl rfl rfl (ov_move rfl rfl) ?_
  first | refine rl_noD 96 rfl (fun h => h rfl) ?_ | refine rl_no 96 rfl (fun h => h rfl) ?_
  refine rl_gv rfl rfl rfl rfl rfl (ov_fieldS rfl Try.underlying64 rfl (fo := 2) rfl (by kernel_rfl) rfl) ?_
  refine rl_gv rfl rfl rfl rfl rfl (ov_load rfl Try.underlying22 rfl rfl (by exact (hH8.own).cellL 1 rfl (off := 2) rfl)) ?_
  refine rl_gv rfl rfl rfl rfl rfl (ov_fieldS rfl Try.underlying49 rfl (fo := 2) rfl (by kernel_rfl) rfl) ?_
  refine rl_gv rfl rfl rfl rfl rfl (ov_load rfl Try.underlying22 rfl rfl (by exact (hH8.own).cellL 0 rfl (off := 2) rfl)) ?_
  refine rl_gcall callable_84 rfl rfl rfl rfl rfl rfl rfl rfl (rLongs hH8 (srcRow hra (k := 2) rfl) ((hI.qv (i - 1) (by omega) (by omega)).sub (.cons _ (.cons _ (.cons _ hs3)))) (fun _ _ _ => rfl) (by omega)) (fun e30 w31 hp32 => ?_)
  obtain ⟨rfl, hH9⟩ := hp32
  refine ⟨_, rfl, ?_⟩
  refine rl_gv rfl rfl rfl rfl rfl (ov_not rfl rfl) <| rl_v rfl rfl rfl (ov_pick_f rfl rfl rfl) <| rl_v rfl rfl rfl (ov_move rfl rfl) ?_
  first | refine rl_noD 104 rfl (rfl) ?_ | refine rl_no 104 rfl (rfl) ?_
  refine rl_gv rfl rfl rfl rfl rfl (ov_move rfl rfl) <| rl_gv rfl rfl rfl rfl rfl (ov_loadW rfl Try.underlying34 rfl (by kernel_rfl) rfl (hH9.own) 3 rfl) ?_
  refine rl_gv rfl rfl rfl rfl rfl (ov_move rfl rfl) ?_
  refine rl_gcall callable_85 rfl rfl rfl rfl rfl rfl rfl rfl (rMargin K hH9 hI (.cons _ (.cons _ (.cons _ hs3))) hX i hii) (fun e33 w34 hp35 => ?_)
  obtain ⟨rfl, hH10⟩ := hp35
  refine ⟨_, rfl, ?_⟩
  refine rl_gv rfl rfl rfl rfl rfl (ov_neq rfl rfl rfl) <| rl_v rfl rfl rfl (ov_pick_f rfl rfl rfl) <| rl_v rfl rfl rfl (ov_move rfl rfl) ?_
  first | refine rl_noD 111 rfl (fun h => h rfl) ?_ | refine rl_no 111 rfl (fun h => h rfl) ?_
  refine rl_gv rfl rfl rfl rfl rfl (ov_move rfl rfl) <| rl_gv rfl rfl rfl rfl rfl (ov_move rfl rfl) <| rl_gv rfl rfl rfl rfl rfl (ov_neq rfl rfl rfl) <| rl_v rfl rfl rfl (ov_pick_f rfl rfl rfl) <| rl_v rfl rfl rfl (ov_move rfl rfl) ?_
  first | refine rl_noD 116 rfl (fun h => h rfl) ?_ | refine rl_no 116 rfl (fun h => h rfl) ?_
  refine rl_gv rfl rfl rfl rfl rfl (ov_move rfl rfl) <| rl_gv rfl rfl rfl rfl rfl (ov_move rfl rfl) <| rl_gv rfl rfl rfl rfl rfl (ov_neq rfl rfl rfl) <| rl_v rfl rfl rfl (ov_pick_f rfl rfl rfl) <| rl_nil ?_
  first | refine run_cond_dec rfl (fun bad => ?_) (fun bad => ?_) | refine run_cond rfl (fun bad => ?_) (fun bad => ?_)
  ·exfalso; exact bad rfl
  ·refine run_skip <| run_inBlock <| run_region <| rl_v rfl rfl rfl (ov_move rfl rfl) <| rl_v rfl rfl rfl (ov_add rfl rfl rfl (by omega)) ?_
   refine rl_v rfl rfl rfl (ov_assign rfl rfl) <| rl_nil ?_
   refine Run.use (ih5 (i + 1) _ ?_ ?_) (And.intro (by exact slot_int rfl (by first | omega)) (And.intro rfl (And.intro rfl trivial)))
   ·first | omega | (dsimp only; omega)
   ·exact ⟨by omega, hH10.shed.shed.shed⟩
 ·refine run_exit rfl <| run_seq <| run_seq <| run_region <| rl_v rfl rfl rfl (ov_assign rfl rfl) <| rl_nil <| run_block <| Run.keep [0, 3, 16] (F' := [(0, _), (3, _), (16, _)]) rfl <| run_loop1 (fun (m : Int) => [(16, .int .i64 m)]) [0, 3] (fun (m : Int) (w36 : World) => (0 ≤ m ∧ m ≤ X.mn) ∧ HAt B w0 w36 hb X Pl (some (lch b3 34 (ghL X K)) :: R)) (fun (m : Int) => ((X.mn : Int) - m).toNat) (0) ?_ (And.intro (by exact slot_int rfl (by first | omega)) (And.intro rfl (And.intro rfl trivial))) ?_
  ·exact ⟨by omega, hH2⟩
  intro m w36 hIw36 ih37
  obtain ⟨hm, hH3⟩ := hIw36
  show Run _ _ _ _ [(16, _), (0, _), (3, _)] _ _
  refine run_seq <| run_seq <| run_region <| rl_v rfl rfl rfl (ov_move rfl rfl) <| rl_v rfl rfl rfl (ov_fieldS rfl Try.underlying34 rfl (fo := 6) rfl (by kernel_rfl) rfl) ?_
  refine rl_v rfl rfl rfl (ov_load rfl Try.underlying22 rfl rfl (by exact (hH3.own).cellL 0 rfl (off := 6) rfl)) ?_
  refine rl_v rfl rfl rfl (ov_len rfl Try.underlying22 rfl) <| rl_v rfl rfl rfl (ov_lss rfl rfl rfl) <| rl_nil ?_
  first | refine run_cond_dec rfl (fun h2 => ?_) (fun h2 => ?_) | refine run_cond rfl (fun h2 => ?_) (fun h2 => ?_)
  ·have hmm : X.hasM m := ⟨by omega, by omega⟩
   refine run_skip <| run_seq <| run_block <| run_seq <| run_region <| rl_v rfl rfl rfl (ov_move rfl rfl) <| rl_v rfl rfl rfl (ov_move rfl rfl) ?_
   refine rl_call callable_20 rfl rfl rfl rfl rfl rfl (price_in hb B X Pl _ w0 w36 hH3 hG m hmm) (fun e38 w39 hp40 => ?_)
   obtain ⟨rfl, hH4⟩ := hp40
   refine ⟨_, rfl, ?_⟩
   refine rl_v rfl rfl rfl (ov_move rfl rfl) <| rl_v rfl rfl rfl (ov_extract rfl rfl (by rfl)) ?_
   refine rl_v rfl rfl rfl (ov_extract rfl rfl (by rfl)) ?_
   refine rl_v rfl rfl rfl (ov_assign rfl rfl) <| rl_v rfl rfl rfl (ov_assign rfl rfl) <| rl_nil <| run_seq <| run_region <| rl_v rfl rfl rfl (ov_move rfl rfl) <| rl_v rfl rfl rfl (ov_neq rfl rfl rfl) <| rl_v rfl rfl rfl (ov_move rfl rfl) ?_
   first | refine rl_noD 136 rfl (fun h => h rfl) ?_ | refine rl_no 136 rfl (fun h => h rfl) ?_
   refine rl_gv rfl rfl rfl rfl rfl (ov_move rfl rfl) <| rl_gv rfl rfl rfl rfl rfl (ov_fieldS rfl Try.underlying34 rfl (fo := 6) rfl (by kernel_rfl) rfl) ?_
   refine rl_gv rfl rfl rfl rfl rfl (ov_load rfl Try.underlying22 rfl rfl (by exact (hH4.own).cellL 0 rfl (off := 6) rfl)) ?_
   refine rl_gv rfl rfl rfl rfl rfl (ov_move rfl rfl) <| rl_gv rfl rfl rfl rfl rfl (ov_index1 rfl Try.underlying22 (by kernel_rfl) rfl rfl ⟨by omega, by omega⟩ (by exact (id ep0))) ?_
   refine rl_gv rfl rfl rfl rfl rfl (ov_load rfl Try.underlying2 rfl rfl (by exact rp0 ((hH4.own).sub hs3) m (by omega) (by omega))) ?_
   refine rl_gv rfl rfl rfl rfl rfl (ov_neq rfl rfl rfl) <| rl_v rfl rfl rfl (ov_pick_f rfl rfl rfl) <| rl_nil ?_
   first | refine run_cond_dec rfl (fun bad => ?_) (fun bad => ?_) | refine run_cond rfl (fun bad => ?_) (fun bad => ?_)
   ·exfalso; exact bad rfl
   ·refine run_skip <| run_inBlock <| run_region <| rl_v rfl rfl rfl (ov_move rfl rfl) <| rl_v rfl rfl rfl (ov_add rfl rfl rfl (by omega)) ?_
    refine rl_v rfl rfl rfl (ov_assign rfl rfl) <| rl_nil ?_
    refine Run.use (ih37 (m + 1) _ ?_ ?_) (And.intro (by exact slot_int rfl (by first | omega)) (And.intro rfl (And.intro rfl trivial)))
    ·first | omega | (dsimp only; omega)
    ·exact ⟨by omega, hH4⟩
  ·refine run_exit rfl <| run_seq <| run_seq <| run_region <| rl_v rfl rfl rfl (ov_assign rfl rfl) <| rl_nil <| run_block <| Run.keep [0, 3, 19] (F' := [(0, _), (3, _), (19, _)]) rfl <| run_loop1 (fun (n : Int) => [(19, .int .i64 n)]) [0, 3] (fun (n : Int) (w41 : World) => (1 ≤ n ∧ n ≤ (X.n : Int) + 1) ∧ HAt B w0 w41 hb X Pl (some (lch b3 34 (ghL X K)) :: R)) (fun (n : Int) => ((X.n : Int) + 1 - n).toNat) (1) ?_ (And.intro (by exact slot_int rfl (by first | omega)) (And.intro rfl (And.intro rfl trivial))) ?_
   ·exact ⟨by omega, hH3⟩
   intro n w41 hIw41 ih42
   obtain ⟨hn, hH4⟩ := hIw41
   show Run _ _ _ _ [(19, _), (0, _), (3, _)] _ _
   refine run_seq <| run_seq <| run_region <| rl_v rfl rfl rfl (ov_move rfl rfl) <| rl_v rfl rfl rfl (ov_fieldS rfl Try.underlying34 rfl (fo := 8) rfl (by kernel_rfl) rfl) ?_
   refine rl_v rfl rfl rfl (ov_load rfl Try.underlying32 rfl rfl (by exact (hH4.own).cellL 0 rfl (off := 8) rfl)) ?_
   refine rl_v rfl rfl rfl (ov_len rfl Try.underlying32 rfl) <| rl_v rfl rfl rfl (ov_leq rfl rfl rfl) <| rl_nil ?_
   first | refine run_cond_dec rfl (fun h3 => ?_) (fun h3 => ?_) | refine run_cond rfl (fun h3 => ?_) (fun h3 => ?_)
   ·have hcc : X.hasC n := ⟨by omega, by omega⟩
    obtain ⟨cb0, co0, ec0, rc0⟩ := hI.cv.at (by decide) ((hH4.own).sub hs3) (show 0 < X.n by omega)
    refine run_skip <| run_seq <| run_block <| run_seq <| run_region <| rl_v rfl rfl rfl (ov_move rfl rfl) <| rl_v rfl rfl rfl (ov_move rfl rfl) ?_
    refine rl_call callable_39 rfl rfl rfl rfl rfl rfl (contract_in hb B X Pl _ w0 w41 hH4 hG n hcc) (fun e43 w44 hp45 => ?_)
    obtain ⟨rfl, hH5⟩ := hp45
    refine ⟨_, rfl, ?_⟩
    obtain ⟨K4, N4, hO7, hK4, hP4⟩ := hH5.open
    refine rl_v rfl rfl rfl (ov_move rfl rfl) <| rl_v rfl rfl rfl (ov_extract rfl rfl (by rfl)) ?_
    refine rl_v rfl rfl rfl (ov_extract rfl rfl (by rfl)) ?_
    refine rl_ow rfl (ow_alloc _ rfl rfl rfl zero_45 rfl hO7) ?_
    rintro _ w46 ⟨b20, rfl, hO47, hs48⟩
    refine rl_ow rfl (ow_storeW rfl rfl (by kernel_rfl) hO47 0 rfl rfl (by rfl) rfl (by rfl)) ?_
    rintro _ w49 ⟨rfl, hO50, hs51⟩
    have hH6 : HAt B w0 w49 hb X Pl (some (lch b20 45 (ctL (X.ct (n - 1)))) :: some (lch b3 34 (ghL X K)) :: R) := HAt.put hO50 hK4 hP4
    refine rl_v rfl rfl rfl (ov_assign rfl rfl) <| rl_nil <| run_seq <| run_class (fun w' => HAt B w0 w' hb X Pl (some (lch b20 45 (ctL (X.ct (n - 1)))) :: some (lch b3 34 (ghL X K)) :: R)) (hH6.drewH) mixed (by kernel_rfl) ?_
    refine rk_v rfl rfl rfl (fun wq hQ => ov_move rfl rfl) ?_
    refine rk_v rfl rfl rfl (fun wq hQ => ov_neq rfl rfl rfl) ?_
    refine rk_v rfl rfl rfl (fun wq hQ => ov_move rfl rfl) ?_
    first | refine rk_noD 160 rfl (fun h => h rfl) ?_ | refine rk_no 160 rfl (fun h => h rfl) ?_
    refine rk_gv rfl rfl rfl rfl rfl (fun wq hQ => ov_loadW rfl Try.underlying45 rfl (by kernel_rfl) rfl (hQ.own) 0 (rfl)) ?_
    refine rk_gv rfl rfl rfl rfl rfl (fun wq hQ => ov_fieldS rfl Try.underlying34 rfl (fo := 8) rfl (by kernel_rfl) rfl) ?_
    refine rk_gv rfl rfl rfl rfl rfl (fun wq hQ => ov_load rfl Try.underlying32 rfl rfl (by exact (hQ.own).cellL 1 rfl (off := 8) rfl)) ?_
    refine rk_gv rfl rfl rfl rfl rfl (fun wq hQ => ov_move rfl rfl) ?_
    refine rk_gv rfl rfl rfl rfl rfl (fun wq hQ => ov_sub rfl rfl rfl (by omega)) ?_
    refine rk_gv rfl rfl rfl rfl rfl (fun wq hQ => ov_index rfl Try.underlying32 (by kernel_rfl) (s := 5) rfl rfl ⟨by omega, by omega⟩ (by exact (id ec0))) ?_
    refine rk_gv rfl rfl rfl rfl rfl (fun wq hQ => ov_loadE rfl Try.underlying146 rfl (by kernel_rfl) rfl ⟨by omega, by omega⟩ rfl ((rc0 ((hQ.own).sub (.cons _ hs3))))) ?_
    refine rk_gv rfl rfl rfl rfl rfl (fun wq hQ => ov_neqCt (c := X.ct (n - 1)) rfl rfl rfl) ?_
    refine rk_v rfl rfl rfl (fun wq hQ => ov_pick_f rfl rfl rfl) ?_
    refine rk_nil (fun w52 hH7 => ?_)
    refine run_cond_f rfl <| run_skip <| run_inBlock <| run_region <| rl_v rfl rfl rfl (ov_move rfl rfl) <| rl_v rfl rfl rfl (ov_add rfl rfl rfl (by omega)) ?_
    refine rl_v rfl rfl rfl (ov_assign rfl rfl) <| rl_nil ?_
    refine Run.use (ih42 (n + 1) _ ?_ ?_) (And.intro (by exact slot_int rfl (by first | omega)) (And.intro rfl (And.intro rfl trivial)))
    ·first | omega | (dsimp only; omega)
    ·exact ⟨by omega, hH7.shed⟩
   ·refine run_exit rfl <| run_seq <| run_seq <| run_region <| rl_v rfl rfl rfl (ov_assign rfl rfl) <| rl_nil <| run_block <| Run.keep [0, 3, 22] (F' := [(0, _), (3, _), (22, _)]) rfl <| run_loop1 (fun (s : Int) => [(22, .int .i64 s)]) [0, 3] (fun (s : Int) (w53 : World) => (0 ≤ s ∧ s ≤ X.k) ∧ HAt B w0 w53 hb X Pl (some (lch b3 34 (ghL X K)) :: R)) (fun (s : Int) => ((X.k : Int) - s).toNat) (0) ?_ (And.intro (by exact slot_int rfl (by first | omega)) (And.intro rfl (And.intro rfl trivial))) ?_
    ·exact ⟨by omega, hH4⟩
    intro s w53 hIw53 ih54
    obtain ⟨hsi, hH5⟩ := hIw53
    show Run _ _ _ _ [(22, _), (0, _), (3, _)] _ _
    refine run_seq <| run_seq <| run_region <| rl_v rfl rfl rfl (ov_move rfl rfl) <| rl_v rfl rfl rfl (ov_fieldS rfl Try.underlying34 rfl (fo := 0) rfl (by kernel_rfl) rfl) ?_
    refine rl_v rfl rfl rfl (ov_fieldS rfl Try.underlying25 rfl (fo := 3) rfl (by kernel_rfl) rfl) ?_
    refine rl_v rfl rfl rfl (ov_load rfl Try.underlying23 rfl rfl (by exact (hH5.own).cellL 0 rfl (off := 3) rfl)) ?_
    refine rl_v rfl rfl rfl (ov_len rfl Try.underlying23 rfl) <| rl_v rfl rfl rfl (ov_lss rfl rfl rfl) <| rl_nil ?_
    first | refine run_cond_dec rfl (fun h4 => ?_) (fun h4 => ?_) | refine run_cond rfl (fun h4 => ?_) (fun h4 => ?_)
    ·have hss : X.hasS s := ⟨by omega, by omega⟩
     refine run_skip <| run_seq <| run_block <| run_seq <| run_region <| rl_v rfl rfl rfl (ov_move rfl rfl) <| rl_v rfl rfl rfl (ov_move rfl rfl) ?_
     refine rl_call callable_40 rfl rfl rfl rfl rfl rfl (stress_in hb B X Pl _ w0 w53 hH5 hG s hss) (fun e55 w56 hp57 => ?_)
     obtain ⟨vs, cs, rfl, hrs, hH6⟩ := hp57
     refine ⟨_, rfl, ?_⟩
     obtain ⟨as4, ps, rfl⟩ := hrs.val
     refine rl_v rfl rfl rfl (ov_move rfl rfl) <| rl_v rfl rfl rfl (ov_extract rfl rfl (by rfl)) ?_
     refine rl_v rfl rfl rfl (ov_extract rfl rfl (by rfl)) ?_
     refine rl_v rfl rfl rfl (ov_assign rfl rfl) <| rl_v rfl rfl rfl (ov_assign rfl rfl) <| rl_nil <| run_seq <| run_region <| rl_v rfl rfl rfl (ov_move rfl rfl) <| rl_v rfl rfl rfl (ov_neq rfl rfl rfl) <| rl_v rfl rfl rfl (ov_move rfl rfl) ?_
     first | refine rl_noD 186 rfl (fun h => h rfl) ?_ | refine rl_no 186 rfl (fun h => h rfl) ?_
     refine rl_gv rfl rfl rfl rfl rfl (ov_move rfl rfl) <| rl_gv rfl rfl rfl rfl rfl (ov_loadW rfl Try.underlying34 rfl (by kernel_rfl) rfl (hH6.own) 1 rfl) ?_
     refine rl_gv rfl rfl rfl rfl rfl (ov_move rfl rfl) ?_
     refine rl_gcall callable_86 rfl rfl rfl rfl rfl rfl rfl rfl (rStress K hH6 hI (.cons _ hs3) hX s hss) (fun e58 w59 hp60 => ?_)
     obtain ⟨ct, ⟨vt, rfl, hrt⟩, hH7⟩ := hp60
     refine ⟨_, rfl, ?_⟩
     obtain ⟨at', pt, rfl⟩ := hrt.val
     refine rl_gcall callable_84 rfl rfl rfl rfl rfl rfl rfl rfl (rLongs hH7 (srcRow hrs (k := 1) rfl) (srcRow hrt (k := 0) rfl) (fun _ _ _ => rfl) (by omega)) (fun e61 w62 hp63 => ?_)
     obtain ⟨rfl, hH8⟩ := hp63
     refine ⟨_, rfl, ?_⟩
     refine rl_gv rfl rfl rfl rfl rfl (ov_not rfl rfl) <| rl_v rfl rfl rfl (ov_pick_f rfl rfl rfl) <| rl_nil <| run_cond_f rfl <| run_skip <| run_inBlock <| run_region <| rl_v rfl rfl rfl (ov_move rfl rfl) <| rl_v rfl rfl rfl (ov_add rfl rfl rfl (by omega)) ?_
     refine rl_v rfl rfl rfl (ov_assign rfl rfl) <| rl_nil ?_
     refine Run.use (ih54 (s + 1) _ ?_ ?_) (And.intro (by exact slot_int rfl (by first | omega)) (And.intro rfl (And.intro rfl trivial)))
     ·first | omega | (dsimp only; omega)
     ·exact ⟨by omega, hH8.shed.shed⟩
    ·refine run_exit rfl <| run_seq <| run_region <| rl_v rfl rfl rfl (ov_move rfl rfl) ?_
     refine rl_call callable_41 rfl rfl rfl rfl rfl rfl (capital_any hb B X Pl _ w0 w53 hH5) (fun e64 w65 hp66 => ?_)
     obtain ⟨rfl, hH6⟩ := hp66
     refine ⟨_, rfl, ?_⟩
     obtain ⟨K5, N5, hO8, hK5, hP5⟩ := hH6.open
     refine rl_v rfl rfl rfl (ov_move rfl rfl) <| rl_v rfl rfl rfl (ov_extract rfl rfl (by rfl)) ?_
     refine rl_v rfl rfl rfl (ov_extract rfl rfl (by rfl)) ?_
     refine rl_v rfl rfl rfl (ov_assign rfl rfl) <| rl_v rfl rfl rfl (ov_assign rfl rfl) <| rl_nil <| run_seq <| run_held (fun w' => Own B w0 w' ([some (lch b3 34 (ghL X K))])) mixed ?_
     have hO68 := hO8.drew
     generalize World.drew w65 = w67 at hO68 ⊢
     have hS69 : Own B w0 w67 ([some (lch b3 34 (ghL X K))]) := by first | exact hO68.sub (.cons _ (.cons _ ((List.Sublist.cons_cons _ (List.nil_sublist _)).trans (List.sublist_append_right _ _)))) | exact hO68.sub (.cons _ (.cons _ ((List.Sublist.cons _ (.cons_cons _ (List.nil_sublist _))).trans (List.sublist_append_right _ _)))) | exact hO68.sub (.cons _ (.cons _ ((List.Sublist.cons _ (.cons _ (.cons_cons _ (List.nil_sublist _)))).trans (List.sublist_append_right _ _))))
     refine rh_v 0 rfl (by kernel_rfl) rfl rfl rfl hS69 (fun _ hS => ov_move rfl rfl) ?_
     refine rh_v 1 rfl (by kernel_rfl) rfl rfl rfl hS69 (fun _ hS => ov_fieldS rfl Try.underlying34 rfl (fo := 9) rfl (by kernel_rfl) rfl) ?_
     refine rh_v 2 rfl (by kernel_rfl) rfl rfl rfl hS69 (fun _ hS => ov_load rfl Try.underlying2 rfl rfl (by exact hS.cellL 0 rfl (off := 9) rfl)) ?_
     refine rh_v 3 rfl (by kernel_rfl) rfl rfl rfl hS69 (fun _ hS => ov_eql rfl rfl rfl) ?_
     refine rh_v 4 rfl (by kernel_rfl) rfl rfl rfl hS69 (fun _ hS => ov_move rfl rfl) ?_
     first | refine rh_yesD 203 rfl (rfl) ?_ | refine rh_yes 203 rfl (rfl) ?_
     refine rh_gv 5 rfl (by kernel_rfl) rfl rfl rfl rfl rfl hS69 (fun _ hS => ov_move rfl rfl) ?_
     refine rh_gv 6 rfl (by kernel_rfl) rfl rfl rfl rfl rfl hS69 (fun _ hS => ov_fieldS rfl Try.underlying34 rfl (fo := 10) rfl (by kernel_rfl) rfl) ?_
     refine rh_gv 7 rfl (by kernel_rfl) rfl rfl rfl rfl rfl hS69 (fun _ hS => ov_load rfl Try.underlying2 rfl rfl (by exact hS.cellL 0 rfl (off := 10) rfl)) ?_
     refine rh_gv 8 rfl (by kernel_rfl) rfl rfl rfl rfl rfl hS69 (fun _ hS => ov_eql rfl rfl rfl) ?_
     refine rh_v 9 rfl (by kernel_rfl) rfl rfl rfl hS69 (fun _ hS => ov_pick_t rfl rfl rfl) ?_
     refine rh_v 10 rfl (by kernel_rfl) rfl rfl rfl hS69 (fun _ hS => ov_move rfl rfl) ?_
     first | refine rh_yesD 209 rfl (rfl) ?_ | refine rh_yes 209 rfl (rfl) ?_
     refine rh_gv 11 rfl (by kernel_rfl) rfl rfl rfl rfl rfl hS69 (fun _ hS => ov_move rfl rfl) ?_
     refine rh_gv 13 rfl (by kernel_rfl) rfl rfl rfl rfl rfl hS69 (fun _ hS => ov_loadW rfl Try.underlying34 rfl (by kernel_rfl) rfl hS 0 rfl) ?_
     refine rh_any1 12 (by kernel_rfl) ?_
     refine rc_gop rfl rfl rfl rfl (ow_call2 callable_32 rfl rfl rfl rfl rfl (calls_in hb B X Pl _ w0 w67 (HAt.mk hO68 hK5 hP5) hG) (by intro e w' hp; obtain ⟨v1, c1, rfl, hr1, hlen, hH7⟩ := hp; exact ⟨_, rfl⟩)) ?_
     rintro _ w72 ⟨_, v70, he73, rfl, hp71⟩
     obtain ⟨v1, c1, rfl, hr1, hlen, hH7⟩ := hp71
     injection he73 with he73; subst he73
     obtain ⟨a1, p1, rfl⟩ := hr1.val
     obtain ⟨K6, N6, hO9, hK6, hP6⟩ := hH7.open
     have hS74 : Own B w0 w72 ([some (lch b3 34 (ghL X K))]) := by first | exact hO9.sub (.cons _ (.cons _ ((List.Sublist.cons_cons _ (List.nil_sublist _)).trans (List.sublist_append_right _ _)))) | exact hO9.sub (.cons _ (.cons _ ((List.Sublist.cons _ (.cons_cons _ (List.nil_sublist _))).trans (List.sublist_append_right _ _)))) | exact hO9.sub (.cons _ (.cons _ ((List.Sublist.cons _ (.cons _ (.cons_cons _ (List.nil_sublist _)))).trans (List.sublist_append_right _ _))))
     refine ⟨hS74, ?_⟩
     refine rh_any1 14 (by kernel_rfl) ?_
     refine rc_gop rfl rfl rfl rfl (ow_call2 callable_80 rfl rfl rfl rfl rfl (rCalls K (HAt.mk hO9 hK6 hP6) hI (.cons _ hs3) hX) (by intro e w' hp; obtain ⟨c2, ⟨v2, rfl, hr2⟩, hH8⟩ := hp; exact ⟨_, rfl⟩)) ?_
     rintro _ w77 ⟨_, v75, he78, rfl, hp76⟩
     obtain ⟨c2, ⟨v2, rfl, hr2⟩, hH8⟩ := hp76
     injection he78 with he78; subst he78
     obtain ⟨a2, p2, rfl⟩ := hr2.val
     obtain ⟨K7, N7, hO10, hK7, hP7⟩ := hH8.open
     have hS79 : Own B w0 w77 ([some (lch b3 34 (ghL X K))]) := by first | exact hO10.sub (.cons _ (.cons _ ((List.Sublist.cons_cons _ (List.nil_sublist _)).trans (List.sublist_append_right _ _)))) | exact hO10.sub (.cons _ (.cons _ ((List.Sublist.cons _ (.cons_cons _ (List.nil_sublist _))).trans (List.sublist_append_right _ _)))) | exact hO10.sub (.cons _ (.cons _ ((List.Sublist.cons _ (.cons _ (.cons_cons _ (List.nil_sublist _)))).trans (List.sublist_append_right _ _))))
     refine ⟨hS79, ?_⟩
     refine rh_any1 15 (by kernel_rfl) ?_
     refine rc_gop rfl rfl rfl rfl (ow_call2 callable_81 rfl rfl rfl rfl rfl (rInts (HAt.mk hO10 hK7 hP7) (srcRow hr1 (k := 1) rfl) (srcRow hr2 (k := 0) rfl) (fun _ _ _ => rfl) (by omega)) (by intro e w' hp; obtain ⟨rfl, hH9⟩ := hp; exact ⟨_, rfl⟩)) ?_
     rintro _ w82 ⟨_, v80, he83, rfl, hp81⟩
     obtain ⟨rfl, hH9⟩ := hp81
     injection he83 with he83; subst he83
     obtain ⟨K8, N8, hO11, hK8, hP8⟩ := hH9.open
     have hS84 : Own B w0 w82 ([some (lch b3 34 (ghL X K))]) := by first | exact hO11.sub (.cons _ (.cons _ ((List.Sublist.cons_cons _ (List.nil_sublist _)).trans (List.sublist_append_right _ _)))) | exact hO11.sub (.cons _ (.cons _ ((List.Sublist.cons _ (.cons_cons _ (List.nil_sublist _))).trans (List.sublist_append_right _ _)))) | exact hO11.sub (.cons _ (.cons _ ((List.Sublist.cons _ (.cons _ (.cons_cons _ (List.nil_sublist _)))).trans (List.sublist_append_right _ _))))
     refine ⟨hS84, ?_⟩
     refine rh_v 16 rfl (by kernel_rfl) rfl rfl rfl hS84 (fun _ hS => ov_pick_t rfl rfl rfl) ?_
     refine rh_v 17 rfl (by kernel_rfl) rfl rfl rfl hS84 (fun _ hS => ov_move rfl rfl) ?_
     first | refine rh_yesD 216 rfl (rfl) ?_ | refine rh_yes 216 rfl (rfl) ?_
     refine rh_gv 18 rfl (by kernel_rfl) rfl rfl rfl rfl rfl hS84 (fun _ hS => ov_move rfl rfl) ?_
     refine rh_gv 20 rfl (by kernel_rfl) rfl rfl rfl rfl rfl hS84 (fun _ hS => ov_loadW rfl Try.underlying34 rfl (by kernel_rfl) rfl hS 0 rfl) ?_
     refine rh_any1 19 (by kernel_rfl) ?_
     refine rc_gop rfl rfl rfl rfl (ow_call2 callable_30 rfl rfl rfl rfl rfl (total_any hb B X Pl _ w0 w82 (HAt.mk hO11 hK8 hP8) hG) (by intro e w' hp; obtain ⟨rfl, hH10⟩ := hp; exact ⟨_, rfl⟩)) ?_
     rintro _ w87 ⟨_, v85, he88, rfl, hp86⟩
     obtain ⟨rfl, hH10⟩ := hp86
     injection he88 with he88; subst he88
     obtain ⟨K9, N9, hO12, hK9, hP9⟩ := hH10.open
     have hS89 : Own B w0 w87 ([some (lch b3 34 (ghL X K))]) := by first | exact hO12.sub (.cons _ (.cons _ ((List.Sublist.cons_cons _ (List.nil_sublist _)).trans (List.sublist_append_right _ _)))) | exact hO12.sub (.cons _ (.cons _ ((List.Sublist.cons _ (.cons_cons _ (List.nil_sublist _))).trans (List.sublist_append_right _ _)))) | exact hO12.sub (.cons _ (.cons _ ((List.Sublist.cons _ (.cons _ (.cons_cons _ (List.nil_sublist _)))).trans (List.sublist_append_right _ _))))
     refine ⟨hS89, ?_⟩
     refine rh_any1 21 (by kernel_rfl) ?_
     refine rc_gop rfl rfl rfl rfl (ow_call2 callable_87 rfl rfl rfl rfl rfl (rTotal K (HAt.mk hO12 hK9 hP9) hI (.cons _ (.cons _ hs3)) hX) (by intro e w' hp; obtain ⟨rfl, hH11⟩ := hp; exact ⟨_, rfl⟩)) ?_
     rintro _ w92 ⟨_, v90, he93, rfl, hp91⟩
     obtain ⟨rfl, hH11⟩ := hp91
     injection he93 with he93; subst he93
     obtain ⟨K10, N10, hO13, hK10, hP10⟩ := hH11.open
     have hS94 : Own B w0 w92 ([some (lch b3 34 (ghL X K))]) := by first | exact hO13.sub (.cons _ (.cons _ ((List.Sublist.cons_cons _ (List.nil_sublist _)).trans (List.sublist_append_right _ _)))) | exact hO13.sub (.cons _ (.cons _ ((List.Sublist.cons _ (.cons_cons _ (List.nil_sublist _))).trans (List.sublist_append_right _ _)))) | exact hO13.sub (.cons _ (.cons _ ((List.Sublist.cons _ (.cons _ (.cons_cons _ (List.nil_sublist _)))).trans (List.sublist_append_right _ _))))
     refine ⟨hS94, ?_⟩
     refine rh_gv 22 rfl (by kernel_rfl) rfl rfl rfl rfl rfl hS94 (fun _ hS => ov_eql rfl rfl rfl) ?_
     refine rh_v 23 rfl (by kernel_rfl) rfl rfl rfl hS94 (fun _ hS => ov_pick_t rfl rfl rfl) ?_
     refine rh_v 24 rfl (by kernel_rfl) rfl rfl rfl hS94 (fun _ hS => ov_assign rfl rfl) ?_
     refine rh_done (by kernel_rfl) ?_
     refine run_ret Try.func35 (res1 Try.results35 rfl) ?_
     exact ⟨by simp, (HAt.mk hO13 hK10 hP10).shed.shed.shed⟩
end Go.Proofs.Ytfbbagnpdfafjaa
