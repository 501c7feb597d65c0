import Derived.Test.YtbepolognfdkeaaGbW
set_option maxRecDepth 100000
namespace Go.Proofs.Ytbepolognfdkeaa
open Go.RowKit Go.Proofs Go.MapKept
theorem ov_sliceL7 {P : Program} {N : Nat} {o : Oper} {F : Fr} {w : World} {T E : TypeId} {x l : Operand} {ao : Option Addr} {b off n c s : Nat} {k1 : IntKind} {i : Int} (ho : o.op = .slice T x (some l) none none) (hT : P.underlying T = some (.slice E)) (hs : (P.info? E).map (·.size) = some s)
  (hx : Fr.ev F x = some (.slice ao n c)) (hl : Fr.ev F l = some (.int k1 i)) (hb : 0 ≤ i ∧ i ≤ n) (hao : ao = some ⟨b, off, none⟩) :
  OpV P N o F w (.slice (if c = i.toNat then some ⟨b, off, none⟩ else some ⟨b, off + i.toNat * s, none⟩) (n - i.toNat) (c - i.toNat)) := by
 intro a ha
 subst hao
 cases hq : P.info? E with
 | none => simp [hq] at hs
 | some q =>
  have hs' : q.size = s := by simpa [hq] using hs
  unfold execOp
  rw [ho]
  by_cases h3 : c = i.toNat
  ·simp [Instr.sliceAt, Instr.slice, Instr.sliceBounds, Instr.sliceBound, asIntOf, run_underlying hT, ha.ev hx, ha.ev hl, Result.andThen, hb, sizeOf, typeInfo, hq, hs', h3, Addr.add_mid]
  ·simp [Instr.sliceAt, Instr.slice, Instr.sliceBounds, Instr.sliceBound, asIntOf, run_underlying hT, ha.ev hx, ha.ev hl, Result.andThen, hb, sizeOf, typeInfo, hq, hs', h3, Addr.add_mid]
theorem SAt.tail7 {B : Nat} {w : World} {b n c x s : Nat} {G : Int → List Value} (h : SAt B w (some ⟨b, 0, none⟩) s n G) (hx : x ≤ n) (hnc : n ≤ c) : SAt B w (if c = x then some ⟨b, 0, none⟩ else some ⟨b, 0 + x * s, none⟩) s (n - x) (fun i => G (x + i)) := by
 by_cases hc : c = x
 ·rw [if_pos hc, show n - x = 0 by omega]
  exact SAt.nil _ _ _ _ _
 ·rw [if_neg hc]
  obtain ⟨b', off, h1, h2, h3⟩ := h
  refine ⟨b, 0 + x * s, fun _ => rfl, fun hp => ?_, fun k hk => ?_⟩
  ·have h0 : 0 < n * s := Nat.lt_of_lt_of_le hp (Nat.mul_le_mul_right s (Nat.sub_le _ _))
   have := h1 h0
   injection this with this
   injection this with e1 e2 e3
   rw [e1]; exact h2 h0
  ·have h0 : 0 < n * s := Nat.lt_of_le_of_lt (Nat.zero_le k) (Nat.lt_of_lt_of_le hk (Nat.mul_le_mul_right s (Nat.sub_le _ _)))
   have e := h1 h0
   injection e with e
   injection e with e1 e2 e3
   have hk2 : x * s + k < n * s := by
    rw [Nat.sub_mul] at hk
    omega
   have h4 := h3 (x * s + k) hk2
   rw [← e1, ← e2] at h4
   rw [Nat.add_assoc, h4]
   have hs : 0 < s := Nat.pos_of_ne_zero fun e => by rw [e, Nat.mul_zero] at h0; omega
   show some ((G (((x * s + k) / s : Nat) : Int)).getD ((x * s + k) % s) undef) = some ((G ((x : Int) + ((k / s : Nat) : Int))).getD (k % s) undef)
   rw [show (x * s + k) / s = x + k / s by rw [Nat.mul_comm, Nat.mul_add_div hs], show (x * s + k) % s = k % s by rw [Nat.mul_comm, Nat.mul_add_mod]]
   rw [show (((x + k / s : Nat)) : Int) = (x : Int) + ((k / s : Nat) : Int) by omega]
theorem SRow.capU7 {ao : Option Addr} {m cap s : Nat} {E : TypeId} {n : Nat} {G : Int → List Value} {c : Option Blk} (h : SRow (.slice ao m cap) E s n G c) : n ≤ cap := by
 rcases h with ⟨h1, rfl, rfl⟩ | ⟨b, cap', g, h1, h2, h3, rfl, h5⟩
 ·omega
 ·cases h1; exact h2
set_option maxHeartbeats 4000000 in
theorem more7_any (la : Option Addr) (lc : Nat) (l : Lds) (kilns at_ : Int) (w : World) (hc : l.n ≤ lc) (hI : l.I64) (hl : SAt w.heap.size w la 4 l.n (ldF l)) :
  Calls Try.prog 7 #[.slice la l.n lc, iv kilns, iv at_] w fun e w' => e = .returned (.bool true) ∧ Below w.heap.size w w' := by
 obtain ⟨k, hk⟩ : ∃ k, k = 1 + kilns % 18446744073709551616 % 3 := ⟨_, rfl⟩
 have hm := modsD (x := kilns) (m := 3) ⟨by decide, by decide⟩
 obtain ⟨o, ho⟩ : ∃ o, o = l.own 14 false := ⟨_, rfl⟩
 have hV : o.Valid := ho ▸ l.own_valid 14 false
 have hn : o.n ≤ 14 := ho ▸ l.own_le 14 false
 have hk1 : o.chkK k = 0 := Lds.chkK_ok (by omega) hV (by omega)
 have hk2 : o.chkK (k + 1) = 0 := Lds.chkK_ok (by omega) hV (by omega)
 have hk0 : o.chk = 0 := Lds.chk_ok (by omega) hV
 have hdec : ∀ (o : Lds) (k : Int), decide ((0 : Int) = 0 ∧ o.Can k) = decide (o.Can k) := fun o k => decide_eq_decide.2 ⟨And.right, fun h => ⟨rfl, h⟩⟩
 refine calls_of_run (F := [(0, _), (1, _), (2, _)]) Try.func7 rfl Try.ntmps7 rfl rfl ?_
 have hO0 := Own.init w
 refine run_seq <| run_region <| rl_v rfl rfl rfl (ov_assign rfl rfl) <| rl_nil <| run_seq <| run_region <| rl_v rfl rfl rfl (ov_move rfl rfl) <| rl_v rfl rfl rfl (ov_conv rfl Try.underlying3 Try.underlying33 rfl) <| rl_v rfl rfl rfl (ov_rem rfl rfl rfl (u64_nnD _) (by omega)) ?_
 refine rl_v rfl rfl rfl (ov_convTo (hm.1) rfl Try.underlying33 Try.underlying3 rfl) <| rl_v rfl rfl rfl (ov_add rfl rfl rfl (by omega)) ?_
 refine rl_v rfl rfl rfl (ov_assign rfl rfl) <| rl_nil <| run_seq <| run_region <| rl_v rfl rfl rfl (ov_move rfl rfl) ?_
 refine rl_call callable_13 rfl rfl rfl rfl rfl rfl (own7_any la lc l 14 false _ hc (by decide) hI (hO0.satU hl)) (fun e1 w2 hp3 => ?_)
 obtain ⟨va, vc, c, rfl, hr, hOa⟩ := hp3
 refine ⟨_, rfl, ?_⟩
 have hO4 := hO0.join hOa
 rw [← ho] at hr ⊢
 refine rl_v rfl rfl rfl (ov_assign rfl rfl) <| rl_nil <| run_seq <| run_region <| rl_v rfl rfl rfl (ov_move rfl rfl) ?_
 refine rl_call callable_15 rfl rfl rfl rfl rfl rfl (give7_any va vc o _ (by omega) (hr.reads hO4 0 rfl)) (fun e5 w6 hp7 => ?_)
 obtain ⟨xa, xc, cx, rfl, hx, hOb⟩ := hp7
 refine ⟨_, rfl, ?_⟩
 have hO8 := hO4.join hOb
 rw [← hk]
 refine rl_v rfl rfl rfl (ov_move rfl rfl) ?_
 refine rl_call callable_18 rfl rfl rfl rfl rfl rfl (Fits_any xa xc o k _ (by omega) hV.i64 (hx.reads hO8 0 rfl)) (fun e9 w10 hp11 => ?_)
 obtain ⟨rfl, hOc⟩ := hp11
 refine ⟨_, rfl, ?_⟩
 have hO12 := hO8.join hOc
 rw [hk1, hdec]
 refine rl_v rfl rfl rfl (ov_move rfl rfl) <| rl_v rfl rfl rfl (ov_extract rfl rfl (by rfl)) ?_
 refine rl_v rfl rfl rfl (ov_extract rfl rfl (by rfl)) ?_
 refine rl_v rfl rfl rfl (ov_assign rfl rfl) <| rl_v rfl rfl rfl (ov_assign rfl rfl) <| rl_nil <| run_seq <| run_region <| rl_v rfl rfl rfl (ov_move rfl rfl) ?_
 refine rl_call callable_15 rfl rfl rfl rfl rfl rfl (give7_any va vc o _ (by omega) (hr.reads hO12 1 rfl)) (fun e13 w14 hp15 => ?_)
 obtain ⟨xa, xc, cx, rfl, hx, hOb⟩ := hp15
 refine ⟨_, rfl, ?_⟩
 have hO16 := hO12.join hOb
 refine rl_v rfl rfl rfl (ov_move rfl rfl) <| rl_v rfl rfl rfl (ov_add rfl rfl rfl (by omega)) ?_
 refine rl_call callable_18 rfl rfl rfl rfl rfl rfl (Fits_any xa xc o (k + 1) _ (by omega) hV.i64 (hx.reads hO16 0 rfl)) (fun e17 w18 hp19 => ?_)
 obtain ⟨rfl, hOc⟩ := hp19
 refine ⟨_, rfl, ?_⟩
 have hO20 := hO16.join hOc
 rw [hk2, hdec]
 refine rl_v rfl rfl rfl (ov_move rfl rfl) <| rl_v rfl rfl rfl (ov_extract rfl rfl (by rfl)) ?_
 refine rl_v rfl rfl rfl (ov_extract rfl rfl (by rfl)) ?_
 refine rl_v rfl rfl rfl (ov_assign rfl rfl) <| rl_v rfl rfl rfl (ov_assign rfl rfl) <| rl_nil <| run_seq <| run_region <| rl_v rfl rfl rfl (ov_move rfl rfl) ?_
 refine rl_call callable_15 rfl rfl rfl rfl rfl rfl (give7_any va vc o _ (by omega) (hr.reads hO20 2 rfl)) (fun e21 w22 hp23 => ?_)
 obtain ⟨xa, xc, cx, rfl, hx, hOb⟩ := hp23
 refine ⟨_, rfl, ?_⟩
 have hO24 := hO20.join hOb
 refine rl_v rfl rfl rfl (ov_move rfl rfl) ?_
 refine rl_call callable_21 rfl rfl rfl rfl rfl rfl (Delay_any xa xc o k _ (by omega) hV.i64 (hx.reads hO24 0 rfl)) (fun e25 w26 hp27 => ?_)
 obtain ⟨d1, rfl, hD1, hOc⟩ := hp27
 refine ⟨_, rfl, ?_⟩
 have hO28 := hO24.join hOc
 rw [hk1]
 refine rl_v rfl rfl rfl (ov_move rfl rfl) <| rl_v rfl rfl rfl (ov_extract rfl rfl (by rfl)) ?_
 refine rl_v rfl rfl rfl (ov_extract rfl rfl (by rfl)) ?_
 refine rl_v rfl rfl rfl (ov_assign rfl rfl) <| rl_v rfl rfl rfl (ov_assign rfl rfl) <| rl_nil <| run_seq <| run_region <| rl_v rfl rfl rfl (ov_move rfl rfl) ?_
 refine rl_call callable_15 rfl rfl rfl rfl rfl rfl (give7_any va vc o _ (by omega) (hr.reads hO28 3 rfl)) (fun e29 w30 hp31 => ?_)
 obtain ⟨xa, xc, cx, rfl, hx, hOb⟩ := hp31
 refine ⟨_, rfl, ?_⟩
 have hO32 := hO28.join hOb
 refine rl_v rfl rfl rfl (ov_move rfl rfl) <| rl_v rfl rfl rfl (ov_add rfl rfl rfl (by omega)) ?_
 refine rl_call callable_21 rfl rfl rfl rfl rfl rfl (Delay_any xa xc o (k + 1) _ (by omega) hV.i64 (hx.reads hO32 0 rfl)) (fun e33 w34 hp35 => ?_)
 obtain ⟨d2, rfl, hD2, hOc⟩ := hp35
 refine ⟨_, rfl, ?_⟩
 have hO36 := hO32.join hOc
 rw [hk2]
 refine rl_v rfl rfl rfl (ov_move rfl rfl) <| rl_v rfl rfl rfl (ov_extract rfl rfl (by rfl)) ?_
 refine rl_v rfl rfl rfl (ov_extract rfl rfl (by rfl)) ?_
 refine rl_v rfl rfl rfl (ov_assign rfl rfl) <| rl_v rfl rfl rfl (ov_assign rfl rfl) <| rl_nil <| run_seq <| run_region <| rl_v rfl rfl rfl (ov_move rfl rfl) ?_
 refine rl_call callable_15 rfl rfl rfl rfl rfl rfl (give7_any va vc o _ (by omega) (hr.reads hO36 4 rfl)) (fun e37 w38 hp39 => ?_)
 obtain ⟨xa, xc, cx, rfl, hx, hOb⟩ := hp39
 refine ⟨_, rfl, ?_⟩
 have hO40 := hO36.join hOb
 refine rl_call callable_14 rfl rfl rfl rfl rfl rfl (Kilns_any xa xc o _ (by omega) hV.i64 (hx.reads hO40 0 rfl)) (fun e41 w42 hp43 => ?_)
 obtain ⟨n, rfl, hK, hOc⟩ := hp43
 refine ⟨_, rfl, ?_⟩
 have hO44 := hO40.join hOc
 rw [hk0]
 obtain ⟨n0, hcan, hless⟩ := hK.yes hk0
 obtain ⟨a0, a1, a2, a3⟩ := hD1.yes hk1
 obtain ⟨b0, b1, b2, b3⟩ := hD2.yes hk2
 have hd : d2 ≤ d1 := Classical.byContradiction fun h => (b3.resolve_left (by omega)) ((a2.later (show d1 ≤ d2 - 1 by omega)).mono (by omega))
 have hA : decide (o.Can k) = decide (d1 = 0) := decide_eq_decide.2 ⟨fun h => Classical.byContradiction fun h0 => (a3.resolve_left h0) (Lds.Can.later (D := 0) (by rw [Lds.late_zero]; exact h) (by omega)), fun h => by rw [h, Lds.late_zero] at a2; exact a2⟩
 have hB : decide (o.Can k) = decide (n ≤ k) := decide_eq_decide.2 ⟨fun h => Classical.byContradiction fun h0 => (hless.resolve_left (by omega)) (h.mono (by omega)), fun h => hcan.mono h⟩
 have hcan1 : o.Can k → o.Can (k + 1) := fun h => h.mono (by omega)
 refine rl_v rfl rfl rfl (ov_move rfl rfl) <| rl_v rfl rfl rfl (ov_extract rfl rfl (by rfl)) ?_
 refine rl_v rfl rfl rfl (ov_extract rfl rfl (by rfl)) ?_
 refine rl_v rfl rfl rfl (ov_assign rfl rfl) <| rl_v rfl rfl rfl (ov_assign rfl rfl) <| rl_nil <| run_seq <| run_seq <| run_region_join 110 (.bool (decide (False))) [2, 7, 8, 9, 17] (fun hk45 => ?_) ?_
 ·refine rl_v rfl rfl rfl (ov_move rfl rfl) <| rl_v rfl rfl rfl (ov_neq rfl rfl rfl) <| rl_v rfl rfl rfl (ov_move rfl rfl) ?_
  first | refine rl_noD 70 rfl (by decide) ?_ | refine rl_no 70 rfl (by decide) ?_
  refine rl_gv rfl rfl rfl rfl rfl (ov_move rfl rfl) <| rl_gv rfl rfl rfl rfl rfl (ov_neq rfl rfl rfl) <| rl_v rfl rfl rfl (ov_pick_f rfl rfl rfl) <| rl_v rfl rfl rfl (ov_move rfl rfl) ?_
  first | refine rl_noD 74 rfl (by decide) ?_ | refine rl_no 74 rfl (by decide) ?_
  refine rl_gv rfl rfl rfl rfl rfl (ov_move rfl rfl) <| rl_gv rfl rfl rfl rfl rfl (ov_neq rfl rfl rfl) <| rl_v rfl rfl rfl (ov_pick_f rfl rfl rfl) <| rl_v rfl rfl rfl (ov_move rfl rfl) ?_
  first | refine rl_noD 78 rfl (by decide) ?_ | refine rl_no 78 rfl (by decide) ?_
  refine rl_gv rfl rfl rfl rfl rfl (ov_move rfl rfl) <| rl_gv rfl rfl rfl rfl rfl (ov_neq rfl rfl rfl) <| rl_v rfl rfl rfl (ov_pick_f rfl rfl rfl) <| rl_v rfl rfl rfl (ov_move rfl rfl) ?_
  first | refine rl_noD 82 rfl (by decide) ?_ | refine rl_no 82 rfl (by decide) ?_
  refine rl_gv rfl rfl rfl rfl rfl (ov_move rfl rfl) <| rl_gv rfl rfl rfl rfl rfl (ov_neq rfl rfl rfl) <| rl_v rfl rfl rfl (ov_pick_f rfl rfl rfl) <| rl_v rfl rfl rfl (ov_move rfl rfl) ?_
  first | refine rl_noD 86 rfl (by decide) ?_ | refine rl_no 86 rfl (by decide) ?_
  refine rl_gv rfl rfl rfl rfl rfl (ov_move rfl rfl) <| rl_gv rfl rfl rfl rfl rfl (ov_move rfl rfl) ?_
  first | refine rl_split_dec 88 rfl (fun hg46 => ?_) (fun hg46 => ?_) | refine rl_split 88 rfl (fun hg46 => ?_) (fun hg46 => ?_)
  ·refine rl_gv rfl rfl rfl rfl rfl (ov_move rfl rfl) <| rl_gv rfl rfl rfl rfl rfl (ov_not rfl rfl) <| rl_gv rfl rfl rfl rfl rfl (ov_pick_t rfl rfl rfl) <| rl_v rfl rfl rfl (ov_pick_f rfl rfl rfl) <| rl_v rfl rfl rfl (ov_move rfl rfl) ?_
   first | refine rl_noD 93 rfl (by simp [hcan1 (by assumption)]) ?_ | refine rl_no 93 rfl (by simp [hcan1 (by assumption)]) ?_
   refine rl_gv rfl rfl rfl rfl rfl (ov_move rfl rfl) <| rl_gv rfl rfl rfl rfl rfl (ov_move rfl rfl) <| rl_gv rfl rfl rfl rfl rfl (ov_gtr rfl rfl rfl) <| rl_v rfl rfl rfl (ov_pick_f rfl rfl rfl) <| rl_v rfl rfl rfl (ov_move rfl rfl) ?_
   first | refine rl_noD 98 rfl (by omega) ?_ | refine rl_no 98 rfl (by omega) ?_
   refine rl_gv rfl rfl rfl rfl rfl (ov_move rfl rfl) <| rl_gv rfl rfl rfl rfl rfl (ov_move rfl rfl) <| rl_gv rfl rfl rfl rfl rfl (ov_eql rfl rfl rfl) <| rl_gv rfl rfl rfl rfl rfl (ov_neqB7 rfl Try.underlying4 rfl rfl) <| rl_v rfl rfl rfl (ov_pick_f rfl rfl rfl) <| rl_v rfl rfl rfl (ov_move rfl rfl) ?_
   first | refine rl_noD 104 rfl ((fun h => h hA)) ?_ | refine rl_no 104 rfl ((fun h => h hA)) ?_
   refine rl_gv rfl rfl rfl rfl rfl (ov_move rfl rfl) <| rl_gv rfl rfl rfl rfl rfl (ov_move rfl rfl) <| rl_gv rfl rfl rfl rfl rfl (ov_move rfl rfl) <| rl_gv rfl rfl rfl rfl rfl (ov_leq rfl rfl rfl) <| rl_gv rfl rfl rfl rfl rfl (ov_neqB7 rfl Try.underlying4 rfl rfl) <| rl_v rfl rfl rfl (ov_pick_f rfl rfl rfl) ?_
   refine rl_nil (hk45 _ (jbd rfl (by exact ⟨fun h => h hB, False.elim⟩)) (And.intro rfl (And.intro rfl (And.intro rfl (And.intro rfl (And.intro rfl trivial))))))
  ·refine rl_gskip rfl rfl rfl rfl rfl rfl <| rl_gskip rfl rfl rfl rfl rfl rfl <| rl_gv rfl rfl rfl rfl rfl (ov_pick_f rfl rfl rfl) <| rl_v rfl rfl rfl (ov_pick_f rfl rfl rfl) <| rl_v rfl rfl rfl (ov_move rfl rfl) <| rl_gv rfl rfl rfl rfl rfl (ov_move rfl rfl) <| rl_gv rfl rfl rfl rfl rfl (ov_move rfl rfl) <| rl_gv rfl rfl rfl rfl rfl (ov_gtr rfl rfl rfl) <| rl_v rfl rfl rfl (ov_pick_f rfl rfl rfl) <| rl_v rfl rfl rfl (ov_move rfl rfl) ?_
   first | refine rl_noD 98 rfl (by omega) ?_ | refine rl_no 98 rfl (by omega) ?_
   refine rl_gv rfl rfl rfl rfl rfl (ov_move rfl rfl) <| rl_gv rfl rfl rfl rfl rfl (ov_move rfl rfl) <| rl_gv rfl rfl rfl rfl rfl (ov_eql rfl rfl rfl) <| rl_gv rfl rfl rfl rfl rfl (ov_neqB7 rfl Try.underlying4 rfl rfl) <| rl_v rfl rfl rfl (ov_pick_f rfl rfl rfl) <| rl_v rfl rfl rfl (ov_move rfl rfl) ?_
   first | refine rl_noD 104 rfl ((fun h => h hA)) ?_ | refine rl_no 104 rfl ((fun h => h hA)) ?_
   refine rl_gv rfl rfl rfl rfl rfl (ov_move rfl rfl) <| rl_gv rfl rfl rfl rfl rfl (ov_move rfl rfl) <| rl_gv rfl rfl rfl rfl rfl (ov_move rfl rfl) <| rl_gv rfl rfl rfl rfl rfl (ov_leq rfl rfl rfl) <| rl_gv rfl rfl rfl rfl rfl (ov_neqB7 rfl Try.underlying4 rfl rfl) <| rl_v rfl rfl rfl (ov_pick_f rfl rfl rfl) ?_
   refine rl_nil (hk45 _ (jbd rfl (by exact ⟨fun h => h hB, False.elim⟩)) (And.intro rfl (And.intro rfl (And.intro rfl (And.intro rfl (And.intro rfl trivial))))))
 ·show Run _ _ _ _ [(110, _), (2, _), (7, _), (8, _), (9, _), (17, _)] _ _
  first | refine run_cond_dec rfl (fun c1 => ?_) (fun c1 => ?_) | refine run_cond rfl (fun c1 => ?_) (fun c1 => ?_)
  ·exfalso; exact c1
  ·refine run_skip <| run_seq <| run_seq <| run_region <| rl_v rfl rfl rfl (ov_move rfl rfl) <| rl_v rfl rfl rfl (ov_len rfl Try.underlying22 rfl) <| rl_v rfl rfl rfl (ov_eql rfl rfl rfl) <| rl_nil ?_
   first | refine run_cond_dec rfl (fun c2 => ?_) (fun c2 => ?_) | refine run_cond rfl (fun c2 => ?_) (fun c2 => ?_)
   ·refine run_seq <| run_region ?_
    refine rl_call callable_17 rfl rfl rfl rfl rfl rfl (awake7_any _) (fun e47 w48 hp49 => ?_)
    obtain ⟨rfl, hOg⟩ := hp49
    refine ⟨_, rfl, ?_⟩
    have hO50 := hO44.join hOg
    refine rl_v rfl rfl rfl (ov_assign rfl rfl) <| rl_nil <| run_ret Try.func7 (res1 Try.results7 rfl) ?_
    exact ⟨rfl, hO50.below⟩
   ·obtain ⟨x, hx9⟩ : ∃ x : Nat, (x : Int) = at_ % 18446744073709551616 % (o.n : Int) := ⟨(at_ % 18446744073709551616 % (o.n : Int)).toNat, Int.toNat_of_nonneg (modsD (x := at_) (m := o.n) ⟨by omega, by omega⟩).2.1⟩
    have hm9 := modsD (x := at_) (m := o.n) ⟨by omega, by omega⟩
    have hxn : x < o.n := by omega
    have hOn := hO44.nil_cons
    have hcap : o.n ≤ vc := hr.capU7
    obtain ⟨vb, hvb⟩ := hr.addr
    have hva := hvb (by omega)
    subst hva
    refine run_skip <| run_seq <| run_region <| rl_v rfl rfl rfl (ov_move rfl rfl) <| rl_v rfl rfl rfl (ov_conv rfl Try.underlying3 Try.underlying33 rfl) <| rl_v rfl rfl rfl (ov_move rfl rfl) <| rl_v rfl rfl rfl (ov_len rfl Try.underlying22 rfl) <| rl_v rfl rfl rfl (ov_convTo (((IntKind.wrap_u64 _).trans (Int.emod_eq_of_lt (by omega) (by omega)))) rfl Try.underlying3 Try.underlying33 rfl) ?_
    refine rl_v rfl rfl rfl (ov_rem rfl rfl rfl (u64_nnD _) (by omega)) ?_
    refine rl_v rfl rfl rfl (ov_convTo ((hm9.1.trans hx9.symm)) rfl Try.underlying33 Try.underlying3 rfl) <| rl_v rfl rfl rfl (ov_assign rfl rfl) <| rl_nil <| run_seq <| run_region <| rl_v rfl rfl rfl (ov_assign rfl rfl) <| rl_nil <| run_seq <| run_region <| rl_v rfl rfl rfl (ov_move rfl rfl) <| rl_v rfl rfl rfl (ov_move rfl rfl) <| rl_v rfl rfl rfl (ov_move rfl rfl) <| rl_v rfl rfl rfl (ov_sliceH (x) (s := 4) rfl Try.underlying22 (by kernel_rfl) rfl rfl (by rfl) (by omega)) ?_
    refine rl_ow rfl (ow_appSR rfl rfl rfl Try.underlying22 info_72 rfl rfl hOn 0 (SRow.nil _ _ (ldF o)) rfl rfl rfl ((hr.reads hOn 6 rfl).take7 (Nat.le_of_lt hxn)) (fun _ _ _ => ⟨rfl, rfl⟩) ⟨by omega, by omega⟩) ?_
    rintro _ w51 ⟨v26, c26, rfl, hO52, hr26, hs53⟩
    have hr27 : SRow v26 72 4 x (ldF o) c26 := by
     rw [Nat.zero_add] at hr26
     exact hr26.congr fun i h0 h1 => by unfold joinF; rw [if_neg (by omega)]; exact congrArg (fun j => ldF o j) (by omega)
    refine rl_v rfl rfl rfl (ov_assign rfl rfl) <| rl_nil <| run_seq <| run_region <| rl_v rfl rfl rfl (ov_move rfl rfl) <| rl_v rfl rfl rfl (ov_move rfl rfl) <| rl_v rfl rfl rfl (ov_move rfl rfl) <| rl_v rfl rfl rfl (ov_add rfl rfl rfl (by omega)) ?_
    refine rl_v rfl rfl rfl (ov_sliceL7 rfl Try.underlying22 (by kernel_rfl) (s := 4) rfl rfl ⟨by omega, by omega⟩ rfl) ?_
    refine rl_ow rfl (ow_appSR rfl rfl rfl Try.underlying22 info_72 rfl rfl hO52 0 hr27 rfl rfl rfl ((hr.reads hO52 6 rfl).tail7 (by omega) hcap) (fun _ _ _ => ⟨rfl, rfl⟩) ⟨by omega, by omega⟩) ?_
    rintro _ w54 ⟨v32, c32, rfl, hO55, hr32, hs56⟩
    have hr33 : SRow v32 72 4 (o.del x).n (ldF (o.del x)) c32 := by
     rw [show x + (o.n - ((x : Int) + 1).toNat) = (o.del x).n by show _ = o.n - 1; omega] at hr32
     refine hr32.congr fun i h0 h1 => ?_
     unfold joinF
     by_cases e : i < x
     ·rw [if_pos e]
      unfold ldF Lds.del Lds.skp
      dsimp only
      rw [if_pos e]
     ·rw [if_neg e]
      unfold ldF Lds.del Lds.skp
      dsimp only
      rw [if_neg e, show (((x : Int) + 1).toNat : Int) + (i - x) = i + 1 by omega]
    obtain ⟨ya, yc, rfl⟩ := Row.val hr33
    have hVd := hV.del (x := x) (by omega) (by omega)
    have hdn : (o.del x).n ≤ 256 := by show o.n - 1 ≤ 256; omega
    have hkd : (o.del x).chkK k = 0 := Lds.chkK_ok hdn hVd (by omega)
    have hkd0 : (o.del x).chk = 0 := Lds.chk_ok hdn hVd
    refine rl_v rfl rfl rfl (ov_assign rfl rfl) <| rl_nil <| run_seq <| run_region <| rl_v rfl rfl rfl (ov_move rfl rfl) ?_
    refine rl_call callable_15 rfl rfl rfl rfl rfl rfl (give7_any ya yc (o.del x) _ (by omega) (hr33.reads hO55 0 rfl)) (fun e57 w58 hp59 => ?_)
    obtain ⟨xa, xc, cx, rfl, hx, hOb⟩ := hp59
    refine ⟨_, rfl, ?_⟩
    have hO60 := hO55.join hOb
    refine rl_v rfl rfl rfl (ov_move rfl rfl) ?_
    refine rl_call callable_18 rfl rfl rfl rfl rfl rfl (Fits_any xa xc (o.del x) k _ (by omega) hVd.i64 (hx.reads hO60 0 rfl)) (fun e61 w62 hp63 => ?_)
    obtain ⟨rfl, hOc⟩ := hp63
    refine ⟨_, rfl, ?_⟩
    have hO64 := hO60.join hOc
    rw [hkd, hdec]
    refine rl_v rfl rfl rfl (ov_move rfl rfl) <| rl_v rfl rfl rfl (ov_extract rfl rfl (by rfl)) ?_
    refine rl_v rfl rfl rfl (ov_extract rfl rfl (by rfl)) ?_
    refine rl_v rfl rfl rfl (ov_assign rfl rfl) <| rl_v rfl rfl rfl (ov_assign rfl rfl) <| rl_nil <| run_seq <| run_region <| rl_v rfl rfl rfl (ov_move rfl rfl) ?_
    refine rl_call callable_15 rfl rfl rfl rfl rfl rfl (give7_any ya yc (o.del x) _ (by omega) (hr33.reads hO64 1 rfl)) (fun e65 w66 hp67 => ?_)
    obtain ⟨xa, xc, cx, rfl, hx, hOb⟩ := hp67
    refine ⟨_, rfl, ?_⟩
    have hO68 := hO64.join hOb
    refine rl_call callable_14 rfl rfl rfl rfl rfl rfl (Kilns_any xa xc (o.del x) _ (by omega) hVd.i64 (hx.reads hO68 0 rfl)) (fun e69 w70 hp71 => ?_)
    obtain ⟨m, rfl, hK2, hOc⟩ := hp71
    refine ⟨_, rfl, ?_⟩
    have hO72 := hO68.join hOc
    rw [hkd0]
    obtain ⟨m0, mcan, mless⟩ := hK2.yes hkd0
    have hmn : m ≤ n := Classical.byContradiction fun h => (mless.resolve_left (by omega)) ((hcan.del (x := x) (by omega) (by omega)).mono (by omega))
    have hnm : n ≤ m + 1 := Classical.byContradiction fun h => (hless.resolve_left (by omega)) ((Lds.Can.ins (x := x) hV (by omega) (by omega) mcan).mono (by omega))
    have hno : n ≤ o.n := Classical.byContradiction fun h => (hless.resolve_left (by omega)) (Lds.Can.many hV (by omega))
    have hdl : o.Can k → (o.del x).Can k := fun h => h.del (by omega) (by omega)
    refine rl_v rfl rfl rfl (ov_move rfl rfl) <| rl_v rfl rfl rfl (ov_extract rfl rfl (by rfl)) ?_
    refine rl_v rfl rfl rfl (ov_extract rfl rfl (by rfl)) ?_
    refine rl_v rfl rfl rfl (ov_assign rfl rfl) <| rl_v rfl rfl rfl (ov_assign rfl rfl) <| rl_nil <| run_seq <| run_region <| rl_v rfl rfl rfl (ov_move rfl rfl) <| rl_v rfl rfl rfl (ov_eql rfl rfl rfl) <| rl_v rfl rfl rfl (ov_move rfl rfl) ?_
    first | refine rl_yesD 148 rfl (rfl) ?_ | refine rl_yes 148 rfl (rfl) ?_
    refine rl_gv rfl rfl rfl rfl rfl (ov_move rfl rfl) <| rl_gv rfl rfl rfl rfl rfl (ov_eql rfl rfl rfl) <| rl_v rfl rfl rfl (ov_pick_t rfl rfl rfl) <| rl_v rfl rfl rfl (ov_move rfl rfl) ?_
    first | refine rl_yesD 152 rfl (rfl) ?_ | refine rl_yes 152 rfl (rfl) ?_
    refine rl_gv rfl rfl rfl rfl rfl (ov_move rfl rfl) <| rl_gv rfl rfl rfl rfl rfl (ov_not rfl rfl) <| rl_gv rfl rfl rfl rfl rfl (ov_move rfl rfl) ?_
    first | refine rl_split_dec 155 rfl (fun hg9 => ?_) (fun hg9 => ?_) | refine rl_split 155 rfl (fun hg9 => ?_) (fun hg9 => ?_)
    ·refine rl_gskip rfl rfl rfl rfl rfl rfl <| rl_gv rfl rfl rfl rfl rfl (ov_pick_t rfl rfl rfl) <| rl_v rfl rfl rfl (ov_pick_t rfl rfl rfl) <| rl_v rfl rfl rfl (ov_move rfl rfl) <| rl_gv rfl rfl rfl rfl rfl (ov_move rfl rfl) <| rl_gv rfl rfl rfl rfl rfl (ov_move rfl rfl) <| rl_gv rfl rfl rfl rfl rfl (ov_leq rfl rfl rfl) <| rl_v rfl rfl rfl (ov_pick_t rfl rfl rfl) <| rl_v rfl rfl rfl (ov_move rfl rfl) ?_
     first | refine rl_yesD 164 rfl (by omega) ?_ | refine rl_yes 164 rfl (by omega) ?_
     refine rl_gv rfl rfl rfl rfl rfl (ov_move rfl rfl) <| rl_gv rfl rfl rfl rfl rfl (ov_move rfl rfl) <| rl_gv rfl rfl rfl rfl rfl (ov_add rfl rfl rfl (by omega)) ?_
     refine rl_gv rfl rfl rfl rfl rfl (ov_leq rfl rfl rfl) <| rl_v rfl rfl rfl (ov_pick_t rfl rfl rfl) <| rl_v rfl rfl rfl (ov_move rfl rfl) ?_
     first | refine rl_yesD 170 rfl (by omega) ?_ | refine rl_yes 170 rfl (by omega) ?_
     refine rl_gcall callable_17 rfl rfl rfl rfl rfl rfl rfl rfl (awake7_any _) (fun e74 w75 hp76 => ?_)
     obtain ⟨rfl, hOg⟩ := hp76
     refine ⟨_, rfl, ?_⟩
     have hO77 := hO72.join hOg
     refine rl_v rfl rfl rfl (ov_pick_t rfl rfl rfl) <| rl_v rfl rfl rfl (ov_assign rfl rfl) <| rl_nil <| run_ret Try.func7 (res1 Try.results7 rfl) ?_
     exact ⟨rfl, hO77.below⟩
    ·refine rl_gv rfl rfl rfl rfl rfl (ov_move rfl rfl) <| rl_gv rfl rfl rfl rfl rfl (ov_pick_f rfl rfl rfl) <| rl_v rfl rfl rfl (ov_pick_t rfl rfl rfl) <| rl_v rfl rfl rfl (ov_move rfl rfl) ?_
     first | refine rl_yesD 159 rfl (hdl (by simpa using hg9)) ?_ | refine rl_yes 159 rfl (hdl (by simpa using hg9)) ?_
     refine rl_gv rfl rfl rfl rfl rfl (ov_move rfl rfl) <| rl_gv rfl rfl rfl rfl rfl (ov_move rfl rfl) <| rl_gv rfl rfl rfl rfl rfl (ov_leq rfl rfl rfl) <| rl_v rfl rfl rfl (ov_pick_t rfl rfl rfl) <| rl_v rfl rfl rfl (ov_move rfl rfl) ?_
     first | refine rl_yesD 164 rfl (by omega) ?_ | refine rl_yes 164 rfl (by omega) ?_
     refine rl_gv rfl rfl rfl rfl rfl (ov_move rfl rfl) <| rl_gv rfl rfl rfl rfl rfl (ov_move rfl rfl) <| rl_gv rfl rfl rfl rfl rfl (ov_add rfl rfl rfl (by omega)) ?_
     refine rl_gv rfl rfl rfl rfl rfl (ov_leq rfl rfl rfl) <| rl_v rfl rfl rfl (ov_pick_t rfl rfl rfl) <| rl_v rfl rfl rfl (ov_move rfl rfl) ?_
     first | refine rl_yesD 170 rfl (by omega) ?_ | refine rl_yes 170 rfl (by omega) ?_
     refine rl_gcall callable_17 rfl rfl rfl rfl rfl rfl rfl rfl (awake7_any _) (fun e78 w79 hp80 => ?_)
     obtain ⟨rfl, hOg⟩ := hp80
     refine ⟨_, rfl, ?_⟩
     have hO81 := hO72.join hOg
     refine rl_v rfl rfl rfl (ov_pick_t rfl rfl rfl) <| rl_v rfl rfl rfl (ov_assign rfl rfl) <| rl_nil <| run_ret Try.func7 (res1 Try.results7 rfl) ?_
     exact ⟨rfl, hO81.below⟩
end Go.Proofs.Ytbepolognfdkeaa
