import Derived.Test.YtbepolognfdkeaaGcP
import Derived.Test.YtbepolognfdkeaaGbX
set_option maxRecDepth 100000
namespace Go.Proofs.Ytbepolognfdkeaa
open Go.RowKit Go.Proofs Go.MapKept
theorem trF_take (P : List Trn) {i : Nat} : ∀ j : Int, 0 ≤ j → j < i → trF P j = trF (P.take i) j := fun j j0 j1 => by
 unfold trF
 rw [List.getD_eq_getElem?_getD, List.getD_eq_getElem?_getD, List.getElem?_take_of_lt (by omega)]
set_option maxHeartbeats 8000000 in
theorem judges7_any (la : Option Addr) (lc : Nat) (l : Lds) (pa : Option Addr) (pc : Nat) (P : List Trn) (xa : Option Addr) (xn xc : Nat) (ha : Option Addr) (hn hc : Nat) (Y A B : Int → Int) (w : World) (hlc : l.n ≤ lc) (hI : l.I64) (hl : SAt w.heap.size w la 4 l.n (ldF l)) (hp : SAt w.heap.size w pa 3 P.length (trF P))
  (hxc : xn ≤ xc) (hhc : hn ≤ hc) (hx : IAt w.heap.size w xa xn (fun j => iv (Y j))) (hh : SAt w.heap.size w ha 2 hn (hrF A B)) :
  Calls Try.prog 8 #[.slice la l.n lc, .slice pa P.length pc, .agg (crL xa xn xc ha hn hc).toArray] w fun e w' => e = .returned (.bool true) ∧ Below w.heap.size w w' := by
 obtain ⟨o, ho⟩ : ∃ o, o = l.own 6 false := ⟨_, rfl⟩
 have hV : o.Valid := ho ▸ l.own_valid 6 false
 have hno : o.n ≤ 6 := ho ▸ l.own_le 6 false
 have hkk : ∀ k : Int, 1 ≤ k → k ≤ 3 → o.chkK k = 0 := fun k a b => Lds.chkK_ok (by omega) hV (by omega)
 obtain ⟨tb, to, hta, htr⟩ := hp.open (by decide)
 refine calls_of_run (F := [(0, _), (1, _), (2, _)]) Try.func8 rfl Try.ntmps8 rfl rfl ?_
 have hO0 := Own.init w
 refine run_seq <| run_region <| rl_ow rfl (ow_box _ rfl rfl rfl rfl rfl hO0) ?_
 rintro _ w1 ⟨b5, rfl, hO2, hs3⟩
 have hOb : Own w.heap.size w w1 [some (lch b5 50 (crL xa xn xc ha hn hc))] := hO2
 refine rl_v rfl rfl rfl (ov_assign rfl rfl) <| rl_nil <| run_seq <| run_region <| rl_v rfl rfl rfl (ov_move rfl rfl) ?_
 refine rl_call callable_13 rfl rfl rfl rfl rfl rfl (own7_any la lc l 6 false _ hlc (by decide) hI (hOb.satU hl)) (fun e4 w5 hp6 => ?_)
 obtain ⟨va, vc, c, rfl, hr, hOa⟩ := hp6
 refine ⟨_, rfl, ?_⟩
 have hO7 := hOb.join hOa
 rw [← ho] at hr ⊢
 refine rl_v rfl rfl rfl (ov_assign rfl rfl) <| rl_nil <| run_seq <| run_region <| rl_v rfl rfl rfl (ov_move rfl rfl) ?_
 refine rl_call callable_15 rfl rfl rfl rfl rfl rfl (give7_any va vc o _ (by omega) (hr.reads hO7 0 rfl)) (fun e8 w9 hp10 => ?_)
 obtain ⟨ga, gc, cg, rfl, hg, hOc⟩ := hp10
 refine ⟨_, rfl, ?_⟩
 have hO11 := hO7.join hOc
 have hOd := hO11.nil_cons.nil_cons
 refine rl_v rfl rfl rfl (ov_assign rfl rfl) <| rl_nil <| run_seq <| run_region <| rl_v rfl rfl rfl (ov_assign rfl rfl) <| rl_nil <| run_seq <| run_region <| rl_v rfl rfl rfl (ov_assign rfl rfl) <| rl_nil <| run_seq <| run_seq <| run_region <| rl_v rfl rfl rfl (ov_assign rfl rfl) <| rl_nil <| run_block <| Run.keep [1, 5, 7, 8, 9, 10, 11] (F' := [(1, _), (5, _), (7, _), (8, _), (9, _), (10, _), (11, _)]) rfl <| run_loop3 (fun (i : Nat) (v1 : Value) (v2 : Value) => [(11, .int .i64 (i : Int)), (9, v1), (10, v2)]) [1, 5, 7, 8] (fun (i : Nat) (v1 : Value) (v2 : Value) (w12 : World) => i ≤ P.length ∧ i ≤ 14 ∧ ∃ c1 c2 : Option Blk, SRow v1 53 3 i (trF P) c1 ∧ SRow v2 54 3 i (trF P) c2 ∧ Own w.heap.size w w12 [c1, c2, cg, c, some (lch b5 50 (crL xa xn xc ha hn hc))]) (fun (i : Nat) (v1 : Value) (v2 : Value) => 14 - i) (0) (.slice none 0 0) (.slice none 0 0) ?_ (And.intro (by exact slot_int rfl (by first | omega)) (And.intro rfl (And.intro rfl (And.intro rfl (And.intro rfl (And.intro rfl (And.intro rfl trivial))))))) ?_
 ·exact ⟨Nat.zero_le _, Nat.zero_le _, none, none, SRow.nil _ _ _, SRow.nil _ _ _, hOd⟩
 intro i v1 v2 w12 hIw12 ih13
 obtain ⟨hi, hi2, c1, c2, hr1, hr2, hOe⟩ := hIw12
 show Run _ _ _ _ [(11, _), (9, _), (10, _), (1, _), (5, _), (7, _), (8, _)] _ _
 refine run_seq <| run_seq <| run_region_join 30 (.bool (decide ((i : Int) < P.length ∧ (i : Int) < 14))) [1, 5, 7, 8, 9, 10, 11] (fun hk14 => ?_) ?_
 ·refine rl_v rfl rfl rfl (ov_move rfl rfl) <| rl_v rfl rfl rfl (ov_move rfl rfl) <| rl_v rfl rfl rfl (ov_len rfl Try.underlying46 rfl) <| rl_v rfl rfl rfl (ov_lss rfl rfl rfl) <| rl_v rfl rfl rfl (ov_move rfl rfl) ?_
  first | refine rl_split_dec 27 rfl (fun hg15 => ?_) (fun hg15 => ?_) | refine rl_split 27 rfl (fun hg15 => ?_) (fun hg15 => ?_)
  ·refine rl_gv rfl rfl rfl rfl rfl (ov_move rfl rfl) <| rl_gv rfl rfl rfl rfl rfl (ov_lss rfl rfl rfl) <| rl_v rfl rfl rfl (ov_pick_t rfl rfl rfl) ?_
   refine rl_nil (hk14 _ (jbd rfl (by omega)) (And.intro rfl (And.intro rfl (And.intro rfl (And.intro rfl (And.intro rfl (And.intro rfl (And.intro rfl trivial))))))))
  ·refine rl_gskip rfl rfl rfl rfl rfl rfl <| rl_gskip rfl rfl rfl rfl rfl rfl <| rl_v rfl rfl rfl (ov_pick_f rfl rfl rfl) ?_
   refine rl_nil (hk14 _ (jbf rfl (by omega)) (And.intro rfl (And.intro rfl (And.intro rfl (And.intro rfl (And.intro rfl (And.intro rfl (And.intro rfl trivial))))))))
 ·show Run _ _ _ _ [(30, _), (1, _), (5, _), (7, _), (8, _), (9, _), (10, _), (11, _)] _ _
  first | refine run_cond_dec rfl (fun c3 => ?_) (fun c3 => ?_) | refine run_cond rfl (fun c3 => ?_) (fun c3 => ?_)
  ·refine run_skip <| run_seq <| run_block <| run_seq <| run_region <| rl_v rfl rfl rfl (ov_move rfl rfl) <| rl_v rfl rfl rfl (ov_move rfl rfl) <| rl_v rfl rfl rfl (ov_move rfl rfl) <| rl_v rfl rfl rfl (ov_index rfl Try.underlying46 (by kernel_rfl) (s := 3) rfl rfl ⟨by omega, by omega⟩ (by exact hta (by omega))) ?_
   refine rl_v rfl rfl rfl (ov_loadE rfl Try.underlying54 rfl (by kernel_rfl) rfl ⟨by omega, by omega⟩ rfl (htr _ hOe.below)) ?_
   refine rl_ow rfl (ow_build [_] rfl rfl rfl rfl rfl Try.underlying51 info_53 (by decide) hOe rfl rfl) ?_
   rintro _ w16 ⟨b38, rfl, hO17, hs18⟩
   refine rl_ow rfl (ow_appR1 rfl rfl rfl Try.underlying51 info_53 rfl rfl hO17 0 hr1 rfl rfl rfl rfl rfl ⟨by omega, by omega⟩) ?_
   rintro _ w19 ⟨v39, c39, rfl, hO20, hr39, hs21⟩
   refine rl_v rfl rfl rfl (ov_assign rfl rfl) <| rl_nil <| run_region <| rl_v rfl rfl rfl (ov_move rfl rfl) <| rl_v rfl rfl rfl (ov_move rfl rfl) <| rl_v rfl rfl rfl (ov_move rfl rfl) <| rl_v rfl rfl rfl (ov_index rfl Try.underlying46 (by kernel_rfl) (s := 3) rfl rfl ⟨by omega, by omega⟩ (by exact hta (by omega))) ?_
   refine rl_v rfl rfl rfl (ov_loadE rfl Try.underlying54 rfl (by kernel_rfl) rfl ⟨by omega, by omega⟩ rfl (htr _ hO20.below)) ?_
   refine rl_ow rfl (ow_build [_] rfl rfl rfl rfl rfl Try.underlying46 info_54 (by decide) hO20 rfl rfl) ?_
   rintro _ w22 ⟨b45, rfl, hO23, hs24⟩
   refine rl_ow rfl (ow_appR1 rfl rfl rfl Try.underlying46 info_54 rfl rfl hO23 1 hr2 rfl rfl rfl rfl rfl ⟨by omega, by omega⟩) ?_
   rintro _ w25 ⟨v46, c46, rfl, hO26, hr46, hs27⟩
   refine rl_v rfl rfl rfl (ov_assign rfl rfl) <| rl_nil <| run_inBlock <| run_region <| rl_v rfl rfl rfl (ov_move rfl rfl) <| rl_v rfl rfl rfl (ov_add rfl rfl rfl (by omega)) ?_
   refine rl_v rfl rfl rfl (ov_assign rfl rfl) <| rl_nil ?_
   refine Run.use (ih13 (i + 1) (v39) (v46) _ ?_ ?_) (And.intro (by exact slot_int rfl (by first | omega)) (And.intro rfl (And.intro rfl (And.intro rfl (And.intro rfl (And.intro rfl (And.intro rfl trivial)))))))
   ·first | omega | (dsimp only; omega)
   ·exact ⟨by omega, by omega, c39, c46, hr39.congr (trF_upd P i (i + 1)), hr46.congr (trF_upd P i (i + 1)), hO26⟩
  ·obtain ⟨Q, hQ⟩ : ∃ Q, Q = P.take i := ⟨_, rfl⟩
   have hQl : Q.length = i := by rw [hQ, List.length_take]; omega
   have hr3 : SRow v1 53 3 Q.length (trF Q) c1 := by rw [hQl, hQ]; exact hr1.congr (trF_take P)
   have hr4 : SRow v2 54 3 Q.length (trF Q) c2 := by rw [hQl, hQ]; exact hr2.congr (trF_take P)
   obtain ⟨qa, qc, rfl⟩ := Row.val hr3
   obtain ⟨ua, uc, rfl⟩ := Row.val hr4
   have hOf := hOe.nil_cons.nil_cons
   refine run_exit rfl <| run_seq <| run_region <| rl_v rfl rfl rfl (ov_assign rfl rfl) <| rl_nil <| run_seq <| run_region <| rl_v rfl rfl rfl (ov_assign rfl rfl) <| rl_nil <| run_seq <| run_region <| rl_v rfl rfl rfl (ov_move rfl rfl) <| rl_v rfl rfl rfl (ov_fieldS rfl Try.underlying50 rfl (fo := 0) rfl (by kernel_rfl) rfl) ?_
   refine rl_v rfl rfl rfl (ov_load rfl Try.underlying47 rfl rfl (by exact hOf.cellL 6 rfl (off := 0) rfl)) ?_
   refine rl_v rfl rfl rfl (ov_fieldS rfl Try.underlying50 rfl (fo := 0) rfl (by kernel_rfl) rfl) ?_
   refine rl_v rfl rfl rfl (ov_load rfl Try.underlying47 rfl rfl (by exact hOf.cellL 6 rfl (off := 0) rfl)) ?_
   refine rl_v rfl rfl rfl (ov_len rfl Try.underlying47 rfl) <| rl_v rfl rfl rfl (ov_min rfl rfl rfl) <| rl_v rfl rfl rfl (ov_sliceH (min xn 10) (s := 1) rfl Try.underlying47 (by kernel_rfl) rfl rfl (by omega) (by omega)) ?_
   refine rl_ow rfl (ow_appS rfl rfl rfl Try.underlying47 info_3 rfl hOf 0 (IRow.nil 3 (fun j => iv (Y j))) rfl rfl rfl (((hOf.iatU hx).take (Nat.min_le_left _ _))) (fun _ => rfl) ⟨by omega, by omega⟩) ?_
   rintro _ w28 ⟨v55, c55, rfl, hO29, hr55, hs30⟩
   obtain ⟨ya, yc, rfl⟩ := Row.val hr55
   have hx1 : IRow (.slice ya (0 + min xn 10) yc) 3 (0 + min xn 10) (fun j => iv (Y j)) c55 := hr55.congr fun i i0 i1 => by unfold joinF; rw [if_neg (by omega)]; exact congrArg (fun j => iv (Y j)) (by omega)
   obtain ⟨m, hm⟩ : ∃ m, m = 0 + min xn 10 := ⟨_, rfl⟩
   rw [← hm] at hx1 ⊢
   refine rl_v rfl rfl rfl (ov_assign rfl rfl) <| rl_nil <| run_seq <| run_region <| rl_v rfl rfl rfl (ov_move rfl rfl) <| rl_v rfl rfl rfl (ov_fieldS rfl Try.underlying50 rfl (fo := 1) rfl (by kernel_rfl) rfl) ?_
   refine rl_v rfl rfl rfl (ov_load rfl Try.underlying48 rfl rfl (by exact hO29.cellL 6 rfl (off := 1) rfl)) ?_
   refine rl_v rfl rfl rfl (ov_fieldS rfl Try.underlying50 rfl (fo := 1) rfl (by kernel_rfl) rfl) ?_
   refine rl_v rfl rfl rfl (ov_load rfl Try.underlying48 rfl rfl (by exact hO29.cellL 6 rfl (off := 1) rfl)) ?_
   refine rl_v rfl rfl rfl (ov_len rfl Try.underlying48 rfl) <| rl_v rfl rfl rfl (ov_min rfl rfl rfl) <| rl_v rfl rfl rfl (ov_sliceH (min hn 10) (s := 2) rfl Try.underlying48 (by kernel_rfl) rfl rfl (by omega) (by omega)) ?_
   refine rl_ow rfl (ow_appSR rfl rfl rfl Try.underlying48 info_89 rfl rfl hO29 1 (SRow.nil _ _ (hrF A B)) rfl rfl rfl ((hO29.satU hh).take7 (Nat.min_le_left _ _)) (fun _ _ _ => ⟨rfl, rfl⟩) ⟨by omega, by omega⟩) ?_
   rintro _ w31 ⟨v64, c64, rfl, hO32, hr64, hs33⟩
   obtain ⟨za, zc, rfl⟩ := Row.val hr64
   have hh1 : SRow (.slice za (0 + min hn 10) zc) 89 2 (0 + min hn 10) (hrF A B) c64 := hr64.congr fun i i0 i1 => by unfold joinF; rw [if_neg (by omega)]; exact congrArg (hrF A B) (by omega)
   obtain ⟨mh, hmh⟩ : ∃ mh, mh = 0 + min hn 10 := ⟨_, rfl⟩
   rw [← hmh] at hh1 ⊢
   refine rl_v rfl rfl rfl (ov_assign rfl rfl) <| rl_nil <| run_seq <| run_seq <| run_region <| rl_v rfl rfl rfl (ov_assign rfl rfl) <| rl_nil <| run_block <| Run.keep [7, 8, 9, 10, 12, 13, 14] (F' := [(7, _), (8, _), (9, _), (10, _), (12, _), (13, _), (14, _)]) rfl <| run_loop1 (fun (j : Nat) => [(14, .int .i64 (j : Int))]) [7, 8, 9, 10, 12, 13] (fun (j : Nat) (w34 : World) => 1 ≤ j ∧ j ≤ 4 ∧ Own w.heap.size w w34 [c55, c64, c1, c2, cg, c, some (lch b5 50 (crL xa xn xc ha hn hc))]) (fun (j : Nat) => 4 - j) (1) ?_ (And.intro (by exact slot_int rfl (by first | omega)) (And.intro rfl (And.intro rfl (And.intro rfl (And.intro rfl (And.intro rfl (And.intro rfl trivial))))))) ?_
   ·exact ⟨by omega, by omega, hO32⟩
   intro j w34 hIw34 ih35
   obtain ⟨hj1, hj2, hO2⟩ := hIw34
   show Run _ _ _ _ [(14, _), (7, _), (8, _), (9, _), (10, _), (12, _), (13, _)] _ _
   refine run_seq <| run_seq <| run_region <| rl_v rfl rfl rfl (ov_move rfl rfl) <| rl_v rfl rfl rfl (ov_leq rfl rfl rfl) <| rl_nil ?_
   first | refine run_cond_dec rfl (fun c4 => ?_) (fun c4 => ?_) | refine run_cond rfl (fun c4 => ?_) (fun c4 => ?_)
   ·have hkj := hkk j (by omega) (by omega)
    have hd1 : decide (o.chkK j = 0 ∧ PlanOk o j Q) = decide (PlanOk o j Q) := decide_eq_decide.2 ⟨And.right, fun h => ⟨hkj, h⟩⟩
    have hd2 : decide (o.chkK j = 0 ∧ Prv o j m Y mh A B) = decide (Prv o j m Y mh A B) := decide_eq_decide.2 ⟨And.right, fun h => ⟨hkj, h⟩⟩
    refine run_skip <| run_seq <| run_block <| run_seq <| run_seq <| run_region <| rl_v rfl rfl rfl (ov_move rfl rfl) <| rl_v rfl rfl rfl (ov_move rfl rfl) <| rl_v rfl rfl rfl (ov_move rfl rfl) ?_
    refine rl_call callable_24 rfl rfl rfl rfl rfl rfl (isPlan7_any ga gc o j qa qc Q _ (by omega) hV.i64 (by omega) (hg.reads hO2 4 rfl) (hr3.reads hO2 2 rfl)) (fun e36 w37 hp38 => ?_)
    obtain ⟨rfl, hOg⟩ := hp38
    refine ⟨_, rfl, ?_⟩
    have hO39 := hO2.join hOg
    rw [hd1]
    refine rl_v rfl rfl rfl (ov_move rfl rfl) <| rl_v rfl rfl rfl (ov_move rfl rfl) <| rl_v rfl rfl rfl (ov_move rfl rfl) ?_
    refine rl_call callable_25 rfl rfl rfl rfl rfl rfl (refPlan7_any va vc o j ua uc Q _ (by omega) (hV.fit.mono (by decide)) (by omega) (hr.reads hO39 5 rfl) (hr4.reads hO39 3 rfl)) (fun e40 w41 hp42 => ?_)
    obtain ⟨rfl, hOg⟩ := hp42
    refine ⟨_, rfl, ?_⟩
    have hO43 := hO39.join hOg
    refine rl_v rfl rfl rfl (ov_neqB7 rfl Try.underlying4 rfl rfl) <| rl_v rfl rfl rfl (ov_move rfl rfl) ?_
    first | refine rl_noD 78 rfl ((fun h => h rfl)) ?_ | refine rl_no 78 rfl ((fun h => h rfl)) ?_
    refine rl_gv rfl rfl rfl rfl rfl (ov_move rfl rfl) <| rl_gv rfl rfl rfl rfl rfl (ov_move rfl rfl) <| rl_gv rfl rfl rfl rfl rfl (ov_move rfl rfl) <| rl_gv rfl rfl rfl rfl rfl (ov_move rfl rfl) <| rl_gv rfl rfl rfl rfl rfl (ov_buildL rfl lay_58 rfl (us := [_, _]) rfl) ?_
    refine rl_gcall callable_26 rfl rfl rfl rfl rfl rfl rfl rfl (proves7_any ga gc o j ya m yc za mh zc Y A B _ (by omega) hV.i64 (by omega) (by omega) (hg.reads hO43 4 rfl) (hx1.reads hO43 0 rfl) (hh1.reads hO43 1 rfl)) (fun e44 w45 hp46 => ?_)
    obtain ⟨rfl, hOg⟩ := hp46
    refine ⟨_, rfl, ?_⟩
    have hO47 := hO43.join hOg
    rw [hd2]
    refine rl_gv rfl rfl rfl rfl rfl (ov_move rfl rfl) <| rl_gv rfl rfl rfl rfl rfl (ov_move rfl rfl) <| rl_gv rfl rfl rfl rfl rfl (ov_move rfl rfl) <| rl_gv rfl rfl rfl rfl rfl (ov_move rfl rfl) <| rl_gv rfl rfl rfl rfl rfl (ov_buildL rfl lay_50 rfl (us := [_, _]) rfl) ?_
    refine rl_gcall callable_27 rfl rfl rfl rfl rfl rfl rfl rfl (refProves7_any va vc o j ya m yc za mh zc Y A B _ (by omega) (hV.fit.mono (by decide)) (by omega) (by omega) (by omega) (hr.reads hO47 5 rfl) (hx1.reads hO47 0 rfl) (hh1.reads hO47 1 rfl)) (fun e48 w49 hp50 => ?_)
    obtain ⟨rfl, hOg⟩ := hp50
    refine ⟨_, rfl, ?_⟩
    have hO51 := hO47.join hOg
    refine rl_gv rfl rfl rfl rfl rfl (ov_neqB7 rfl Try.underlying4 rfl rfl) <| rl_v rfl rfl rfl (ov_pick_f rfl rfl rfl) <| rl_nil ?_
    first | refine run_cond_dec rfl (fun c5 => ?_) (fun c5 => ?_) | refine run_cond rfl (fun c5 => ?_) (fun c5 => ?_)
    ·exfalso; exact c5 rfl
    ·refine run_skip <| run_seq <| run_region <| rl_v rfl rfl rfl (ov_move rfl rfl) <| rl_v rfl rfl rfl (ov_move rfl rfl) ?_
     refine rl_call callable_28 rfl rfl rfl rfl rfl rfl (Plan_any ga gc o j _ (by omega) hV.i64 (hg.reads hO51 4 rfl)) (fun e52 w53 hp54 => ?_)
     obtain ⟨ta, tc, T, ct, rfl, hPl, hOg⟩ := hp54
     refine ⟨_, rfl, ?_⟩
     have hO55 := hO51.join hOg
     refine rl_v rfl rfl rfl (ov_move rfl rfl) <| rl_v rfl rfl rfl (ov_extract rfl rfl (by rfl)) ?_
     refine rl_v rfl rfl rfl (ov_extract rfl rfl (by rfl)) ?_
     refine rl_v rfl rfl rfl (ov_assign rfl rfl) <| rl_v rfl rfl rfl (ov_assign rfl rfl) <| rl_nil <| run_seq <| run_seq <| run_region <| rl_v rfl rfl rfl (ov_move rfl rfl) <| rl_v rfl rfl rfl (ov_eql rfl rfl rfl) <| rl_v rfl rfl rfl (ov_move rfl rfl) ?_
     first | refine rl_split_dec 101 rfl (fun hpe => ?_) (fun hpe => ?_) | refine rl_split 101 rfl (fun hpe => ?_) (fun hpe => ?_)
     ·refine rl_gv rfl rfl rfl rfl rfl (ov_move rfl rfl) <| rl_gv rfl rfl rfl rfl rfl (ov_move rfl rfl) <| rl_gv rfl rfl rfl rfl rfl (ov_move rfl rfl) ?_
      obtain ⟨hcan1, hcan2⟩ := Lds.planE_zero hpe
      obtain ⟨hpl1, hpl2, hpl3⟩ := hPl.yes hpe
      refine rl_gcall callable_24 rfl rfl rfl rfl rfl rfl rfl rfl (isPlan7_any ga gc o j ta tc T _ (by omega) hV.i64 hpl3 (hg.reads hO55 5 rfl) (hPl.row.reads hO55 0 rfl)) (fun e57 w58 hp59 => ?_)
      obtain ⟨rfl, hOg⟩ := hp59
      refine ⟨_, rfl, ?_⟩
      have hO60 := hO55.join hOg
      rw [decide_eq_true (show o.chkK j = 0 ∧ PlanOk o j T from ⟨hkj, hpl1⟩)]
      refine rl_gv rfl rfl rfl rfl rfl (ov_not rfl rfl) <| rl_v rfl rfl rfl (ov_pick_t rfl rfl rfl) <| rl_nil <| run_cond_f rfl <| run_skip <| run_seq <| run_region <| rl_v rfl rfl rfl (ov_move rfl rfl) <| rl_v rfl rfl rfl (ov_move rfl rfl) ?_
      refine rl_call callable_29 rfl rfl rfl rfl rfl rfl (Proof_any ga gc o j _ (by omega) hV.i64 (hg.reads hO60 5 rfl)) (fun e61 w62 hp63 => ?_)
      obtain ⟨pa2, pn2, pc2, sa2, sn2, sc2, Y2, A2, B2, cy, ch, rfl, hCr, hOg⟩ := hp63
      refine ⟨_, rfl, ?_⟩
      have hO64 := hO60.join hOg
      rw [decide_eq_false (show ¬ (o.chkK j = 0 ∧ ¬ o.Can j) from fun h => h.2 hcan2)]
      refine rl_v rfl rfl rfl (ov_move rfl rfl) <| rl_v rfl rfl rfl (ov_extract rfl rfl (by rfl)) ?_
      refine rl_v rfl rfl rfl (ov_extract rfl rfl (by rfl)) ?_
      refine rl_ow rfl (ow_alloc _ rfl rfl rfl zero_58 rfl hO64) ?_
      rintro _ w65 ⟨t17, rfl, hO66, hs67⟩
      refine rl_ow rfl (ow_storeW rfl rfl (by kernel_rfl) hO66 0 rfl rfl (by rfl) rfl (by rfl)) ?_
      rintro _ w68 ⟨rfl, hO69, hs70⟩
      refine rl_v rfl rfl rfl (ov_assign rfl rfl) <| rl_nil <| run_seq <| run_region <| rl_v rfl rfl rfl (ov_move rfl rfl) <| rl_v rfl rfl rfl (ov_move rfl rfl) <| rl_v rfl rfl rfl (ov_neq rfl rfl rfl) <| rl_v rfl rfl rfl (ov_neqB7 rfl Try.underlying4 rfl rfl) <| rl_v rfl rfl rfl (ov_move rfl rfl) ?_
      first | refine rl_noD 118 rfl ((fun h => h (by simp [hpe]))) ?_ | refine rl_no 118 rfl ((fun h => h (by simp [hpe]))) ?_
      refine rl_gv rfl rfl rfl rfl rfl (ov_move rfl rfl) <| rl_gv rfl rfl rfl rfl rfl (ov_move rfl rfl) ?_
      first | refine rl_noD 120 rfl (rfl) ?_ | refine rl_no 120 rfl (rfl) ?_
      refine rl_gskip rfl rfl rfl rfl rfl rfl <| rl_gskip rfl rfl rfl rfl rfl rfl <| rl_gskip rfl rfl rfl rfl rfl rfl <| rl_gskip rfl rfl rfl rfl rfl rfl <| rl_gskip rfl rfl rfl rfl rfl rfl <| rl_gv rfl rfl rfl rfl rfl (ov_pick_f rfl rfl rfl) <| rl_v rfl rfl rfl (ov_pick_f rfl rfl rfl) <| rl_nil <| run_cond_f rfl <| run_skip <| run_inBlock <| run_region <| rl_v rfl rfl rfl (ov_move rfl rfl) <| rl_v rfl rfl rfl (ov_add rfl rfl rfl (by omega)) ?_
      refine rl_v rfl rfl rfl (ov_assign rfl rfl) <| rl_nil ?_
      refine Run.use (ih35 (j + 1) _ ?_ ?_) (And.intro (by exact slot_int rfl (by first | omega)) (And.intro rfl (And.intro rfl (And.intro rfl (And.intro rfl (And.intro rfl (And.intro rfl trivial)))))))
      ·first | omega | (dsimp only; omega)
      ·exact ⟨by omega, by omega, hO69.tail.tail.tail.tail⟩
     ·have hcan2 : ¬ o.Can j := fun h => hpe (Lds.planE_ok hkj h)
      refine rl_gskip rfl rfl rfl rfl rfl rfl <| rl_gskip rfl rfl rfl rfl rfl rfl <| rl_gskip rfl rfl rfl rfl rfl rfl <| rl_gskip rfl rfl rfl rfl rfl rfl <| rl_gskip rfl rfl rfl rfl rfl rfl <| rl_v rfl rfl rfl (ov_pick_f rfl rfl rfl) <| rl_nil <| run_cond_f rfl <| run_skip <| run_seq <| run_region <| rl_v rfl rfl rfl (ov_move rfl rfl) <| rl_v rfl rfl rfl (ov_move rfl rfl) ?_
      refine rl_call callable_29 rfl rfl rfl rfl rfl rfl (Proof_any ga gc o j _ (by omega) hV.i64 (hg.reads hO55 5 rfl)) (fun e71 w72 hp73 => ?_)
      obtain ⟨pa2, pn2, pc2, sa2, sn2, sc2, Y2, A2, B2, cy, ch, rfl, hCr, hOg⟩ := hp73
      refine ⟨_, rfl, ?_⟩
      have hO74 := hO55.join hOg
      rw [decide_eq_true (show (o.chkK j = 0 ∧ ¬ o.Can j) from ⟨hkj, hcan2⟩)]
      obtain ⟨hri, hpr⟩ := hCr.yes hkj hcan2
      have hpn : pn2 ≤ o.n := pigeonG (fun k k0 k1 => hpr.lds k k0 k1) (fun a b a0 a1 b0 b1 e => by
       rcases Int.lt_trichotomy a b with d | d | d
       ·exact absurd e (hpr.uni a b a0 d b1)
       ·exact d
       ·exact absurd e.symm (hpr.uni b a b0 d a1))
      have hsn := hCr.len
      refine rl_v rfl rfl rfl (ov_move rfl rfl) <| rl_v rfl rfl rfl (ov_extract rfl rfl (by rfl)) ?_
      refine rl_v rfl rfl rfl (ov_extract rfl rfl (by rfl)) ?_
      refine rl_ow rfl (ow_alloc _ rfl rfl rfl zero_58 rfl hO74) ?_
      rintro _ w75 ⟨t17, rfl, hO76, hs77⟩
      refine rl_ow rfl (ow_storeW rfl rfl (by kernel_rfl) hO76 0 rfl rfl (by rfl) rfl (by rfl)) ?_
      rintro _ w78 ⟨rfl, hO79, hs80⟩
      refine rl_v rfl rfl rfl (ov_assign rfl rfl) <| rl_nil <| run_seq <| run_region <| rl_v rfl rfl rfl (ov_move rfl rfl) <| rl_v rfl rfl rfl (ov_move rfl rfl) <| rl_v rfl rfl rfl (ov_neq rfl rfl rfl) <| rl_v rfl rfl rfl (ov_neqB7 rfl Try.underlying4 rfl rfl) <| rl_v rfl rfl rfl (ov_move rfl rfl) ?_
      first | refine rl_noD 118 rfl ((fun h => h (by simp [hpe]))) ?_ | refine rl_no 118 rfl ((fun h => h (by simp [hpe]))) ?_
      refine rl_gv rfl rfl rfl rfl rfl (ov_move rfl rfl) <| rl_gv rfl rfl rfl rfl rfl (ov_move rfl rfl) ?_
      first | refine rl_yesD 120 rfl (rfl) ?_ | refine rl_yes 120 rfl (rfl) ?_
      refine rl_gv rfl rfl rfl rfl rfl (ov_move rfl rfl) <| rl_gv rfl rfl rfl rfl rfl (ov_move rfl rfl) <| rl_gv rfl rfl rfl rfl rfl (ov_loadW rfl Try.underlying58 rfl (by kernel_rfl) rfl hO79 0 rfl) ?_
      refine rl_gcall callable_26 rfl rfl rfl rfl rfl rfl rfl rfl (proves7_any ga gc o j pa2 pn2 pc2 sa2 sn2 sc2 Y2 A2 B2 _ (by omega) hV.i64 (by omega) (by omega) (hg.reads hO79 8 rfl) (hCr.x.reads hO79 1 rfl) (hCr.h.reads hO79 2 rfl)) (fun e81 w82 hp83 => ?_)
      obtain ⟨rfl, hOg⟩ := hp83
      refine ⟨_, rfl, ?_⟩
      have hO84 := hO79.join hOg
      rw [decide_eq_true (show (o.chkK j = 0 ∧ Prv o j pn2 Y2 sn2 A2 B2) from ⟨hkj, hpr⟩)]
      refine rl_gv rfl rfl rfl rfl rfl (ov_not rfl rfl) <| rl_gv rfl rfl rfl rfl rfl (ov_pick_t rfl rfl rfl) <| rl_v rfl rfl rfl (ov_pick_f rfl rfl rfl) <| rl_nil <| run_cond_f rfl <| run_skip <| run_inBlock <| run_region <| rl_v rfl rfl rfl (ov_move rfl rfl) <| rl_v rfl rfl rfl (ov_add rfl rfl rfl (by omega)) ?_
      refine rl_v rfl rfl rfl (ov_assign rfl rfl) <| rl_nil ?_
      refine Run.use (ih35 (j + 1) _ ?_ ?_) (And.intro (by exact slot_int rfl (by first | omega)) (And.intro rfl (And.intro rfl (And.intro rfl (And.intro rfl (And.intro rfl (And.intro rfl trivial)))))))
      ·first | omega | (dsimp only; omega)
      ·exact ⟨by omega, by omega, hO84.tail.tail.tail.tail⟩
   ·refine run_exit rfl <| run_seq <| run_region ?_
    refine rl_call callable_17 rfl rfl rfl rfl rfl rfl (awake7_any _) (fun e85 w86 hp87 => ?_)
    obtain ⟨rfl, hOh⟩ := hp87
    refine ⟨_, rfl, ?_⟩
    have hO88 := hO2.join hOh
    refine rl_v rfl rfl rfl (ov_assign rfl rfl) <| rl_nil <| run_ret Try.func8 (res1 Try.results8 rfl) ?_
    exact ⟨rfl, hO88.below⟩
end Go.Proofs.Ytbepolognfdkeaa
