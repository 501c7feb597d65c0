import Derived.Test.YtbepolognfdkeaaGaX
set_option maxRecDepth 100000
namespace Go.Proofs.Ytbepolognfdkeaa
open Go.RowKit Go.Proofs Go.MapKept
theorem KiO.uniq {l : Lds} {D n m : Int} (h : KiO l n) (h' : KiO (l.shift D) m) (hV : l.Valid) (hc : l.chk = 0) (hc' : (l.shift D).chk = 0) (D0 : 0 ≤ D) (D1 : D ≤ 1000000) : n = m := by
 obtain ⟨a0, a1, a2⟩ := h.yes hc
 obtain ⟨b0, b1, b2⟩ := h'.yes hc'
 rcases Int.lt_trichotomy n m with d | d | d
 ·rcases b2 with e | e
  ·omega
  ·exact (e ((can_shift hV (by omega) D0 D1).2 (a1.mono (by omega)))).elim
 ·exact d
 ·rcases a2 with e | e
  ·omega
  ·exact (e (((can_shift hV b0 D0 D1).1 b1).mono (by omega))).elim
set_option maxHeartbeats 8000000 in
theorem shifts7_any (la : Option Addr) (lc : Nat) (l : Lds) (kilns dby : Int) (w : World) (hc : l.n ≤ lc) (hI : l.I64) (hl : SAt w.heap.size w la 4 l.n (ldF l)) :
  Calls Try.prog 11 #[.slice la l.n lc, iv kilns, iv dby] w fun e w' => e = .returned (.bool true) ∧ Below w.heap.size w w' := by
 obtain ⟨k, hk⟩ : ∃ k, k = 1 + kilns % 18446744073709551616 % 3 := ⟨_, rfl⟩
 have hm := modsD (x := kilns) (m := 3) ⟨by decide, by decide⟩
 obtain ⟨D, hD⟩ : ∃ D, D = dby % 18446744073709551616 % 500 := ⟨_, rfl⟩
 have hmD := modsD (x := dby) (m := 500) ⟨by decide, by decide⟩
 obtain ⟨o, ho⟩ : ∃ o, o = l.own 12 false := ⟨_, rfl⟩
 have hV : o.Valid := ho ▸ l.own_valid 12 false
 have hn : o.n ≤ 12 := ho ▸ l.own_le 12 false
 obtain ⟨p, hp0⟩ : ∃ p, p = l.own 12 true := ⟨_, rfl⟩
 have hVp : p.Valid := hp0 ▸ l.own_valid 12 true
 have hsh : p.Short := hp0 ▸ l.own_short 12
 have hpn : p.n = o.n := by rw [ho, hp0]; rfl
 have hpd : p.d = o.d := by rw [ho, hp0]; rfl
 have hkk : p.chkK k = 0 := Lds.chkK_ok (by omega) hVp (by omega)
 refine calls_of_run (F := [(0, _), (1, _), (2, _)]) Try.func11 rfl Try.ntmps11 rfl rfl ?_
 have hO0 := Own.init w
 refine run_seq <| run_region <| rl_v rfl rfl rfl (ov_assign rfl rfl) <| rl_nil <| run_seq <| run_region <| rl_v rfl rfl rfl (ov_move rfl rfl) <| rl_v rfl rfl rfl (ov_conv rfl Try.underlying3 Try.underlying33 rfl) <| rl_v rfl rfl rfl (ov_rem rfl rfl rfl (u64_nnD _) (by omega)) ?_
 refine rl_v rfl rfl rfl (ov_convTo (hm.1) rfl Try.underlying33 Try.underlying3 rfl) <| rl_v rfl rfl rfl (ov_add rfl rfl rfl (by omega)) ?_
 refine rl_v rfl rfl rfl (ov_assign rfl rfl) <| rl_nil <| run_seq <| run_region <| rl_v rfl rfl rfl (ov_move rfl rfl) <| rl_v rfl rfl rfl (ov_conv rfl Try.underlying3 Try.underlying33 rfl) <| rl_v rfl rfl rfl (ov_rem rfl rfl rfl (u64_nnD _) (by omega)) ?_
 refine rl_v rfl rfl rfl (ov_convTo (hmD.1) rfl Try.underlying33 Try.underlying3 rfl) <| rl_v rfl rfl rfl (ov_assign rfl rfl) <| rl_nil <| run_seq <| run_region <| rl_v rfl rfl rfl (ov_move rfl rfl) ?_
 refine rl_call callable_13 rfl rfl rfl rfl rfl rfl (own7_any la lc l 12 false _ hc (by decide) hI (hO0.satU hl)) (fun e1 w2 hp3 => ?_)
 obtain ⟨va, vc, c, rfl, hr, hOa⟩ := hp3
 refine ⟨_, rfl, ?_⟩
 have hO4 := hO0.join hOa
 rw [← ho] at hr ⊢
 refine rl_v rfl rfl rfl (ov_assign rfl rfl) <| rl_nil <| run_seq <| run_region <| rl_v rfl rfl rfl (ov_move rfl rfl) ?_
 refine rl_call callable_13 rfl rfl rfl rfl rfl rfl (own7_any la lc l 12 true _ hc (by decide) hI (hO4.satU hl)) (fun e5 w6 hp7 => ?_)
 obtain ⟨vp, vpc, cp, rfl, hp, hOb⟩ := hp7
 refine ⟨_, rfl, ?_⟩
 have hO8 := hO4.join hOb
 rw [← hp0] at hp ⊢
 rw [← hk, ← hD]
 rw [hpn] at hp ⊢
 obtain ⟨vb, hvb⟩ := hr.addr
 obtain ⟨vq, hvq⟩ := hp.addr
 have hOd := hO8.nil_cons.nil_cons
 refine rl_v rfl rfl rfl (ov_assign rfl rfl) <| rl_nil <| run_seq <| run_region <| rl_v rfl rfl rfl (ov_assign rfl rfl) <| rl_v rfl rfl rfl (ov_assign rfl rfl) <| rl_nil <| run_seq <| run_seq <| run_region <| rl_v rfl rfl rfl (ov_assign rfl rfl) <| rl_nil <| run_block <| Run.keep [7, 8, 9, 10, 11, 12, 13] (F' := [(7, _), (8, _), (9, _), (10, _), (11, _), (12, _), (13, _)]) rfl <| run_loop3 (fun (i : Nat) (v1 : Value) (v2 : Value) => [(13, .int .i64 (i : Int)), (11, v1), (12, v2)]) [7, 8, 9, 10] (fun (i : Nat) (v1 : Value) (v2 : Value) (w9 : World) => i ≤ o.n ∧ ∃ (c1 c2 : Option Blk), (∀ j : Int, 0 ≤ j → j < i → o.d j + D ≤ 1000000) ∧ SRow v1 72 4 i (ldF (o.shift D)) c1 ∧ SRow v2 72 4 i (ldF (p.shift D)) c2 ∧ Own w.heap.size w w9 [c1, c2, cp, c]) (fun (i : Nat) (v1 : Value) (v2 : Value) => o.n - i) (0) (.slice none 0 0) (.slice none 0 0) ?_ (And.intro (by exact slot_int rfl (by first | omega)) (And.intro rfl (And.intro rfl (And.intro rfl (And.intro rfl (And.intro rfl (And.intro rfl trivial))))))) ?_
 ·exact ⟨Nat.zero_le _, none, none, fun j a b => by omega, SRow.nil _ _ _, SRow.nil _ _ _, hOd⟩
 intro i v1 v2 w9 hIw9 ih10
 obtain ⟨hi, c1, c2, hle, hr1, hr2, hOe⟩ := hIw9
 show Run _ _ _ _ [(13, _), (11, _), (12, _), (7, _), (8, _), (9, _), (10, _)] _ _
 refine run_seq <| run_seq <| run_region <| rl_v rfl rfl rfl (ov_move rfl rfl) <| rl_v rfl rfl rfl (ov_move rfl rfl) <| rl_v rfl rfl rfl (ov_len rfl Try.underlying22 rfl) <| rl_v rfl rfl rfl (ov_lss rfl rfl rfl) <| rl_nil ?_
 first | refine run_cond_dec rfl (fun c3 => ?_) (fun c3 => ?_) | refine run_cond rfl (fun c3 => ?_) (fun c3 => ?_)
 ·have hvi := hV i (by omega) c3
  unfold Lds.Val at hvi
  have hvp := hVp i (by omega) (by rw [hpn]; exact c3)
  unfold Lds.Val at hvp
  refine run_skip <| run_seq <| run_block <| run_seq <| Run.keep [7, 8, 9, 10, 11, 12, 13] (F' := [(7, _), (8, _), (9, _), (10, _), (11, _), (12, _), (13, _)]) rfl <| run_join2 (fun (t14 : Nat) (t15 : Nat) => [(14, ptr t14), (15, ptr t15)]) [7, 8, 9, 10, 11, 12, 13] (fun (t14 : Nat) (t15 : Nat) (w11 : World) => Own w.heap.size w w11 [some (lch t15 72 (ldF p i)), some (lch t14 72 (ldF o i)), c1, c2, cp, c]) (fun hk12 => ?_) ?_
  ·refine run_held (fun w' => Own w.heap.size w w' ([c1, c2, cp, c])) mixed ?_
   have hO14 := hOe.drew
   generalize World.drew w9 = w13 at hO14 ⊢
   have hS15 : Own w.heap.size w w13 ([c1, c2, cp, c]) := by first | exact hO14 | exact hO14.tail | exact hO14.tail.tail | exact hO14.tail.tail.tail
   refine rh_v 0 rfl (by kernel_rfl) rfl rfl rfl hS15 (fun _ hS => ov_move rfl rfl) ?_
   refine rh_v 1 rfl (by kernel_rfl) rfl rfl rfl hS15 (fun _ hS => ov_move rfl rfl) ?_
   refine rh_v 2 rfl (by kernel_rfl) rfl rfl rfl hS15 (fun _ hS => ov_index rfl Try.underlying22 (by kernel_rfl) (s := 4) rfl rfl ⟨by omega, by omega⟩ (by exact hvb (by omega))) ?_
   refine rh_v 3 rfl (by kernel_rfl) rfl rfl rfl hS15 (fun _ hS => ov_loadE rfl Try.underlying72 rfl (by kernel_rfl) rfl ⟨by omega, by omega⟩ rfl ((hr.cellU hS 3 rfl (hvb (by omega))))) ?_
   refine rh_v 4 rfl (by kernel_rfl) rfl rfl rfl hS15 (fun _ hS => ov_move rfl rfl) ?_
   refine rh_v 5 rfl (by kernel_rfl) rfl rfl rfl hS15 (fun _ hS => ov_move rfl rfl) ?_
   refine rh_v 6 rfl (by kernel_rfl) rfl rfl rfl hS15 (fun _ hS => ov_index rfl Try.underlying22 (by kernel_rfl) (s := 4) rfl rfl ⟨by omega, by omega⟩ (by exact hvq (by omega))) ?_
   refine rh_v 7 rfl (by kernel_rfl) rfl rfl rfl hS15 (fun _ hS => ov_loadE rfl Try.underlying72 rfl (by kernel_rfl) rfl ⟨by omega, by omega⟩ rfl ((hp.cellU hS 2 rfl (hvq (by omega))))) ?_
   refine rh_any2 8 9 (by kernel_rfl) ?_ ?_
   ·refine rc_op rfl rfl (ow_alloc _ rfl rfl rfl zero_72 rfl hO14) ?_
    rintro _ w16 ⟨t14, rfl, hO17, hs18⟩
    have hS19 : Own w.heap.size w w16 ([c1, c2, cp, c]) := by first | exact hO17 | exact hO17.tail | exact hO17.tail.tail | exact hO17.tail.tail.tail
    refine ⟨hS19, ?_⟩
    refine rh_any1 9 (by kernel_rfl) ?_
    refine rc_op rfl rfl (ow_alloc _ rfl rfl rfl zero_72 rfl hO17) ?_
    rintro _ w20 ⟨t15, rfl, hO21, hs22⟩
    have hS23 : Own w.heap.size w w20 ([c1, c2, cp, c]) := by first | exact hO21 | exact hO21.tail | exact hO21.tail.tail | exact hO21.tail.tail.tail
    refine ⟨hS23, ?_⟩
    refine rh_any1 10 (by kernel_rfl) ?_
    refine rc_op rfl rfl (ow_storeW rfl rfl (by kernel_rfl) hO21 1 rfl rfl (by rfl) rfl (by rfl)) ?_
    rintro _ w24 ⟨rfl, hO25, hs26⟩
    have hS27 : Own w.heap.size w w24 ([c1, c2, cp, c]) := by first | exact hO25 | exact hO25.tail | exact hO25.tail.tail | exact hO25.tail.tail.tail
    refine ⟨hS27, ?_⟩
    refine rh_any1 11 (by kernel_rfl) ?_
    refine rc_op rfl rfl (ow_storeW rfl rfl (by kernel_rfl) hO25 0 rfl rfl (by rfl) rfl (by rfl)) ?_
    rintro _ w28 ⟨rfl, hO29, hs30⟩
    have hS31 : Own w.heap.size w w28 ([c1, c2, cp, c]) := by first | exact hO29 | exact hO29.tail | exact hO29.tail.tail | exact hO29.tail.tail.tail
    refine ⟨hS31, ?_⟩
    refine rh_done (by kernel_rfl) ?_
    refine Run.use (hk12 (t14) (t15) _ ?_) (And.intro rfl (And.intro rfl (And.intro rfl (And.intro rfl (And.intro rfl (And.intro rfl (And.intro rfl (And.intro rfl (And.intro rfl trivial)))))))))
    exact hO29
   ·refine rc_op rfl rfl (ow_alloc _ rfl rfl rfl zero_72 rfl hO14) ?_
    rintro _ w32 ⟨t15, rfl, hO33, hs34⟩
    have hS35 : Own w.heap.size w w32 ([c1, c2, cp, c]) := by first | exact hO33 | exact hO33.tail | exact hO33.tail.tail | exact hO33.tail.tail.tail
    refine ⟨hS35, ?_⟩
    refine rh_any1 8 (by kernel_rfl) ?_
    refine rc_op rfl rfl (ow_alloc _ rfl rfl rfl zero_72 rfl hO33) ?_
    rintro _ w36 ⟨t14, rfl, hO37, hs38⟩
    have hS39 : Own w.heap.size w w36 ([c1, c2, cp, c]) := by first | exact hO37 | exact hO37.tail | exact hO37.tail.tail | exact hO37.tail.tail.tail
    refine ⟨hS39, ?_⟩
    refine rh_any1 10 (by kernel_rfl) ?_
    refine rc_op rfl rfl (ow_storeW rfl rfl (by kernel_rfl) hO37 0 rfl rfl (by rfl) rfl (by rfl)) ?_
    rintro _ w40 ⟨rfl, hO41, hs42⟩
    have hS43 : Own w.heap.size w w40 ([c1, c2, cp, c]) := by first | exact hO41 | exact hO41.tail | exact hO41.tail.tail | exact hO41.tail.tail.tail
    refine ⟨hS43, ?_⟩
    refine rh_any1 11 (by kernel_rfl) ?_
    refine rc_op rfl rfl (ow_storeW rfl rfl (by kernel_rfl) hO41 1 rfl rfl (by rfl) rfl (by rfl)) ?_
    rintro _ w44 ⟨rfl, hO45, hs46⟩
    have hS47 : Own w.heap.size w w44 ([c1, c2, cp, c]) := by first | exact hO45 | exact hO45.tail | exact hO45.tail.tail | exact hO45.tail.tail.tail
    refine ⟨hS47, ?_⟩
    refine rh_done (by kernel_rfl) ?_
    refine Run.use (hk12 (t14) (t15) _ ?_) (And.intro rfl (And.intro rfl (And.intro rfl (And.intro rfl (And.intro rfl (And.intro rfl (And.intro rfl (And.intro rfl (And.intro rfl trivial)))))))))
    exact hO45.perm (.swap _ _ _)
  ·intro t14 t15 w11 hJw11
   have hOz := hJw11
   show Run _ _ _ _ [(14, _), (15, _), (7, _), (8, _), (9, _), (10, _), (11, _), (12, _), (13, _)] _ _
   refine run_seq <| run_region <| rl_v rfl rfl rfl (ov_fieldS rfl Try.underlying72 rfl (fo := 0) rfl (by kernel_rfl) rfl) ?_
   refine rl_v rfl rfl rfl (ov_load rfl Try.underlying3 rfl rfl (by exact hOz.cellL 1 rfl (off := 0) rfl)) ?_
   refine rl_v rfl rfl rfl (ov_move rfl rfl) <| rl_v rfl rfl rfl (ov_add rfl rfl rfl (by omega)) ?_
   refine rl_v rfl rfl rfl (ov_fieldS rfl Try.underlying72 rfl (fo := 0) rfl (by kernel_rfl) rfl) ?_
   refine rl_ow rfl (ow_storeL rfl rfl (by kernel_rfl) hOz 1 rfl rfl rfl rfl rfl) ?_
   rintro _ w48 ⟨rfl, hO49, hs50⟩
   refine rl_nil <| run_seq <| run_region <| rl_v rfl rfl rfl (ov_fieldS rfl Try.underlying72 rfl (fo := 1) rfl (by kernel_rfl) rfl) ?_
   refine rl_v rfl rfl rfl (ov_load rfl Try.underlying3 rfl rfl (by exact hO49.cellL 1 rfl (off := 1) rfl)) ?_
   refine rl_v rfl rfl rfl (ov_move rfl rfl) <| rl_v rfl rfl rfl (ov_add rfl rfl rfl (by omega)) ?_
   refine rl_v rfl rfl rfl (ov_fieldS rfl Try.underlying72 rfl (fo := 1) rfl (by kernel_rfl) rfl) ?_
   refine rl_ow rfl (ow_storeL rfl rfl (by kernel_rfl) hO49 1 rfl rfl rfl rfl rfl) ?_
   rintro _ w51 ⟨rfl, hO52, hs53⟩
   refine rl_nil <| run_seq <| run_region <| rl_v rfl rfl rfl (ov_fieldS rfl Try.underlying72 rfl (fo := 0) rfl (by kernel_rfl) rfl) ?_
   refine rl_v rfl rfl rfl (ov_load rfl Try.underlying3 rfl rfl (by exact hO52.cellL 0 rfl (off := 0) rfl)) ?_
   refine rl_v rfl rfl rfl (ov_move rfl rfl) <| rl_v rfl rfl rfl (ov_add rfl rfl rfl (by omega)) ?_
   refine rl_v rfl rfl rfl (ov_fieldS rfl Try.underlying72 rfl (fo := 0) rfl (by kernel_rfl) rfl) ?_
   refine rl_ow rfl (ow_storeL rfl rfl (by kernel_rfl) hO52 0 rfl rfl rfl rfl rfl) ?_
   rintro _ w54 ⟨rfl, hO55, hs56⟩
   refine rl_nil <| run_seq <| run_region <| rl_v rfl rfl rfl (ov_fieldS rfl Try.underlying72 rfl (fo := 1) rfl (by kernel_rfl) rfl) ?_
   refine rl_v rfl rfl rfl (ov_load rfl Try.underlying3 rfl rfl (by exact hO55.cellL 0 rfl (off := 1) rfl)) ?_
   refine rl_v rfl rfl rfl (ov_move rfl rfl) <| rl_v rfl rfl rfl (ov_add rfl rfl rfl (by omega)) ?_
   refine rl_v rfl rfl rfl (ov_fieldS rfl Try.underlying72 rfl (fo := 1) rfl (by kernel_rfl) rfl) ?_
   refine rl_ow rfl (ow_storeL rfl rfl (by kernel_rfl) hO55 0 rfl rfl rfl rfl rfl) ?_
   rintro _ w57 ⟨rfl, hO58, hs59⟩
   refine rl_nil <| run_seq <| run_seq <| run_region <| rl_v rfl rfl rfl (ov_fieldS rfl Try.underlying72 rfl (fo := 1) rfl (by kernel_rfl) rfl) ?_
   refine rl_v rfl rfl rfl (ov_load rfl Try.underlying3 rfl rfl (by exact hO58.cellL 1 rfl (off := 1) rfl)) ?_
   refine rl_v rfl rfl rfl (ov_gtr rfl rfl rfl) <| rl_nil ?_
   first | refine run_cond_dec rfl (fun c4 => ?_) (fun c4 => ?_) | refine run_cond rfl (fun c4 => ?_) (fun c4 => ?_)
   ·refine run_seq <| run_region ?_
    refine rl_call callable_17 rfl rfl rfl rfl rfl rfl (awake7_any _) (fun e60 w61 hp62 => ?_)
    obtain ⟨rfl, hOh⟩ := hp62
    refine ⟨_, rfl, ?_⟩
    have hO63 := hO58.join hOh
    refine rl_v rfl rfl rfl (ov_assign rfl rfl) <| rl_nil <| run_ret Try.func11 (res1 Try.results11 rfl) ?_
    exact ⟨rfl, hO63.below⟩
   ·refine run_skip <| run_seq <| run_region <| rl_v rfl rfl rfl (ov_move rfl rfl) <| rl_v rfl rfl rfl (ov_loadW rfl Try.underlying72 rfl (by kernel_rfl) rfl hO58 1 rfl) ?_
    refine rl_ow rfl (ow_build [_] rfl rfl rfl rfl rfl Try.underlying22 info_72 (by decide) hO58 rfl rfl) ?_
    rintro _ w64 ⟨b84, rfl, hO65, hs66⟩
    refine rl_ow rfl (ow_appR1 rfl rfl rfl Try.underlying22 info_72 rfl rfl hO65 2 hr1 rfl rfl rfl rfl rfl ⟨by omega, by omega⟩) ?_
    rintro _ w67 ⟨v85, c85, rfl, hO68, hr85, hs69⟩
    refine rl_v rfl rfl rfl (ov_assign rfl rfl) <| rl_nil <| run_region <| rl_v rfl rfl rfl (ov_move rfl rfl) <| rl_v rfl rfl rfl (ov_loadW rfl Try.underlying72 rfl (by kernel_rfl) rfl hO68 0 rfl) ?_
    refine rl_ow rfl (ow_build [_] rfl rfl rfl rfl rfl Try.underlying22 info_72 (by decide) hO68 rfl rfl) ?_
    rintro _ w70 ⟨b88, rfl, hO71, hs72⟩
    refine rl_ow rfl (ow_appR1 rfl rfl rfl Try.underlying22 info_72 rfl rfl hO71 3 hr2 rfl rfl rfl rfl rfl ⟨by omega, by omega⟩) ?_
    rintro _ w73 ⟨v89, c89, rfl, hO74, hr89, hs75⟩
    have hle2 : ∀ j : Int, 0 ≤ j → j < ((i + 1 : Nat) : Int) → o.d j + D ≤ 1000000 := fun j j0 j1 => by
     by_cases e : j = i
     ·rw [e]; omega
     ·exact hle j j0 (by omega)
    refine rl_v rfl rfl rfl (ov_assign rfl rfl) <| rl_nil <| run_inBlock <| run_region <| rl_v rfl rfl rfl (ov_move rfl rfl) <| rl_v rfl rfl rfl (ov_add rfl rfl rfl (by omega)) ?_
    refine rl_v rfl rfl rfl (ov_assign rfl rfl) <| rl_nil ?_
    refine Run.use (ih10 (i + 1) (v85) (v89) _ ?_ ?_) (And.intro (by exact slot_int rfl (by first | omega)) (And.intro rfl (And.intro rfl (And.intro rfl (And.intro rfl (And.intro rfl (And.intro rfl trivial)))))))
    ·first | omega | (dsimp only; omega)
    ·exact ⟨by omega, c85, c89, hle2, hr85.congr (ldF_upd (o.shift D) i (i + 1)), hr89.congr (ldF_upd (p.shift D) i (i + 1)), hO74.tail.tail⟩
 ·have hin : i = o.n := by omega
  rw [hin] at hr1 hr2 hle
  obtain ⟨a1, a1c, rfl⟩ := Row.val hr1
  obtain ⟨a2, a2c, rfl⟩ := Row.val hr2
  have hVs : (o.shift D).Valid := fun j j0 j1 => by
   have a := hV j j0 j1
   have b := hle j j0 j1
   unfold Lds.Val at a
   show 0 ≤ o.r j + D ∧ o.r j + D < o.d j + D ∧ o.d j + D ≤ 1000000 ∧ 1 ≤ o.len j ∧ o.len j ≤ o.d j + D - (o.r j + D) ∧ 0 ≤ o.wo j ∧ o.wo j ≤ 1000000
   omega
  have hVt : (p.shift D).Valid := fun j j0 j1 => by
   have j1' : j < (p.n : Int) := j1
   have a := hVp j j0 j1
   have b := hle j j0 (by omega)
   unfold Lds.Val at a
   rw [← hpd] at b
   show 0 ≤ p.r j + D ∧ p.r j + D < p.d j + D ∧ p.d j + D ≤ 1000000 ∧ 1 ≤ p.len j ∧ p.len j ≤ p.d j + D - (p.r j + D) ∧ 0 ≤ p.wo j ∧ p.wo j ≤ 1000000
   omega
  have hsht : (p.shift D).Short := hsh
  have hk0 : o.chk = 0 := Lds.chk_ok (by omega) hV
  have hks : (o.shift D).chk = 0 := Lds.chk_ok (show o.n ≤ 256 by omega) hVs
  have hkt : (p.shift D).chkK k = 0 := Lds.chkK_ok (show p.n ≤ 256 by omega) hVt (by omega)
  have hE1 := Lds.best_ok hkk hsh
  have hE2 := Lds.best_ok hkt hsht
  refine run_exit rfl <| run_seq <| run_region <| rl_v rfl rfl rfl (ov_move rfl rfl) ?_
  refine rl_call callable_15 rfl rfl rfl rfl rfl rfl (give7_any va vc o _ (by omega) (hr.reads hOe 3 rfl)) (fun e76 w77 hp78 => ?_)
  obtain ⟨xa, xc, cx, rfl, hx, hOb⟩ := hp78
  refine ⟨_, rfl, ?_⟩
  have hO79 := hOe.join hOb
  refine rl_call callable_14 rfl rfl rfl rfl rfl rfl (Kilns_any xa xc o _ (by omega) hV.i64 (hx.reads hO79 0 rfl)) (fun e80 w81 hp82 => ?_)
  obtain ⟨n1, rfl, hn1, hOc⟩ := hp82
  refine ⟨_, rfl, ?_⟩
  have hO83 := hO79.join hOc
  refine rl_v rfl rfl rfl (ov_move rfl rfl) <| rl_v rfl rfl rfl (ov_extract rfl rfl (by rfl)) ?_
  refine rl_v rfl rfl rfl (ov_extract rfl rfl (by rfl)) ?_
  refine rl_v rfl rfl rfl (ov_assign rfl rfl) <| rl_v rfl rfl rfl (ov_assign rfl rfl) <| rl_nil <| run_seq <| run_region <| rl_v rfl rfl rfl (ov_move rfl rfl) ?_
  refine rl_call callable_15 rfl rfl rfl rfl rfl rfl (give7_any a1 a1c (o.shift D) _ (show o.n ≤ 100000 by omega) (hr1.reads hO83 1 rfl)) (fun e84 w85 hp86 => ?_)
  obtain ⟨xa, xc, cx, rfl, hx, hOb⟩ := hp86
  refine ⟨_, rfl, ?_⟩
  have hO87 := hO83.join hOb
  refine rl_call callable_14 rfl rfl rfl rfl rfl rfl (Kilns_any xa xc (o.shift D) _ (show o.n ≤ 100000 by omega) hVs.i64 (hx.reads hO87 0 rfl)) (fun e88 w89 hp90 => ?_)
  obtain ⟨n2, rfl, hn2, hOc⟩ := hp90
  refine ⟨_, rfl, ?_⟩
  have hO91 := hO87.join hOc
  rw [hk0, hks]
  have hnn := hn1.uniq hn2 hV hk0 hks (by omega) (by omega)
  subst hnn
  rw [← hpn] at hp hr2 ⊢
  refine rl_v rfl rfl rfl (ov_move rfl rfl) <| rl_v rfl rfl rfl (ov_extract rfl rfl (by rfl)) ?_
  refine rl_v rfl rfl rfl (ov_extract rfl rfl (by rfl)) ?_
  refine rl_v rfl rfl rfl (ov_assign rfl rfl) <| rl_v rfl rfl rfl (ov_assign rfl rfl) <| rl_nil <| run_seq <| run_region <| rl_v rfl rfl rfl (ov_move rfl rfl) ?_
  refine rl_call callable_15 rfl rfl rfl rfl rfl rfl (give7_any vp vpc p _ (by omega) (hp.reads hO91 4 rfl)) (fun e92 w93 hp94 => ?_)
  obtain ⟨xa, xc, cx, rfl, hx, hOb⟩ := hp94
  refine ⟨_, rfl, ?_⟩
  have hO95 := hO91.join hOb
  refine rl_v rfl rfl rfl (ov_move rfl rfl) ?_
  refine rl_call callable_30 rfl rfl rfl rfl rfl rfl (Best_any xa xc p k _ (by omega) (fun _ => (by omega : p.n ≤ 20)) hVp.i64 (hx.reads hO95 0 rfl)) (fun e96 w97 hp98 => ?_)
  obtain ⟨ba, bn, bc, Y, s, cb, rfl, hrb, hy1, _, hOc⟩ := hp98
  refine ⟨_, rfl, ?_⟩
  have hO99 := hO95.join hOc
  rw [hE1]
  obtain ⟨Z, hZ, hRi, hmem, hbn, hs⟩ := hy1 hE1
  refine rl_v rfl rfl rfl (ov_move rfl rfl) <| rl_v rfl rfl rfl (ov_extract rfl rfl (by rfl)) ?_
  refine rl_v rfl rfl rfl (ov_extract rfl rfl (by rfl)) ?_
  refine rl_v rfl rfl rfl (ov_extract rfl rfl (by rfl)) ?_
  refine rl_v rfl rfl rfl (ov_assign rfl rfl) <| rl_v rfl rfl rfl (ov_assign rfl rfl) <| rl_v rfl rfl rfl (ov_assign rfl rfl) <| rl_nil <| run_seq <| run_region <| rl_v rfl rfl rfl (ov_move rfl rfl) ?_
  refine rl_call callable_15 rfl rfl rfl rfl rfl rfl (give7_any a2 a2c (p.shift D) _ (show p.n ≤ 100000 by omega) (hr2.reads hO99 5 rfl)) (fun e100 w101 hp102 => ?_)
  obtain ⟨xa, xc, cx, rfl, hx, hOb⟩ := hp102
  refine ⟨_, rfl, ?_⟩
  have hO103 := hO99.join hOb
  refine rl_v rfl rfl rfl (ov_move rfl rfl) ?_
  refine rl_call callable_30 rfl rfl rfl rfl rfl rfl (Best_any xa xc (p.shift D) k _ (show p.n ≤ 100000 by omega) (fun _ => (show p.n ≤ 20 by omega)) hVt.i64 (hx.reads hO103 0 rfl)) (fun e104 w105 hp106 => ?_)
  obtain ⟨da, dn, dc, Y2, s2, cd, rfl, hrd, hy2, _, hOd⟩ := hp106
  refine ⟨_, rfl, ?_⟩
  have hO107 := hO103.join hOd
  rw [hE2]
  obtain ⟨Z2, hZ2, hRi2, hmem2, hbn2, hs2⟩ := hy2 hE2
  have hZ3 : SrtW p Z2 := hZ2
  have hgg : grd (p.shift D) k Z2 p.n = grd p k Z p.n := (grd_shift p k D Z2 p.n).trans (grd_uniq hZ3 hZ p.n (Nat.le_refl _))
  have hss : s = s2 := by
   rw [hs, hs2]
   show _ = sm (fun i => ind (grd (p.shift D) k Z2 p.n i) * p.wo i) p.n
   rw [hgg]
  obtain ⟨hbd, heq⟩ := rise_uniq hRi hRi2 fun i => (hmem i).trans (Iff.trans (by rw [show (p.shift D).n = p.n from rfl, hgg]) (hmem2 i).symm)
  subst hbd
  subst hss
  refine rl_v rfl rfl rfl (ov_move rfl rfl) <| rl_v rfl rfl rfl (ov_extract rfl rfl (by rfl)) ?_
  refine rl_v rfl rfl rfl (ov_extract rfl rfl (by rfl)) ?_
  refine rl_v rfl rfl rfl (ov_extract rfl rfl (by rfl)) ?_
  refine rl_v rfl rfl rfl (ov_assign rfl rfl) <| rl_v rfl rfl rfl (ov_assign rfl rfl) <| rl_v rfl rfl rfl (ov_assign rfl rfl) <| rl_nil <| run_seq <| run_seq <| run_region <| rl_v rfl rfl rfl (ov_move rfl rfl) <| rl_v rfl rfl rfl (ov_neq rfl rfl rfl) <| rl_v rfl rfl rfl (ov_move rfl rfl) ?_
  first | refine rl_noD 120 rfl (by decide) ?_ | refine rl_no 120 rfl (by decide) ?_
  refine rl_gv rfl rfl rfl rfl rfl (ov_move rfl rfl) <| rl_gv rfl rfl rfl rfl rfl (ov_neq rfl rfl rfl) <| rl_v rfl rfl rfl (ov_pick_f rfl rfl rfl) <| rl_v rfl rfl rfl (ov_move rfl rfl) ?_
  first | refine rl_noD 124 rfl (by decide) ?_ | refine rl_no 124 rfl (by decide) ?_
  refine rl_gv rfl rfl rfl rfl rfl (ov_move rfl rfl) <| rl_gv rfl rfl rfl rfl rfl (ov_neq rfl rfl rfl) <| rl_v rfl rfl rfl (ov_pick_f rfl rfl rfl) <| rl_v rfl rfl rfl (ov_move rfl rfl) ?_
  first | refine rl_noD 128 rfl (by decide) ?_ | refine rl_no 128 rfl (by decide) ?_
  refine rl_gv rfl rfl rfl rfl rfl (ov_move rfl rfl) <| rl_gv rfl rfl rfl rfl rfl (ov_neq rfl rfl rfl) <| rl_v rfl rfl rfl (ov_pick_f rfl rfl rfl) <| rl_v rfl rfl rfl (ov_move rfl rfl) ?_
  first | refine rl_noD 132 rfl (by decide) ?_ | refine rl_no 132 rfl (by decide) ?_
  refine rl_gv rfl rfl rfl rfl rfl (ov_move rfl rfl) <| rl_gv rfl rfl rfl rfl rfl (ov_move rfl rfl) <| rl_gv rfl rfl rfl rfl rfl (ov_neq rfl rfl rfl) <| rl_v rfl rfl rfl (ov_pick_f rfl rfl rfl) <| rl_v rfl rfl rfl (ov_move rfl rfl) ?_
  first | refine rl_noD 137 rfl ((fun h => h rfl)) ?_ | refine rl_no 137 rfl ((fun h => h rfl)) ?_
  refine rl_gv rfl rfl rfl rfl rfl (ov_move rfl rfl) <| rl_gv rfl rfl rfl rfl rfl (ov_move rfl rfl) <| rl_gv rfl rfl rfl rfl rfl (ov_neq rfl rfl rfl) <| rl_v rfl rfl rfl (ov_pick_f rfl rfl rfl) <| rl_v rfl rfl rfl (ov_move rfl rfl) ?_
  first | refine rl_noD 142 rfl ((fun h => h rfl)) ?_ | refine rl_no 142 rfl ((fun h => h rfl)) ?_
  refine rl_gv rfl rfl rfl rfl rfl (ov_move rfl rfl) <| rl_gv rfl rfl rfl rfl rfl (ov_move rfl rfl) ?_
  refine rl_gcall callable_32 rfl rfl rfl rfl rfl rfl rfl rfl (ints7_any ba da bn bc bn dc Y Y2 _ (hrb.reads hO107 2 rfl) (hrd.reads hO107 0 rfl) (by omega) rfl heq) (fun e108 w109 hp110 => ?_)
  obtain ⟨rfl, hOf⟩ := hp110
  refine ⟨_, rfl, ?_⟩
  have hO111 := hO107.join hOf
  refine rl_gv rfl rfl rfl rfl rfl (ov_not rfl rfl) <| rl_v rfl rfl rfl (ov_pick_f rfl rfl rfl) <| rl_nil <| run_cond_f rfl ?_
  have hEe : (p.shift D).earE k = p.earE k := by
   unfold Lds.earE
   rw [if_pos hkk, if_pos hkt, if_pos hsh, if_pos hsht]
   by_cases c : CanM p k fun _ => True
   ·rw [if_pos c, if_pos (canM_shift.2 c)]
   ·rw [if_neg c, if_neg fun h => c (canM_shift.1 h)]
  refine run_skip <| run_seq <| run_region <| rl_v rfl rfl rfl (ov_move rfl rfl) ?_
  refine rl_call callable_15 rfl rfl rfl rfl rfl rfl (give7_any vp vpc p _ (by omega) (hp.reads hO111 8 rfl)) (fun e112 w113 hp114 => ?_)
  obtain ⟨xa, xc, cx, rfl, hx, hOb⟩ := hp114
  refine ⟨_, rfl, ?_⟩
  have hO115 := hO111.join hOb
  refine rl_v rfl rfl rfl (ov_move rfl rfl) ?_
  refine rl_call callable_34 rfl rfl rfl rfl rfl rfl (Early_any xa xc p k _ (by omega) (fun _ => (by omega : p.n ≤ 20)) hVp.i64 (hx.reads hO115 0 rfl)) (fun e116 w117 hp118 => ?_)
  obtain ⟨oa, on, oc, out, co, rfl, hro, hya, hza, hOd⟩ := hp118
  refine ⟨_, rfl, ?_⟩
  have hO119 := hO115.join hOd
  refine rl_v rfl rfl rfl (ov_move rfl rfl) <| rl_v rfl rfl rfl (ov_extract rfl rfl (by rfl)) ?_
  refine rl_v rfl rfl rfl (ov_extract rfl rfl (by rfl)) ?_
  refine rl_v rfl rfl rfl (ov_assign rfl rfl) <| rl_v rfl rfl rfl (ov_assign rfl rfl) <| rl_nil <| run_seq <| run_region <| rl_v rfl rfl rfl (ov_move rfl rfl) ?_
  refine rl_call callable_15 rfl rfl rfl rfl rfl rfl (give7_any a2 a2c (p.shift D) _ (show p.n ≤ 100000 by omega) (hr2.reads hO119 9 rfl)) (fun e120 w121 hp122 => ?_)
  obtain ⟨xa, xc, cx, rfl, hx, hOb⟩ := hp122
  refine ⟨_, rfl, ?_⟩
  have hO123 := hO119.join hOb
  refine rl_v rfl rfl rfl (ov_move rfl rfl) ?_
  refine rl_call callable_34 rfl rfl rfl rfl rfl rfl (Early_any xa xc (p.shift D) k _ (show p.n ≤ 100000 by omega) (fun _ => (show p.n ≤ 20 by omega)) hVt.i64 (hx.reads hO123 0 rfl)) (fun e124 w125 hp126 => ?_)
  obtain ⟨ra, rn, rc, out2, cr, rfl, hrr, hyb, hzb, hOf⟩ := hp126
  refine ⟨_, rfl, ?_⟩
  have hO127 := hO123.join hOf
  rw [hEe] at hyb hzb ⊢
  have hlast : on = rn ∧ ∀ i : Int, 0 ≤ i → i < on → out i + D = out2 i ∧ -1000000000 ≤ out i ∧ out i ≤ 1000000000 := by
   by_cases c : p.earE k = 0
   ·obtain ⟨e1, hF1⟩ := hya c
    obtain ⟨e2, hF2⟩ := hyb c
    refine ⟨e1.trans e2.symm, fun i i0 i1 => ?_⟩
    have h1 := hF1.uniq (EdF.shift hVp (by omega) hF2) hVp i i0 (by omega)
    have h2 := hF1.rng i i0 (by omega) trivial
    have h3 := hVp i i0 (by omega)
    unfold Lds.Val at h3
    omega
   ·refine ⟨(hza c).trans (hzb c).symm, fun i i0 i1 => ?_⟩
    have := hza c
    omega
  obtain ⟨hrn, hsame⟩ := hlast
  subst hrn
  refine rl_v rfl rfl rfl (ov_move rfl rfl) <| rl_v rfl rfl rfl (ov_extract rfl rfl (by rfl)) ?_
  refine rl_v rfl rfl rfl (ov_extract rfl rfl (by rfl)) ?_
  refine rl_v rfl rfl rfl (ov_assign rfl rfl) <| rl_v rfl rfl rfl (ov_assign rfl rfl) <| rl_nil <| run_seq <| run_seq <| run_region <| rl_v rfl rfl rfl (ov_move rfl rfl) <| rl_v rfl rfl rfl (ov_move rfl rfl) <| rl_v rfl rfl rfl (ov_neq rfl rfl rfl) <| rl_v rfl rfl rfl (ov_move rfl rfl) ?_
  first | refine rl_noD 165 rfl ((fun h => h rfl)) ?_ | refine rl_no 165 rfl ((fun h => h rfl)) ?_
  refine rl_gv rfl rfl rfl rfl rfl (ov_move rfl rfl) <| rl_gv rfl rfl rfl rfl rfl (ov_len rfl Try.underlying47 rfl) <| rl_gv rfl rfl rfl rfl rfl (ov_move rfl rfl) <| rl_gv rfl rfl rfl rfl rfl (ov_len rfl Try.underlying47 rfl) <| rl_gv rfl rfl rfl rfl rfl (ov_neq rfl rfl rfl) <| rl_v rfl rfl rfl (ov_pick_f rfl rfl rfl) <| rl_nil ?_
  first | refine run_cond_dec rfl (fun c10 => ?_) (fun c10 => ?_) | refine run_cond rfl (fun c10 => ?_) (fun c10 => ?_)
  ·exfalso; omega
  ·obtain ⟨ob, hoa⟩ := hro.addr
   obtain ⟨rb, hra⟩ := hrr.addr
   have hOs : Own w.heap.size w w125 [cr, co] := hO127.sub (.cons_cons _ (.cons _ (.cons_cons _ (List.nil_sublist _))))
   refine run_skip <| run_seq <| run_seq <| run_region <| rl_v rfl rfl rfl (ov_assign rfl rfl) <| rl_nil <| run_block <| Run.keep [8, 26, 28, 30] (F' := [(8, _), (26, _), (28, _), (30, _)]) rfl <| run_loop1 (fun (i : Nat) => [(30, .int .i64 (i : Int))]) [8, 26, 28] (fun (i : Nat) (w128 : World) => i ≤ on ∧ Own w.heap.size w w128 [cr, co]) (fun (i : Nat) => on - i) (0) ?_ (And.intro (by exact slot_int rfl (by first | omega)) (And.intro rfl (And.intro rfl (And.intro rfl trivial)))) ?_
   ·exact ⟨Nat.zero_le _, hOs⟩
   intro i w128 hIw128 ih129
   obtain ⟨hi, hOt⟩ := hIw128
   show Run _ _ _ _ [(30, _), (8, _), (26, _), (28, _)] _ _
   refine run_seq <| run_seq <| run_region <| rl_v rfl rfl rfl (ov_move rfl rfl) <| rl_v rfl rfl rfl (ov_move rfl rfl) <| rl_v rfl rfl rfl (ov_len rfl Try.underlying47 rfl) <| rl_v rfl rfl rfl (ov_lss rfl rfl rfl) <| rl_nil ?_
   first | refine run_cond_dec rfl (fun c11 => ?_) (fun c11 => ?_) | refine run_cond rfl (fun c11 => ?_) (fun c11 => ?_)
   ·have hsi := hsame i (by omega) c11
    have hcb := hro.cellU hOt 1 rfl (hoa (by omega)) (i := i) (by omega) (by omega)
    have hcc := hrr.cellU hOt 0 rfl (hra (by omega)) (i := i) (by omega) (by omega)
    refine run_skip <| run_seq <| run_block <| run_seq <| run_quiet mixed (by kernel_rfl) ?_
    refine rq_v rfl rfl rfl (fun _ => ov_move rfl rfl) ?_
    refine rq_v rfl rfl rfl (fun _ => ov_move rfl rfl) ?_
    refine rq_v rfl rfl rfl (fun _ => ov_index1 rfl Try.underlying47 (by kernel_rfl) rfl rfl ⟨by omega, by omega⟩ (by exact hoa (by omega))) ?_
    refine rq_v rfl rfl rfl (fun _ => ov_load rfl Try.underlying3 rfl rfl (by show World.cell? w128 _ = _; first | exact (id hcb))) ?_
    refine rq_v rfl rfl rfl (fun _ => ov_move rfl rfl) ?_
    refine rq_v rfl rfl rfl (fun _ => ov_add rfl rfl rfl (by omega)) ?_
    refine rq_v rfl rfl rfl (fun _ => ov_move rfl rfl) ?_
    refine rq_v rfl rfl rfl (fun _ => ov_move rfl rfl) ?_
    refine rq_v rfl rfl rfl (fun _ => ov_index1 rfl Try.underlying47 (by kernel_rfl) rfl rfl ⟨by omega, by omega⟩ (by exact hra (by omega))) ?_
    refine rq_v rfl rfl rfl (fun _ => ov_load rfl Try.underlying3 rfl rfl (by show World.cell? w128 _ = _; first | exact (id hcc))) ?_
    refine rq_v rfl rfl rfl (fun _ => ov_neq rfl rfl rfl) ?_
    refine rq_nil (fun n130 => ?_)
    have hO132 := hOt.drewN n130
    generalize World.drewN w128 n130 = w131 at hO132 ⊢
    first | refine run_cond_dec rfl (fun c12 => ?_) (fun c12 => ?_) | refine run_cond rfl (fun c12 => ?_) (fun c12 => ?_)
    ·exfalso; omega
    ·refine run_skip <| run_inBlock <| run_region <| rl_v rfl rfl rfl (ov_move rfl rfl) <| rl_v rfl rfl rfl (ov_add rfl rfl rfl (by omega)) ?_
     refine rl_v rfl rfl rfl (ov_assign rfl rfl) <| rl_nil ?_
     refine Run.use (ih129 (i + 1) _ ?_ ?_) (And.intro (by exact slot_int rfl (by first | omega)) (And.intro rfl (And.intro rfl (And.intro rfl trivial))))
     ·first | omega | (dsimp only; omega)
     ·exact ⟨by omega, hO132⟩
   ·refine run_exit rfl <| run_seq <| run_region ?_
    refine rl_call callable_17 rfl rfl rfl rfl rfl rfl (awake7_any _) (fun e133 w134 hp135 => ?_)
    obtain ⟨rfl, hOh⟩ := hp135
    refine ⟨_, rfl, ?_⟩
    have hO136 := hOt.join hOh
    refine rl_v rfl rfl rfl (ov_assign rfl rfl) <| rl_nil <| run_ret Try.func11 (res1 Try.results11 rfl) ?_
    exact ⟨rfl, hO136.below⟩
end Go.Proofs.Ytbepolognfdkeaa
