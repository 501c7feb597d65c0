/- Debts: Ring; NetCancels: the walk. -/
import Derived.Test.YtiambddcpflkhaaCanE
set_option maxRecDepth 100000
namespace Go.Proofs.Ytiambddcpflkhaa
open Go.RowKit Go.Proofs

theorem ring_any (ao : Option Addr) (n c : Nat) (D : Int → Int → Int) (w : World) (hv : Valid n D) (h : ITab w.heap.size w ao n (fun _ => n) (fun r c => .int .i64 (D r c))) :
    Calls Try.prog 42 #[.slice ao n c] w fun e w' => ∃ (l : List Int) (ao' : Option Addr) (cap' : Nat) (b : Bool), e = .returned (.tuple #[.slice ao' l.length cap', .bool b]) ∧
      (b = true ∧ RingL n D l ∧ IAt w'.heap.size w' ao' l.length (fun j => .int .i64 (lF l j)) ∨ b = false ∧ l = [] ∧ ¬ HasRing n D) ∧ Below w.heap.size w w' := by
  have hle := hv.le
  have hpos := hv.pos
  refine calls_of_run (F := [(0, _)]) Try.func42 rfl Try.ntmps42 rfl rfl ?_
  have hO0 := Own.init w
  refine run_seq ?_
  refine run_region ?_
  refine rl_ow rfl (ow_box _ rfl rfl rfl rfl rfl hO0) ?_
  rintro _ w1 ⟨b1, rfl, hO2, hs3⟩
  refine rl_v rfl rfl rfl (ov_assign rfl rfl) ?_
  refine rl_v rfl rfl rfl (ov_assign rfl rfl) ?_
  refine rl_nil ?_
  refine run_seq ?_
  refine run_seq ?_
  refine run_region ?_
  refine rl_v rfl rfl rfl (ov_load rfl Try.underlying22 rfl rfl (by first | exact hO2.cellI 0 rfl _ (by omega) (by omega) | exact hO2.cellL 0 rfl rfl | exact hO2.cellI 1 rfl _ (by omega) (by omega) | exact hO2.cellL 1 rfl rfl | exact hO2.cellI 2 rfl _ (by omega) (by omega) | exact hO2.cellL 2 rfl rfl | exact hO2.cellI 3 rfl _ (by omega) (by omega) | exact hO2.cellL 3 rfl rfl | exact hO2.cellI 4 rfl _ (by omega) (by omega) | exact hO2.cellL 4 rfl rfl | exact hO2.cellI 5 rfl _ (by omega) (by omega) | exact hO2.cellL 5 rfl rfl)) ?_
  refine rl_call callable_58 rfl rfl rfl rfl rfl rfl (check_any ao n c (fun _ => n) D _ (by omega) (h.later hO2.below)) (fun e4 w5 hp6 => ?_)
  obtain ⟨rfl, hb⟩ := hp6
  refine ⟨_, rfl, ?_⟩
  have hO7 := hO2.past hb
  rw [hv.chk]
  refine rl_v rfl rfl rfl (ov_neq rfl rfl rfl) ?_
  refine rl_nil ?_
  first | refine run_cond_dec rfl (fun h1 => ?_) (fun h1 => ?_) | refine run_cond rfl (fun h1 => ?_) (fun h1 => ?_)
  · exfalso; exact h1 rfl
  · refine run_skip ?_
    refine run_seq ?_
    refine run_region ?_
    refine rl_v rfl rfl rfl (ov_load rfl Try.underlying22 rfl rfl (by first | exact hO7.cellI 0 rfl _ (by omega) (by omega) | exact hO7.cellL 0 rfl rfl | exact hO7.cellI 1 rfl _ (by omega) (by omega) | exact hO7.cellL 1 rfl rfl | exact hO7.cellI 2 rfl _ (by omega) (by omega) | exact hO7.cellL 2 rfl rfl | exact hO7.cellI 3 rfl _ (by omega) (by omega) | exact hO7.cellL 3 rfl rfl | exact hO7.cellI 4 rfl _ (by omega) (by omega) | exact hO7.cellL 4 rfl rfl | exact hO7.cellI 5 rfl _ (by omega) (by omega) | exact hO7.cellL 5 rfl rfl)) ?_
    refine rl_v rfl rfl rfl (ov_len rfl Try.underlying22 rfl) ?_
    refine rl_make (n) rfl rfl rfl rfl Try.underlying55 info_3 rfl hO7 rfl rfl (by first | rfl | omega) (by first | rfl | omega) ⟨by omega, by omega⟩ (fun sb w8 hO9 hs10 => ?_)
    refine rl_ow rfl (ow_alloc _ rfl rfl rfl zero_55 rfl hO9) ?_
    rintro _ w11 ⟨b4, rfl, hO12, hs13⟩
    refine rl_ow rfl (ow_storeL rfl rfl (by kernel_rfl) hO12 0 rfl rfl rfl rfl rfl) ?_
    rintro _ w14 ⟨rfl, hO15, hs16⟩
    refine rl_nil ?_
    refine run_seq ?_
    refine run_region ?_
    refine rl_ow rfl (ow_alloc _ rfl rfl rfl zero_55 rfl hO15) ?_
    rintro _ w17 ⟨b5, rfl, hO18, hs19⟩
    refine rl_nil ?_
    refine run_seq ?_
    refine run_region ?_
    refine rl_ow rfl (ow_alloc _ rfl rfl rfl zero_111 rfl hO18) ?_
    rintro _ w20 ⟨b6, rfl, hO21, hs22⟩
    refine rl_nil ?_
    refine run_seq ?_
    refine run_region ?_
    refine rl_v rfl rfl rfl (ov_func rfl rfl rfl) ?_
    refine rl_ow rfl (ow_storeL rfl rfl (by kernel_rfl) hO21 0 rfl rfl rfl rfl rfl) ?_
    rintro _ w23 ⟨rfl, hO24, hs25⟩
    have hO9 := (hO24.perm ((List.Perm.swap _ _ _).trans (List.Perm.cons _ ((List.Perm.swap _ _ _).trans ((List.Perm.cons _ (List.Perm.swap _ _ _)).trans (List.Perm.swap _ _ _)))))).nil_cons
    refine rl_nil ?_
    refine run_seq ?_
    refine run_seq ?_
    refine run_region ?_
    refine rl_v rfl rfl rfl (ov_load rfl Try.underlying22 rfl rfl (by first | exact hO9.cellI 0 rfl _ (by omega) (by omega) | exact hO9.cellL 0 rfl rfl | exact hO9.cellI 1 rfl _ (by omega) (by omega) | exact hO9.cellL 1 rfl rfl | exact hO9.cellI 2 rfl _ (by omega) (by omega) | exact hO9.cellL 2 rfl rfl | exact hO9.cellI 3 rfl _ (by omega) (by omega) | exact hO9.cellL 3 rfl rfl | exact hO9.cellI 4 rfl _ (by omega) (by omega) | exact hO9.cellL 4 rfl rfl | exact hO9.cellI 5 rfl _ (by omega) (by omega) | exact hO9.cellL 5 rfl rfl)) ?_
    refine rl_v rfl rfl rfl (ov_len rfl Try.underlying22 rfl) ?_
    refine rl_v rfl rfl rfl (ov_move rfl rfl) ?_
    refine rl_nil ?_
    refine run_block ?_
    refine Run.keep [4, 5, 6, 16, 17] (F' := [(4, _), (5, _), (6, _), (16, _), (17, _)]) rfl ?_
    refine run_loop6 (fun (i : Int) (S : Int → Int) (f : Int → Int) (T : Int) (wv : Value) (cw : Option Blk) => [(17, .int .i64 i)]) [4, 5, 6, 16] (fun (i : Int) (S : Int → Int) (f : Int → Int) (T : Int) (wv : Value) (cw : Option Blk) (w26 : World) => 0 ≤ i ∧ i ≤ n ∧ Dfs n D S [] f T ∧ (∀ u : Int, 0 ≤ u → u < i → S u = 2) ∧ IRow wv 3 ([] : List Int).length (fun j => .int .i64 (lF [] j)) cw ∧ Own w.heap.size w w26 (cw :: some (lch b5 55 [wv]) :: some (vch sb 3 n (fun v => .int .i64 (S v))) :: some (lch b4 55 [.slice (some ⟨sb, 0, none⟩) n n]) :: some (lch b6 111 [.func (.func 77) #[] #[.pointer (some ⟨b4, 0, none⟩), .pointer (some ⟨b5, 0, none⟩), .pointer (some ⟨b1, 0, none⟩), .pointer (some ⟨b6, 0, none⟩)]]) :: some (lch b1 22 [.slice ao n c]) :: [])) (fun (i : Int) (S : Int → Int) (f : Int → Int) (T : Int) (wv : Value) (cw : Option Blk) => ((n : Int) - i).toNat) (0) (fun _ => 0) (fun _ => 0) (0) (.slice none 0 0) (none) ?_ (And.intro (by first | with_reducible rfl | exact slot_int rfl (by first | omega) | rfl) (And.intro rfl (And.intro rfl (And.intro rfl (And.intro rfl trivial))))) ?_
    · exact ⟨by omega, by omega, ⟨fun _ _ _ => .inl rfl, fun v hv => absurd hv List.not_mem_nil, fun v _ _ hv => absurd (show (0 : Int) = 1 from hv) (by decide), List.nodup_nil, fun k hk => absurd hk (Nat.not_lt_zero _), fun v _ _ hv => absurd (show (0 : Int) = 2 from hv) (by decide), fun _ => Int.le_refl _, Int.le_refl _⟩, fun u u0 u1 => by omega, IRow.nil _ _, hO9⟩
    intro i S f T wv cw w26 hIw26 ih27
    obtain ⟨hi0, hi1, hD, hdone, hr, hO⟩ := hIw26
    show Run _ _ _ _ [(17, _), (4, _), (5, _), (6, _), (16, _)] _ _
    refine run_seq ?_
    refine run_region ?_
    refine rl_v rfl rfl rfl (ov_lss rfl rfl rfl) ?_
    refine rl_nil ?_
    refine run_seq ?_
    first | refine run_cond_dec rfl (fun h2 => ?_) (fun h2 => ?_) | refine run_cond rfl (fun h2 => ?_) (fun h2 => ?_)
    · refine run_skip ?_
      refine run_seq ?_
      refine run_block ?_
      refine run_seq ?_
      refine run_region ?_
      refine rl_v rfl rfl rfl (ov_move rfl rfl) ?_
      refine rl_v rfl rfl rfl (ov_assign rfl rfl) ?_
      refine rl_nil ?_
      refine run_seq ?_
      refine run_region ?_
      refine rl_v rfl rfl rfl (ov_load rfl Try.underlying55 rfl rfl (by first | exact hO.cellL 3 rfl rfl)) ?_
      refine rl_v rfl rfl rfl (ov_move rfl rfl) ?_
      refine rl_v rfl rfl rfl (ov_index1 rfl Try.underlying55 (by kernel_rfl) rfl rfl ⟨by omega, by omega⟩ rfl) ?_
      refine rl_v rfl rfl rfl (ov_load rfl Try.underlying3 rfl rfl (by first | exact hO.cellI 2 rfl _ (by omega) (by omega))) ?_
      refine rl_v rfl rfl rfl (ov_eql rfl rfl rfl) ?_
      refine rl_v rfl rfl rfl (ov_move rfl rfl) ?_
      first | refine rl_split_dec 25 rfl (fun g1 => ?_) (fun g1 => ?_) | refine rl_split 25 rfl (fun g1 => ?_) (fun g1 => ?_)
      · refine rl_gv rfl rfl rfl rfl rfl (ov_load rfl Try.underlying111 rfl rfl (by first | exact hO.cellL 4 rfl rfl)) ?_
        refine rl_gv rfl rfl rfl rfl rfl (ov_move rfl rfl) ?_
        refine rl_gcall callable_77 rfl rfl rfl rfl rfl rfl rfl rfl (ringWalk_any n c b1 b4 b5 b6 sb ao D _ _ [] hv h _ i S [] f T wv cw _ rfl hi0 h2 g1 (fun k hk => absurd hk (by simp)) hD (by simp) hr hO) (fun e29 w30 hp31 => ?_)
        obtain ⟨bb, rfl, hres⟩ := hp31
        refine ⟨_, rfl, ?_⟩
        refine rl_v rfl rfl rfl (ov_pick_t rfl rfl rfl) ?_
        refine rl_nil ?_
        first | refine run_cond_dec rfl (fun h4 => ?_) (fun h4 => ?_) | refine run_cond rfl (fun h4 => ?_) (fun h4 => ?_)
        · obtain ⟨l, ao', cap', hl', hIl, hOl⟩ := (hres.resolve_left (fun hx => by rw [hx.1] at h4; cases h4)).2
          refine run_seq ?_
          refine run_region ?_
          refine rl_v rfl rfl rfl (ov_load rfl Try.underlying55 rfl rfl (by first | exact hOl.cellL 0 rfl rfl)) ?_
          refine rl_v rfl rfl rfl (ov_assign rfl rfl) ?_
          refine rl_v rfl rfl rfl (ov_assign rfl rfl) ?_
          refine rl_nil ?_
          refine run_ret Try.func42 (res2 Try.results42 rfl rfl) ?_
          exact ⟨l, ao', cap', true, rfl, .inl ⟨rfl, hl', hIl⟩, hOl.below⟩
        · obtain ⟨S2, f2, T2, wv2, cw2, hO2, hr2, hd2, hi2, hm22, hm20⟩ := (hres.resolve_right (fun hx => by rw [hx.1] at h4; cases h4)).2
          refine run_skip ?_
          refine run_inBlock ?_
          refine run_region ?_
          refine rl_v rfl rfl rfl (ov_add rfl rfl rfl (by omega)) ?_
          refine rl_v rfl rfl rfl (ov_move rfl rfl) ?_
          refine rl_nil ?_
          refine Run.use (ih27 (i + 1) (S2) (f2) (T2) (wv2) (cw2) _ ?_ ?_) (And.intro (by first | with_reducible rfl | exact slot_int rfl (by first | omega) | rfl) (And.intro rfl (And.intro rfl (And.intro rfl (And.intro rfl trivial)))))
          · first | omega | (dsimp only; omega)
          · exact ⟨by omega, by omega, hd2, fun u u0 u1 => (by omega : u = i ∨ u < i).elim (fun e => by rw [e]; exact hi2) (fun e => hm22 u u0 (by omega) (hdone u u0 e)), hr2, hO2⟩
      · have hS2 : S i = 2 := by
          have h5 := hD.vals i hi0 h2
          by_cases q : S i = 1
          · have := hD.one i hi0 h2 q; cases this
          · omega
        refine rl_gskip rfl rfl rfl rfl rfl rfl ?_
        refine rl_gskip rfl rfl rfl rfl rfl rfl ?_
        refine rl_gskip rfl rfl rfl rfl rfl rfl ?_
        refine rl_v rfl rfl rfl (ov_pick_f rfl rfl rfl) ?_
        refine rl_nil ?_
        refine run_cond_f rfl ?_
        refine run_skip ?_
        refine run_inBlock ?_
        refine run_region ?_
        refine rl_v rfl rfl rfl (ov_add rfl rfl rfl (by omega)) ?_
        refine rl_v rfl rfl rfl (ov_move rfl rfl) ?_
        refine rl_nil ?_
        refine Run.use (ih27 (i + 1) (S) (f) (T) (wv) (cw) _ ?_ ?_) (And.intro (by first | with_reducible rfl | exact slot_int rfl (by first | omega) | rfl) (And.intro rfl (And.intro rfl (And.intro rfl (And.intro rfl trivial)))))
        · first | omega | (dsimp only; omega)
        · exact ⟨by omega, by omega, hD, fun u u0 u1 => (by omega : u = i ∨ u < i).elim (fun e => by rw [e]; exact hS2) (fun e => hdone u u0 e), hr, hO⟩
    · have hnr : ¬ HasRing n D := noRing f hD.f0 fun a b a0 a1 b0 b1 q => ((hD.fin a a0 a1 (hdone a a0 (by omega))).2 b b0 b1 q).2
      refine run_exit rfl ?_
      refine run_seq ?_
      refine run_region ?_
      refine rl_v rfl rfl rfl (ov_assign rfl rfl) ?_
      refine rl_v rfl rfl rfl (ov_assign rfl rfl) ?_
      refine rl_nil ?_
      refine run_ret Try.func42 (res2 Try.results42 rfl rfl) ?_
      exact ⟨[], none, 0, false, rfl, .inr ⟨rfl, rfl, hnr⟩, hO.below⟩

theorem netCancels_any (ao : Option Addr) (G Gc : Nat) (L : Int → Nat) (D0 : Int → Int → Int) (w : World)
    (h : ITab w.heap.size w ao G L (fun r c => .int .i64 (D0 r c))) :
    Calls Try.prog 9 #[.slice ao G Gc] w fun e w' => e = .returned (.bool true) ∧ Below w.heap.size w w' := by
  refine calls_of_run (F := [(0, _)]) Try.func9 rfl Try.ntmps9 rfl rfl ?_
  have hO0 := Own.init w
  refine run_seq ?_
  refine run_region ?_
  refine rl_v rfl rfl rfl (ov_assign rfl rfl) ?_
  refine rl_nil ?_
  refine run_seq ?_
  refine run_region ?_
  refine rl_v rfl rfl rfl (ov_move rfl rfl) ?_
  refine rl_call callable_13 rfl rfl rfl rfl rfl rfl (tame_any ao G Gc 32 1000000 L D0 _ (by omega) (by omega) (by omega) h) (fun e1 w2 hp3 => ?_)
  obtain ⟨v, n, D, H, rfl, hT, hOt, hn1, hn8, hDr, hdia⟩ := hp3
  refine ⟨_, rfl, ?_⟩
  obtain ⟨to, tc, rfl⟩ := hT.val
  have hv : Valid n D := ⟨hn1, by omega, fun r c => (hDr r c).1, fun r c => (hDr r c).2, hdia⟩
  have hle := hv.le
  have hOA := hOt
  have hIT := hT.reads (H' := []) (by simpa using hOt)
  have hI0 := Own.init w2
  refine rl_v rfl rfl rfl (ov_assign rfl rfl) ?_
  refine rl_nil ?_
  refine run_seq ?_
  refine run_region ?_
  refine rl_v rfl rfl rfl (ov_move rfl rfl) ?_
  refine rl_call callable_14 rfl rfl rfl rfl rfl rfl (cancel_any to n tc D _ hv (hIT.later hI0.below)) (fun e4 w5 hp6 => ?_)
  obtain ⟨v4, x, H4, rk1, rfl, hT4, hOq4, hcx, hrk1, hb1⟩ := hp6
  refine ⟨_, rfl, ?_⟩
  have hO7 := hI0.join hOq4
  refine rl_v rfl rfl rfl (ov_move rfl rfl) ?_
  refine rl_v rfl rfl rfl (ov_extract rfl rfl (by rfl)) ?_
  refine rl_v rfl rfl rfl (ov_extract rfl rfl (by rfl)) ?_
  refine rl_v rfl rfl rfl (ov_extract rfl rfl (by rfl)) ?_
  refine rl_v rfl rfl rfl (ov_assign rfl rfl) ?_
  refine rl_v rfl rfl rfl (ov_assign rfl rfl) ?_
  refine rl_v rfl rfl rfl (ov_assign rfl rfl) ?_
  refine rl_nil ?_
  refine run_seq ?_
  refine run_region ?_
  refine rl_v rfl rfl rfl (ov_move rfl rfl) ?_
  refine rl_call callable_50 rfl rfl rfl rfl rfl rfl (ranks_any to n tc D _ hv (hIT.later hO7.below)) (fun e8 w9 hp10 => ?_)
  obtain ⟨b7, rk, x2, rfl, hOq7, hcx2, hrk, hb2⟩ := hp10
  refine ⟨_, rfl, ?_⟩
  have hO11 := hO7.join hOq7
  obtain ⟨xo, xc, rfl⟩ := hT4.val
  have hbn : bnd n D rk = total n x := by
    have q1 := hcx.weak rk
    have q2 := hcx2.weak rk1
    omega
  have hIX := hT4.reads (H' := []) hO11.tail
  have hI7 := hO11.readsI 0 rfl
  have hOB := hOA.join hO11
  have hIT2 := hIT.later hO11.below
  have hI0 := Own.init w9
  have hxb : ∀ i j : Int, 0 ≤ i → i < n → 0 ≤ j → j < n → 0 ≤ x i j ∧ x i j ≤ D i j ∧ D i j ≤ 1000000 := fun i j i0 i1 j0 j1 => ⟨hcx.lo i j i0 i1 j0 j1, hcx.hi i j i0 i1 j0 j1, hv.hi i j⟩
  have hps : ∀ v : Int, 0 ≤ v → v < n → ps n x v = 0 := fun v v0 v1 => by
    have q := hcx.cons v v0 v1
    unfold ps
    rw [← q]
    exact Int.sub_self _
  have hcn : Cnl n D n (fun _ => n) x := ⟨rfl, fun _ _ _ => rfl, fun i j i0 i1 j0 j1 => ⟨(hxb i j i0 i1 j0 j1).1, (hxb i j i0 i1 j0 j1).2.1⟩, hps⟩
  refine rl_v rfl rfl rfl (ov_move rfl rfl) ?_
  refine rl_v rfl rfl rfl (ov_extract rfl rfl (by rfl)) ?_
  refine rl_v rfl rfl rfl (ov_extract rfl rfl (by rfl)) ?_
  refine rl_v rfl rfl rfl (ov_assign rfl rfl) ?_
  refine rl_v rfl rfl rfl (ov_assign rfl rfl) ?_
  refine rl_nil ?_
  refine run_seq ?_
  refine run_seq ?_
  refine run_region ?_
  refine rl_v rfl rfl rfl (ov_move rfl rfl) ?_
  refine rl_v rfl rfl rfl (ov_neq rfl rfl rfl) ?_
  refine rl_v rfl rfl rfl (ov_move rfl rfl) ?_
  first | refine rl_split_dec 31 rfl (fun g1 => ?_) (fun g1 => ?_) | refine rl_split 31 rfl (fun g1 => ?_) (fun g1 => ?_)
  · refine rl_gskip rfl rfl rfl rfl rfl rfl ?_
    refine rl_gskip rfl rfl rfl rfl rfl rfl ?_
    refine rl_v rfl rfl rfl (ov_pick_t rfl rfl rfl) ?_
    refine rl_v rfl rfl rfl (ov_move rfl rfl) ?_
    refine rl_gskip rfl rfl rfl rfl rfl rfl ?_
    refine rl_gskip rfl rfl rfl rfl rfl rfl ?_
    refine rl_gskip rfl rfl rfl rfl rfl rfl ?_
    refine rl_gskip rfl rfl rfl rfl rfl rfl ?_
    refine rl_v rfl rfl rfl (ov_pick_t rfl rfl rfl) ?_
    refine rl_v rfl rfl rfl (ov_move rfl rfl) ?_
    refine rl_gskip rfl rfl rfl rfl rfl rfl ?_
    refine rl_gskip rfl rfl rfl rfl rfl rfl ?_
    refine rl_gskip rfl rfl rfl rfl rfl rfl ?_
    refine rl_gskip rfl rfl rfl rfl rfl rfl ?_
    refine rl_v rfl rfl rfl (ov_pick_t rfl rfl rfl) ?_
    refine rl_v rfl rfl rfl (ov_move rfl rfl) ?_
    refine rl_gskip rfl rfl rfl rfl rfl rfl ?_
    refine rl_gskip rfl rfl rfl rfl rfl rfl ?_
    refine rl_gskip rfl rfl rfl rfl rfl rfl ?_
    refine rl_gskip rfl rfl rfl rfl rfl rfl ?_
    refine rl_v rfl rfl rfl (ov_pick_t rfl rfl rfl) ?_
    refine rl_v rfl rfl rfl (ov_move rfl rfl) ?_
    refine rl_gskip rfl rfl rfl rfl rfl rfl ?_
    refine rl_gskip rfl rfl rfl rfl rfl rfl ?_
    refine rl_gskip rfl rfl rfl rfl rfl rfl ?_
    refine rl_gskip rfl rfl rfl rfl rfl rfl ?_
    refine rl_gskip rfl rfl rfl rfl rfl rfl ?_
    refine rl_v rfl rfl rfl (ov_pick_t rfl rfl rfl) ?_
    refine rl_nil ?_
    refine run_cond_t rfl ?_
    exfalso; exact g1 rfl
  · refine rl_gv rfl rfl rfl rfl rfl (ov_move rfl rfl) ?_
    refine rl_gv rfl rfl rfl rfl rfl (ov_neq rfl rfl rfl) ?_
    refine rl_v rfl rfl rfl (ov_pick_f rfl rfl rfl) ?_
    refine rl_v rfl rfl rfl (ov_move rfl rfl) ?_
    first | refine rl_split_dec 35 rfl (fun g2 => ?_) (fun g2 => ?_) | refine rl_split 35 rfl (fun g2 => ?_) (fun g2 => ?_)
    · refine rl_gskip rfl rfl rfl rfl rfl rfl ?_
      refine rl_gskip rfl rfl rfl rfl rfl rfl ?_
      refine rl_gskip rfl rfl rfl rfl rfl rfl ?_
      refine rl_gskip rfl rfl rfl rfl rfl rfl ?_
      refine rl_v rfl rfl rfl (ov_pick_t rfl rfl rfl) ?_
      refine rl_v rfl rfl rfl (ov_move rfl rfl) ?_
      refine rl_gskip rfl rfl rfl rfl rfl rfl ?_
      refine rl_gskip rfl rfl rfl rfl rfl rfl ?_
      refine rl_gskip rfl rfl rfl rfl rfl rfl ?_
      refine rl_gskip rfl rfl rfl rfl rfl rfl ?_
      refine rl_v rfl rfl rfl (ov_pick_t rfl rfl rfl) ?_
      refine rl_v rfl rfl rfl (ov_move rfl rfl) ?_
      refine rl_gskip rfl rfl rfl rfl rfl rfl ?_
      refine rl_gskip rfl rfl rfl rfl rfl rfl ?_
      refine rl_gskip rfl rfl rfl rfl rfl rfl ?_
      refine rl_gskip rfl rfl rfl rfl rfl rfl ?_
      refine rl_v rfl rfl rfl (ov_pick_t rfl rfl rfl) ?_
      refine rl_v rfl rfl rfl (ov_move rfl rfl) ?_
      refine rl_gskip rfl rfl rfl rfl rfl rfl ?_
      refine rl_gskip rfl rfl rfl rfl rfl rfl ?_
      refine rl_gskip rfl rfl rfl rfl rfl rfl ?_
      refine rl_gskip rfl rfl rfl rfl rfl rfl ?_
      refine rl_gskip rfl rfl rfl rfl rfl rfl ?_
      refine rl_v rfl rfl rfl (ov_pick_t rfl rfl rfl) ?_
      refine rl_nil ?_
      refine run_cond_t rfl ?_
      exfalso; exact g2 rfl
    · refine rl_gv rfl rfl rfl rfl rfl (ov_move rfl rfl) ?_
      refine rl_gv rfl rfl rfl rfl rfl (ov_move rfl rfl) ?_
      refine rl_gcall callable_41 rfl rfl rfl rfl rfl rfl rfl rfl (cancelling_any to xo n tc n xc (fun _ => n) D x _ hv (by omega) (hIT2.later hI0.below) (hIX.later hI0.below)) (fun e14 w15 hp16 => ?_)
      obtain ⟨⟨c1, rfl, hc1⟩, hb3⟩ := hp16
      refine ⟨_, rfl, ?_⟩
      have hO17 := hI0.past hb3
      obtain rfl : c1 = true := hc1.2 hcn
      refine rl_gv rfl rfl rfl rfl rfl (ov_not rfl rfl) ?_
      refine rl_v rfl rfl rfl (ov_pick_f rfl rfl rfl) ?_
      refine rl_v rfl rfl rfl (ov_move rfl rfl) ?_
      first | refine rl_split_dec 41 rfl (fun g3 => ?_) (fun g3 => ?_) | refine rl_split 41 rfl (fun g3 => ?_) (fun g3 => ?_)
      · refine rl_gskip rfl rfl rfl rfl rfl rfl ?_
        refine rl_gskip rfl rfl rfl rfl rfl rfl ?_
        refine rl_gskip rfl rfl rfl rfl rfl rfl ?_
        refine rl_gskip rfl rfl rfl rfl rfl rfl ?_
        refine rl_v rfl rfl rfl (ov_pick_t rfl rfl rfl) ?_
        refine rl_v rfl rfl rfl (ov_move rfl rfl) ?_
        refine rl_gskip rfl rfl rfl rfl rfl rfl ?_
        refine rl_gskip rfl rfl rfl rfl rfl rfl ?_
        refine rl_gskip rfl rfl rfl rfl rfl rfl ?_
        refine rl_gskip rfl rfl rfl rfl rfl rfl ?_
        refine rl_v rfl rfl rfl (ov_pick_t rfl rfl rfl) ?_
        refine rl_v rfl rfl rfl (ov_move rfl rfl) ?_
        refine rl_gskip rfl rfl rfl rfl rfl rfl ?_
        refine rl_gskip rfl rfl rfl rfl rfl rfl ?_
        refine rl_gskip rfl rfl rfl rfl rfl rfl ?_
        refine rl_gskip rfl rfl rfl rfl rfl rfl ?_
        refine rl_gskip rfl rfl rfl rfl rfl rfl ?_
        refine rl_v rfl rfl rfl (ov_pick_t rfl rfl rfl) ?_
        refine rl_nil ?_
        refine run_cond_t rfl ?_
        exfalso; cases g3
      · refine rl_gv rfl rfl rfl rfl rfl (ov_move rfl rfl) ?_
        refine rl_gcall callable_51 rfl rfl rfl rfl rfl rfl rfl rfl (amount_any xo n xc x _ hle (fun i j i0 i1 j0 j1 => by have := hxb i j i0 i1 j0 j1; omega) (hIX.later hO17.below)) (fun e19 w20 hp21 => ?_)
        obtain ⟨rfl, hb4⟩ := hp21
        refine ⟨_, rfl, ?_⟩
        have hO22 := hO17.past hb4
        refine rl_gv rfl rfl rfl rfl rfl (ov_move rfl rfl) ?_
        refine rl_gv rfl rfl rfl rfl rfl (ov_neq rfl rfl rfl) ?_
        refine rl_v rfl rfl rfl (ov_pick_f rfl rfl rfl) ?_
        refine rl_v rfl rfl rfl (ov_move rfl rfl) ?_
        first | refine rl_split_dec 47 rfl (fun g4 => ?_) (fun g4 => ?_) | refine rl_split 47 rfl (fun g4 => ?_) (fun g4 => ?_)
        · refine rl_gskip rfl rfl rfl rfl rfl rfl ?_
          refine rl_gskip rfl rfl rfl rfl rfl rfl ?_
          refine rl_gskip rfl rfl rfl rfl rfl rfl ?_
          refine rl_gskip rfl rfl rfl rfl rfl rfl ?_
          refine rl_v rfl rfl rfl (ov_pick_t rfl rfl rfl) ?_
          refine rl_v rfl rfl rfl (ov_move rfl rfl) ?_
          refine rl_gskip rfl rfl rfl rfl rfl rfl ?_
          refine rl_gskip rfl rfl rfl rfl rfl rfl ?_
          refine rl_gskip rfl rfl rfl rfl rfl rfl ?_
          refine rl_gskip rfl rfl rfl rfl rfl rfl ?_
          refine rl_gskip rfl rfl rfl rfl rfl rfl ?_
          refine rl_v rfl rfl rfl (ov_pick_t rfl rfl rfl) ?_
          refine rl_nil ?_
          refine run_cond_t rfl ?_
          exfalso; exact g4 rfl
        · refine rl_gv rfl rfl rfl rfl rfl (ov_move rfl rfl) ?_
          refine rl_gv rfl rfl rfl rfl rfl (ov_move rfl rfl) ?_
          refine rl_gcall callable_16 rfl rfl rfl rfl rfl rfl rfl rfl (ranked_any to _ n tc n n 0 1000 rk _ (hI7.later hO22.below) (by omega)) (fun e24 w25 hp26 => ?_)
          obtain ⟨⟨c2, rfl, hc2⟩, hb5⟩ := hp26
          refine ⟨_, rfl, ?_⟩
          have hO27 := hO22.past hb5
          obtain rfl : c2 = true := hc2.2 ⟨rfl, fun i i0 i1 => hrk i i0 i1⟩
          refine rl_gv rfl rfl rfl rfl rfl (ov_not rfl rfl) ?_
          refine rl_v rfl rfl rfl (ov_pick_f rfl rfl rfl) ?_
          refine rl_v rfl rfl rfl (ov_move rfl rfl) ?_
          first | refine rl_split_dec 53 rfl (fun g5 => ?_) (fun g5 => ?_) | refine rl_split 53 rfl (fun g5 => ?_) (fun g5 => ?_)
          · refine rl_gskip rfl rfl rfl rfl rfl rfl ?_
            refine rl_gskip rfl rfl rfl rfl rfl rfl ?_
            refine rl_gskip rfl rfl rfl rfl rfl rfl ?_
            refine rl_gskip rfl rfl rfl rfl rfl rfl ?_
            refine rl_gskip rfl rfl rfl rfl rfl rfl ?_
            refine rl_v rfl rfl rfl (ov_pick_t rfl rfl rfl) ?_
            refine rl_nil ?_
            refine run_cond_t rfl ?_
            exfalso; cases g5
          · refine rl_gv rfl rfl rfl rfl rfl (ov_move rfl rfl) ?_
            refine rl_gv rfl rfl rfl rfl rfl (ov_move rfl rfl) ?_
            refine rl_gcall callable_17 rfl rfl rfl rfl rfl rfl rfl rfl (refBound_any to _ n tc n n D rk _ hv (Nat.le_refl _) (fun i i0 i1 => by have := hrk i i0 i1; omega) (hIT2.later hO27.below) (hI7.later hO27.below)) (fun e29 w30 hp31 => ?_)
            obtain ⟨rfl, hb6⟩ := hp31
            refine ⟨_, rfl, ?_⟩
            have hO32 := hO27.past hb6
            refine rl_gv rfl rfl rfl rfl rfl (ov_move rfl rfl) ?_
            refine rl_gv rfl rfl rfl rfl rfl (ov_neq rfl rfl rfl) ?_
            refine rl_v rfl rfl rfl (ov_pick_f rfl rfl rfl) ?_
            refine rl_nil ?_
            first | refine run_cond_dec rfl (fun h9 => ?_) (fun h9 => ?_) | refine run_cond rfl (fun h9 => ?_) (fun h9 => ?_)
            · exfalso; exact h9 hbn
            · refine run_skip ?_
              refine run_seq ?_
              refine run_region ?_
              refine rl_v rfl rfl rfl (ov_move rfl rfl) ?_
              refine rl_v rfl rfl rfl (ov_move rfl rfl) ?_
              refine rl_call callable_52 rfl rfl rfl rfl rfl rfl (less_any to xo n tc xc D x _ hle hxb (hIT2.later hO32.below) (hIX.later hO32.below)) (fun e33 w34 hp35 => ?_)
              obtain ⟨v9, H9, rfl, hT9, hOq9⟩ := hp35
              refine ⟨_, rfl, ?_⟩
              have hO36 := hO32.join hOq9
              obtain ⟨lo, lc, rfl⟩ := hT9.val
              have hIL := hT9.reads hO36
              obtain ⟨Dl, hDl⟩ : ∃ Dl : Int → Int → Int, ∀ r c, Dl r c = if (0 ≤ r ∧ r < n) ∧ 0 ≤ c ∧ c < n then D r c - x r c else 0 := ⟨_, fun _ _ => rfl⟩
              have hDi : ∀ r c : Int, 0 ≤ r → r < n → 0 ≤ c → c < n → Dl r c = D r c - x r c := fun r c r0 r1 c0 c1 => by rw [hDl, if_pos ⟨⟨r0, r1⟩, c0, c1⟩]
              have hvL : Valid n Dl := by
                refine ⟨hn1, hle, fun r c => ?_, fun r c => ?_, fun r => ?_⟩
                all_goals rw [hDl]; split
                · rename_i q; have := hxb r c q.1.1 q.1.2 q.2.1 q.2.2; omega
                · exact Int.le_refl _
                · rename_i q; have := hxb r c q.1.1 q.1.2 q.2.1 q.2.2; omega
                · omega
                · rename_i q; have := hxb r r q.1.1 q.1.2 q.2.1 q.2.2; have := hdia r; omega
                · rfl
              have hIL' : ITab w34.heap.size w34 lo n (fun _ => n) (fun r c => .int .i64 (Dl r c)) := hIL.congr fun r c r0 r1 c0 c1 => by rw [hDi r c r0 r1 c0 c1]
              have hnr : ¬ HasRing n Dl := noRing (fun i => max 0 (1000 - rk i)) (fun i => by omega) fun i j i0 i1 j0 j1 q => by
                have q1 := slack hcx hv hbn i j i0 i1 j0 j1 (by rw [← hDi i j i0 i1 j0 j1]; exact q)
                have q2 := hrk j j0 j1
                show max 0 (1000 - rk j) < max 0 (1000 - rk i)
                omega
              have hpsl : ∀ v : Int, 0 ≤ v → v < n → ps n D v = ps n Dl v := fun v v0 v1 => by
                have q := hps v v0 v1
                unfold ps at q ⊢
                rw [sm_congr (f := fun i => Dl i v) (g := fun i => D i v - x i v) (fun i i0 i1 => hDi i v i0 i1 v0 v1), sm_congr (f := Dl v) (g := fun j => D v j - x v j) (fun j j0 j1 => hDi v j v0 v1 j0 j1), sm_sub, sm_sub]
                omega
              have hOC := hOB.join hO36
              have hIT3 := hIT2.later hO36.below
              have hIX3 := hIX.later hO36.below
              have hI0 := Own.init w34
              refine rl_v rfl rfl rfl (ov_assign rfl rfl) ?_
              refine rl_nil ?_
              refine run_seq ?_
              refine run_region ?_
              refine rl_v rfl rfl rfl (ov_move rfl rfl) ?_
              refine rl_call callable_42 rfl rfl rfl rfl rfl rfl (ring_any lo n lc Dl _ hvL (hIL'.later hI0.below)) (fun e37 w38 hp39 => ?_)
              obtain ⟨l, ao', cap', b, rfl, hres, hb7⟩ := hp39
              refine ⟨_, rfl, ?_⟩
              have hO40 := hI0.past hb7
              obtain ⟨hbf, hlf, _⟩ := hres.resolve_left (fun hx => hnr hx.2.1.has)
              subst hbf
              subst hlf
              refine rl_v rfl rfl rfl (ov_move rfl rfl) ?_
              refine rl_v rfl rfl rfl (ov_extract rfl rfl (by rfl)) ?_
              refine rl_v rfl rfl rfl (ov_extract rfl rfl (by rfl)) ?_
              refine rl_v rfl rfl rfl (ov_assign rfl rfl) ?_
              refine rl_v rfl rfl rfl (ov_assign rfl rfl) ?_
              refine rl_nil ?_
              refine run_seq ?_
              refine run_region ?_
              refine rl_v rfl rfl rfl (ov_move rfl rfl) ?_
              refine rl_call callable_43 rfl rfl rfl rfl rfl rfl (positions_any2 to n tc D _ hv (hIT3.later hO40.below)) (fun e41 w42 hp43 => ?_)
              obtain ⟨b12, rfl, hOq12⟩ := hp43
              refine ⟨_, rfl, ?_⟩
              have hO44 := hO40.join hOq12
              refine rl_v rfl rfl rfl (ov_move rfl rfl) ?_
              refine rl_v rfl rfl rfl (ov_extract rfl rfl (by rfl)) ?_
              refine rl_v rfl rfl rfl (ov_extract rfl rfl (by rfl)) ?_
              refine rl_v rfl rfl rfl (ov_assign rfl rfl) ?_
              refine rl_v rfl rfl rfl (ov_assign rfl rfl) ?_
              refine rl_nil ?_
              refine run_seq ?_
              refine run_region ?_
              refine rl_v rfl rfl rfl (ov_move rfl rfl) ?_
              refine rl_call callable_43 rfl rfl rfl rfl rfl rfl (positions_any2 lo n lc Dl _ hvL (hIL'.later hO44.below)) (fun e45 w46 hp47 => ?_)
              obtain ⟨b14, rfl, hOq14⟩ := hp47
              refine ⟨_, rfl, ?_⟩
              have hO48 := hO44.join hOq14
              refine rl_v rfl rfl rfl (ov_move rfl rfl) ?_
              refine rl_v rfl rfl rfl (ov_extract rfl rfl (by rfl)) ?_
              refine rl_v rfl rfl rfl (ov_extract rfl rfl (by rfl)) ?_
              refine rl_v rfl rfl rfl (ov_assign rfl rfl) ?_
              refine rl_v rfl rfl rfl (ov_assign rfl rfl) ?_
              refine rl_nil ?_
              refine run_seq ?_
              refine run_region ?_
              refine rl_v rfl rfl rfl (ov_move rfl rfl) ?_
              refine rl_call callable_45 rfl rfl rfl rfl rfl rfl (rings_any lo n lc Dl _ hle (hIL'.later hO48.below)) (fun e49 w50 hp51 => ?_)
              obtain ⟨⟨c3, rfl, hc3⟩, hb8⟩ := hp51
              refine ⟨_, rfl, ?_⟩
              have hO52 := hO48.past hb8
              obtain rfl : c3 = false := by cases c3; rfl; exact absurd (hc3.1 rfl) hnr
              refine rl_v rfl rfl rfl (ov_not rfl rfl) ?_
              refine rl_v rfl rfl rfl (ov_move rfl rfl) ?_
              first | refine rl_split_dec 81 rfl (fun k1 => ?_) (fun k1 => ?_) | refine rl_split 81 rfl (fun k1 => ?_) (fun k1 => ?_)
              · refine rl_gv rfl rfl rfl rfl rfl (ov_move rfl rfl) ?_
                refine rl_gv rfl rfl rfl rfl rfl (ov_not rfl rfl) ?_
                refine rl_v rfl rfl rfl (ov_pick_t rfl rfl rfl) ?_
                refine rl_v rfl rfl rfl (ov_move rfl rfl) ?_
                first | refine rl_split_dec 85 rfl (fun k2 => ?_) (fun k2 => ?_) | refine rl_split 85 rfl (fun k2 => ?_) (fun k2 => ?_)
                · refine rl_gv rfl rfl rfl rfl rfl (ov_move rfl rfl) ?_
                  refine rl_gv rfl rfl rfl rfl rfl (ov_len rfl Try.underlying55 rfl) ?_
                  refine rl_gv rfl rfl rfl rfl rfl (ov_eql rfl rfl rfl) ?_
                  refine rl_v rfl rfl rfl (ov_pick_t rfl rfl rfl) ?_
                  refine rl_v rfl rfl rfl (ov_move rfl rfl) ?_
                  refine rl_known 90 rfl (rfl) ?_
                  refine rl_gv rfl rfl rfl rfl rfl (ov_move rfl rfl) ?_
                  refine rl_gv rfl rfl rfl rfl rfl (ov_eql rfl rfl rfl) ?_
                  refine rl_v rfl rfl rfl (ov_pick_t rfl rfl rfl) ?_
                  refine rl_v rfl rfl rfl (ov_move rfl rfl) ?_
                  refine rl_known 94 rfl (rfl) ?_
                  refine rl_gv rfl rfl rfl rfl rfl (ov_move rfl rfl) ?_
                  refine rl_gv rfl rfl rfl rfl rfl (ov_eql rfl rfl rfl) ?_
                  refine rl_v rfl rfl rfl (ov_pick_t rfl rfl rfl) ?_
                  refine rl_v rfl rfl rfl (ov_move rfl rfl) ?_
                  refine rl_known 98 rfl (rfl) ?_
                  refine rl_gv rfl rfl rfl rfl rfl (ov_move rfl rfl) ?_
                  refine rl_gv rfl rfl rfl rfl rfl (ov_move rfl rfl) ?_
                  refine rl_gcall callable_23 rfl rfl rfl rfl rfl rfl rfl rfl (longs_any _ _ n n n n (ps n D) (ps n Dl) _ (by omega) (hO52.readsI 1 rfl) (hO52.readsI 0 rfl)) (fun e55 w56 hp57 => ?_)
                  obtain ⟨⟨c4, rfl, hc4⟩, hb9⟩ := hp57
                  refine ⟨_, rfl, ?_⟩
                  have hO58 := hO52.past hb9
                  obtain rfl : c4 = true := hc4.2 ⟨rfl, hpsl⟩
                  refine rl_v rfl rfl rfl (ov_pick_t rfl rfl rfl) ?_
                  refine rl_v rfl rfl rfl (ov_move rfl rfl) ?_
                  first | refine rl_split_dec 103 rfl (fun k3 => ?_) (fun k3 => ?_) | refine rl_split 103 rfl (fun k3 => ?_) (fun k3 => ?_)
                  · refine rl_gv rfl rfl rfl rfl rfl (ov_move rfl rfl) ?_
                    refine rl_gv rfl rfl rfl rfl rfl (ov_move rfl rfl) ?_
                    refine rl_gcall callable_40 rfl rfl rfl rfl rfl rfl rfl rfl (isCancelling_any to xo n tc n xc (fun _ => n) D x _ hv (by omega) (hIT3.later hO58.below) (hIX3.later hO58.below)) (fun e60 w61 hp62 => ?_)
                    obtain ⟨⟨c5, rfl, hc5⟩, hb10⟩ := hp62
                    refine ⟨_, rfl, ?_⟩
                    have hO63 := hO58.past hb10
                    obtain rfl : c5 = true := hc5.2 hcn
                    refine rl_v rfl rfl rfl (ov_pick_t rfl rfl rfl) ?_
                    refine rl_v rfl rfl rfl (ov_move rfl rfl) ?_
                    first | refine rl_split_dec 108 rfl (fun k4 => ?_) (fun k4 => ?_) | refine rl_split 108 rfl (fun k4 => ?_) (fun k4 => ?_)
                    · refine rl_gcall callable_18 rfl rfl rfl rfl rfl rfl rfl rfl (awake_any _) (fun e65 w66 hp67 => ?_)
                      obtain ⟨rfl, hb11⟩ := hp67
                      refine ⟨_, rfl, ?_⟩
                      have hO68 := hO63.past hb11
                      refine rl_v rfl rfl rfl (ov_pick_t rfl rfl rfl) ?_
                      refine rl_v rfl rfl rfl (ov_assign rfl rfl) ?_
                      refine rl_nil ?_
                      refine run_ret Try.func9 (res1 Try.results9 rfl) ?_
                      exact ⟨rfl, (hOC.join hO68).below⟩
                    · exfalso; cases k4
                  · exfalso; cases k3
                · exfalso; cases k2
              · exfalso; cases k1
end Go.Proofs.Ytiambddcpflkhaa
