/- NetBounds: the walk. -/
import Derived.Test.YtiambddcpflkhaaNetJ
set_option maxRecDepth 100000
namespace Go.Proofs.Ytiambddcpflkhaa
open Go.RowKit Go.Proofs

theorem IRow.cap {ao : Option Addr} {m cap : Nat} {E : TypeId} {n : Nat} {G : Int → Value} {c : Option Blk} (h : IRow (.slice ao m cap) E n G c) : n ≤ cap := by
  rcases h with ⟨h1, rfl, _⟩ | ⟨b, cap', g, h1, h2, _⟩
  · omega
  · cases h1; exact h2
theorem IRow.cut {ao : Option Addr} {m cap : Nat} {E : TypeId} {n k : Nat} {G : Int → Value} {c : Option Blk} (h : IRow (.slice ao m cap) E n G c) (hk : k ≤ n) : IRow (.slice ao k cap) E k G c := by
  rcases h with ⟨h1, rfl, h2⟩ | ⟨b, cap', g, h1, h2, h3, h4, h5⟩
  · obtain rfl : k = 0 := by omega
    cases h1
    exact .inl ⟨rfl, rfl, h2⟩
  · cases h1
    exact .inr ⟨b, cap, g, rfl, by omega, h3, h4, fun i hi => h5 i (by omega)⟩
theorem IRow.asV {ao : Option Addr} {cap : Nat} {E : TypeId} {n : Nat} {G : Int → Value} {c : Option Blk} (h : IRow (.slice ao n cap) E n G c) (hn : 1 ≤ n) :
    ∃ b G', ao = some ⟨b, 0, none⟩ ∧ n ≤ cap ∧ cap ≤ maxLen ∧ c = some (vch b E cap G') ∧ ∀ i : Int, 0 ≤ i → i < n → G' i = G i := by
  rcases h with ⟨h1, h0, h2⟩ | ⟨b, cap', g, h1, h2, h3, h4, h5⟩
  · omega
  · cases h1
    refine ⟨b, fun i => g i.toNat, rfl, h2, h3, by rw [h4, Nat.mul_one]; rfl, fun i i0 i1 => ?_⟩
    have := h5 i.toNat (by omega)
    show g i.toNat = G i
    rw [this]
    simp only [Int.toNat_of_nonneg i0]
theorem IRow.ofV {b cap : Nat} {E : TypeId} {n : Nat} {G G' : Int → Value} (hn : n ≤ cap) (hc : cap ≤ maxLen) (h : ∀ i : Int, 0 ≤ i → i < n → G' i = G i) : IRow (.slice (some ⟨b, 0, none⟩) n cap) E n G (some (vch b E cap G')) :=
  .inr ⟨b, cap, fun j => G' (j : Int), rfl, hn, hc, by rw [Nat.mul_one]; rfl, fun i hi => h i (by omega) (by omega)⟩

theorem bound_any2 (ao bo : Option Addr) (n c m cb : Nat) (D : Int → Int → Int) (rk : Int → Int) (w : World) (hv : Valid n D) (hm : m ≤ 1000)
    (h : ITab w.heap.size w ao n (fun _ => n) (fun r c => .int .i64 (D r c))) (h2 : IAt w.heap.size w bo m (fun i => .int .i64 (rk i))) :
    Calls Try.prog 15 #[.slice ao n c, .slice bo m cb] w fun e w' => ∃ a f : Int, e = .returned (.tuple #[.int .i64 a, .int .i64 f]) ∧
      (m ≠ n ∧ a = 0 ∧ f = 7 ∨ m = n ∧ (∃ i : Int, 0 ≤ i ∧ i < n ∧ (rk i < -1000 ∨ 1000 < rk i)) ∧ a = 0 ∧ f = 1 ∨ m = n ∧ (∀ i : Int, 0 ≤ i → i < n → -1000 ≤ rk i ∧ rk i ≤ 1000) ∧ a = bnd n D rk ∧ f = 0) ∧ Below w.heap.size w w' :=
  (bound_any ao bo n c m cb D rk w hv hm h h2).mono fun e w' ⟨h1, hb⟩ => by
    rcases h1 with ⟨a, rfl⟩ | ⟨a, b, rfl⟩ | ⟨a, b, rfl⟩
    · exact ⟨_, _, rfl, .inl ⟨a, rfl, rfl⟩, hb⟩
    · exact ⟨_, _, rfl, .inr (.inl ⟨a, b, rfl, rfl⟩), hb⟩
    · exact ⟨_, _, rfl, .inr (.inr ⟨a, b, rfl, rfl⟩), hb⟩

theorem netBounds_any (ao bo : Option Addr) (G Gc R cb : Nat) (L : Int → Nat) (D0 : Int → Int → Int) (rk : Int → Int) (w : World) (hR : R ≤ cb)
    (h : ITab w.heap.size w ao G L (fun r c => .int .i64 (D0 r c))) (h2 : IAt w.heap.size w bo R (fun i => .int .i64 (rk i))) :
    Calls Try.prog 3 #[.slice ao G Gc, .slice bo R cb] w fun e w' => e = .returned (.bool true) ∧ Below w.heap.size w w' := by
  refine calls_of_run (F := [(0, _), (1, _)]) Try.func3 rfl Try.ntmps3 rfl rfl ?_
  have hO0 := Own.init w
  refine run_seq ?_
  refine run_region ?_
  refine rl_v rfl rfl rfl (ov_assign rfl rfl) ?_
  refine rl_nil ?_
  refine run_seq ?_
  refine run_region ?_
  refine rl_v rfl rfl rfl (ov_move rfl rfl) ?_
  refine rl_call callable_13 rfl rfl rfl rfl rfl rfl (tame_any ao G Gc 8 1000000 L D0 _ (by omega) (by omega) (by omega) h) (fun e1 w2 hp3 => ?_)
  obtain ⟨v, n, D, H, rfl, hT, hOt, hn1, hn8, hD, hdia⟩ := hp3
  refine ⟨_, rfl, ?_⟩
  obtain ⟨to, tc, rfl⟩ := hT.val
  have hv : Valid n D := ⟨hn1, by omega, fun r c => (hD r c).1, fun r c => (hD r c).2, hdia⟩
  have hOA := hOt
  have hIT := hT.reads (H' := []) (by simpa using hOt)
  have h3 := h2.below hOt.below
  have hI0 := (Own.init w2).nil_cons
  refine rl_v rfl rfl rfl (ov_assign rfl rfl) ?_
  refine rl_nil ?_
  refine run_seq ?_
  refine run_region ?_
  refine rl_v rfl rfl rfl (ov_assign rfl rfl) ?_
  refine rl_nil ?_
  refine run_seq ?_
  refine run_region ?_
  refine rl_v rfl rfl rfl (ov_move rfl rfl) ?_
  refine rl_v rfl rfl rfl (ov_move rfl rfl) ?_
  refine rl_v rfl rfl rfl (ov_move rfl rfl) ?_
  refine rl_v rfl rfl rfl (ov_len rfl Try.underlying23 rfl) ?_
  refine rl_v rfl rfl rfl (ov_min rfl rfl rfl) ?_
  refine rl_v rfl rfl rfl (ov_sliceH (min R 10) (s := 1) rfl Try.underlying23 (by kernel_rfl) rfl rfl (by first | rfl | omega) (by omega)) ?_
  refine rl_appSI rfl rfl rfl rfl Try.underlying23 info_2 rfl hI0 0 (IRow.nil 2 (fun j => .int .i64 (zeroI j))) rfl rfl rfl ((h3.take (by omega)).mono (Nat.le_refl _)) ⟨by omega, by omega⟩ (fun v2 c2 w4 hO5 hr2 hs6 => ?_)
  refine rl_v rfl rfl rfl (ov_assign rfl rfl) ?_
  refine rl_nil ?_
  refine run_seq ?_
  refine run_region ?_
  refine rl_v rfl rfl rfl (ov_move rfl rfl) ?_
  refine rl_call callable_14 rfl rfl rfl rfl rfl rfl (cancel_any to n tc D _ hv (hIT.later hO5.below)) (fun e7 w8 hp9 => ?_)
  obtain ⟨v7, x, Hx, rkx, rfl, hTx, hOx, hcx, _, hbx⟩ := hp9
  refine ⟨_, rfl, ?_⟩
  have hO10 := hO5.join hOx
  refine rl_v rfl rfl rfl (ov_move rfl rfl) ?_
  refine rl_v rfl rfl rfl (ov_extract rfl rfl (by rfl)) ?_
  refine rl_v rfl rfl rfl (ov_extract rfl rfl (by rfl)) ?_
  refine rl_v rfl rfl rfl (ov_extract rfl rfl (by rfl)) ?_
  refine rl_v rfl rfl rfl (ov_assign rfl rfl) ?_
  refine rl_v rfl rfl rfl (ov_assign rfl rfl) ?_
  refine rl_v rfl rfl rfl (ov_assign rfl rfl) ?_
  refine rl_nil ?_
  refine run_seq ?_
  refine run_seq ?_
  refine run_region ?_
  refine rl_v rfl rfl rfl (ov_move rfl rfl) ?_
  refine rl_v rfl rfl rfl (ov_neq rfl rfl rfl) ?_
  refine rl_nil ?_
  first | refine run_cond_dec rfl (fun h5 => ?_) (fun h5 => ?_) | refine run_cond rfl (fun h5 => ?_) (fun h5 => ?_)
  · exfalso; exact h5 rfl
  · have hO9 := hO10.sub (H' := [c2]) (List.sublist_append_right _ _)
    refine run_skip ?_
    refine run_seq ?_
    refine run_seq ?_
    refine run_region ?_
    refine rl_v rfl rfl rfl (ov_assign rfl rfl) ?_
    refine rl_nil ?_
    refine run_block ?_
    refine Run.keep [5, 6, 8, 10] (F' := [(5, _), (6, _), (8, _), (10, _)]) rfl ?_
    refine run_loop5 (fun (k : Int) (rv : Value) (m : Nat) (g : Int → Int) (cr : Option Blk) => [(10, .int .i64 k), (6, rv)]) [5, 8] (fun (k : Int) (rv : Value) (m : Nat) (g : Int → Int) (cr : Option Blk) (w11 : World) => 0 ≤ k ∧ k ≤ 2 ∧ m ≤ 20 ∧ IRow rv 2 m (fun i => .int .i64 (g i)) cr ∧ Own w2.heap.size w2 w11 [cr]) (fun (k : Int) (rv : Value) (m : Nat) (g : Int → Int) (cr : Option Blk) => (2 - k).toNat) (0) (v2) (0 + min R 10) (joinF zeroI ((0 : Nat) : Int) rk) (c2) ?_ (And.intro (by first | with_reducible rfl | exact slot_int rfl (by first | omega) | rfl) (And.intro rfl (And.intro rfl (And.intro rfl trivial)))) ?_
    · exact ⟨by omega, by omega, by omega, hr2, hO9⟩
    intro k rv m g cr w11 hIw11 ih12
    obtain ⟨hk0, hk1, hm, hr, hO⟩ := hIw11
    show Run _ _ _ _ [(10, _), (6, _), (5, _), (8, _)] _ _
    refine run_seq ?_
    refine run_seq ?_
    refine run_region ?_
    refine rl_v rfl rfl rfl (ov_move rfl rfl) ?_
    refine rl_v rfl rfl rfl (ov_lss rfl rfl rfl) ?_
    refine rl_nil ?_
    first | refine run_cond_dec rfl (fun h6 => ?_) (fun h6 => ?_) | refine run_cond rfl (fun h6 => ?_) (fun h6 => ?_)
    · obtain ⟨rao, rcap, rfl⟩ := hr.val
      refine run_skip ?_
      refine run_seq ?_
      refine run_block ?_
      refine run_seq ?_
      refine run_region ?_
      refine rl_v rfl rfl rfl (ov_move rfl rfl) ?_
      refine rl_v rfl rfl rfl (ov_move rfl rfl) ?_
      refine rl_call callable_15 rfl rfl rfl rfl rfl rfl (bound_any2 to rao n tc m rcap D g _ hv (by omega) (hIT.later hO.below) (hr.reads hO 0 rfl)) (fun e13 w14 hp15 => ?_)
      obtain ⟨a, f, rfl, hcase, hb⟩ := hp15
      refine ⟨_, rfl, ?_⟩
      have hO16 := hO.past hb
      refine rl_v rfl rfl rfl (ov_move rfl rfl) ?_
      refine rl_v rfl rfl rfl (ov_extract rfl rfl (by rfl)) ?_
      refine rl_v rfl rfl rfl (ov_extract rfl rfl (by rfl)) ?_
      refine rl_v rfl rfl rfl (ov_assign rfl rfl) ?_
      refine rl_v rfl rfl rfl (ov_assign rfl rfl) ?_
      refine rl_nil ?_
      refine run_seq ?_
      refine run_block ?_
      refine run_seq ?_
      refine run_region ?_
      refine rl_v rfl rfl rfl (ov_move rfl rfl) ?_
      refine rl_v rfl rfl rfl (ov_len rfl Try.underlying23 rfl) ?_
      refine rl_v rfl rfl rfl (ov_move rfl rfl) ?_
      refine rl_v rfl rfl rfl (ov_len rfl Try.underlying22 rfl) ?_
      refine rl_v rfl rfl rfl (ov_neq rfl rfl rfl) ?_
      refine rl_v rfl rfl rfl (ov_assign rfl rfl) ?_
      refine rl_nil ?_
      refine Run.keep [5, 6, 8, 10, 11, 12, 55] (F' := [(5, _), (6, _), (8, _), (10, _), (11, _), (12, _), (55, _)]) rfl ?_
      refine run_join1 (fun (z : Int) => []) [5, 6, 8, 10] (fun (z : Int) (w17 : World) => (0 : Int) ≤ 0 ∧ Own w2.heap.size w2 w17 [cr]) (fun hk18 => ?_) ?_
      · first | refine run_cond_dec rfl (fun h7 => ?_) (fun h7 => ?_) | refine run_cond rfl (fun h7 => ?_) (fun h7 => ?_)
        · obtain ⟨ha, hf⟩ : a = 0 ∧ f = 7 := by
            rcases hcase with ⟨_, h1, h2⟩ | ⟨h0, _⟩ | ⟨h0, _⟩
            · exact ⟨h1, h2⟩
            · exact absurd h0 (by omega)
            · exact absurd h0 (by omega)
          clear hcase
          refine run_seq ?_
          refine run_region ?_
          refine rl_v rfl rfl rfl (ov_move rfl rfl) ?_
          refine rl_v rfl rfl rfl (ov_neq rfl rfl rfl) ?_
          refine rl_v rfl rfl rfl (ov_move rfl rfl) ?_
          first | refine rl_split_dec 63 rfl (fun hg19 => ?_) (fun hg19 => ?_) | refine rl_split 63 rfl (fun hg19 => ?_) (fun hg19 => ?_)
          · refine rl_gskip rfl rfl rfl rfl rfl rfl ?_
            refine rl_gskip rfl rfl rfl rfl rfl rfl ?_
            refine rl_v rfl rfl rfl (ov_pick_t rfl rfl rfl) ?_
            refine rl_nil ?_
            refine run_cond_t rfl ?_
            exfalso; omega
          · refine rl_gv rfl rfl rfl rfl rfl (ov_move rfl rfl) ?_
            refine rl_gv rfl rfl rfl rfl rfl (ov_neq rfl rfl rfl) ?_
            refine rl_v rfl rfl rfl (ov_pick_f rfl rfl rfl) ?_
            refine rl_nil ?_
            first | refine run_cond_dec rfl (fun h8 => ?_) (fun h8 => ?_) | refine run_cond rfl (fun h8 => ?_) (fun h8 => ?_)
            · exfalso; omega
            · refine run_skip ?_
              refine Run.use (hk18 (0) _ ?_) (And.intro rfl (And.intro rfl (And.intro rfl (And.intro rfl trivial))))
              exact ⟨by omega, hO16⟩
        · have hmn : m = n := by clear hcase; omega
          refine run_seq ?_
          refine run_region ?_
          refine rl_v rfl rfl rfl (ov_move rfl rfl) ?_
          refine rl_v rfl rfl rfl (ov_move rfl rfl) ?_
          refine rl_call callable_16 rfl rfl rfl rfl rfl rfl (ranked_any to rao n tc m rcap (-1000) 1000 g _ (hr.reads hO16 0 rfl) (by clear hcase; omega)) (fun e20 w21 hp22 => ?_)
          obtain ⟨⟨bb, rfl, hbb⟩, hb2⟩ := hp22
          refine ⟨_, rfl, ?_⟩
          have hO23 := hO16.past hb2
          refine rl_v rfl rfl rfl (ov_not rfl rfl) ?_
          refine rl_v rfl rfl rfl (ov_assign rfl rfl) ?_
          refine rl_nil ?_
          first | refine run_cond_dec rfl (fun h9 => ?_) (fun h9 => ?_) | refine run_cond rfl (fun h9 => ?_) (fun h9 => ?_)
          · obtain ⟨ha, hf⟩ : a = 0 ∧ f = 1 := by
              rcases hcase with ⟨h0, _⟩ | ⟨_, _, h1, h2⟩ | ⟨_, h0, _⟩
              · exact absurd hmn h0
              · exact ⟨h1, h2⟩
              · have := hbb.2 ⟨hmn, fun i i0 i1 => h0 i i0 (by omega)⟩
                rw [this] at h9; cases h9
            clear hcase hbb
            refine run_seq ?_
            refine run_region ?_
            refine rl_v rfl rfl rfl (ov_move rfl rfl) ?_
            refine rl_v rfl rfl rfl (ov_neq rfl rfl rfl) ?_
            refine rl_v rfl rfl rfl (ov_move rfl rfl) ?_
            first | refine rl_split_dec 74 rfl (fun hg24 => ?_) (fun hg24 => ?_) | refine rl_split 74 rfl (fun hg24 => ?_) (fun hg24 => ?_)
            · refine rl_gskip rfl rfl rfl rfl rfl rfl ?_
              refine rl_gskip rfl rfl rfl rfl rfl rfl ?_
              refine rl_v rfl rfl rfl (ov_pick_t rfl rfl rfl) ?_
              refine rl_nil ?_
              refine run_cond_t rfl ?_
              exfalso; omega
            · refine rl_gv rfl rfl rfl rfl rfl (ov_move rfl rfl) ?_
              refine rl_gv rfl rfl rfl rfl rfl (ov_neq rfl rfl rfl) ?_
              refine rl_v rfl rfl rfl (ov_pick_f rfl rfl rfl) ?_
              refine rl_nil ?_
              first | refine run_cond_dec rfl (fun h11 => ?_) (fun h11 => ?_) | refine run_cond rfl (fun h11 => ?_) (fun h11 => ?_)
              · exfalso; omega
              · refine run_skip ?_
                refine Run.use (hk18 (0) _ ?_) (And.intro rfl (And.intro rfl (And.intro rfl (And.intro rfl trivial))))
                exact ⟨by omega, hO23⟩
          · obtain ⟨ha, hf⟩ : a = bnd n D g ∧ f = 0 := by
              rcases hcase with ⟨h0, _⟩ | ⟨_, ⟨i, i0, i1, hx⟩, _⟩ | ⟨_, _, h1, h2⟩
              · exact absurd hmn h0
              · have hb1 : bb = true := by cases bb; cases h9; rfl
                have := (hbb.1 hb1).2 i i0 (by omega)
                omega
              · exact ⟨h1, h2⟩
            have hrng : ∀ i : Int, 0 ≤ i → i < n → -1000 ≤ g i ∧ g i ≤ 1000 := fun i i0 i1 => by
              have hb1 : bb = true := by cases bb; cases h9; rfl
              exact (hbb.1 hb1).2 i i0 (by omega)
            have hweak := hcx.weak g
            clear hcase hbb
            refine run_seq ?_
            refine run_region ?_
            refine rl_v rfl rfl rfl (ov_move rfl rfl) ?_
            refine rl_v rfl rfl rfl (ov_neq rfl rfl rfl) ?_
            refine rl_v rfl rfl rfl (ov_move rfl rfl) ?_
            first | refine rl_split_dec 43 rfl (fun hg25 => ?_) (fun hg25 => ?_) | refine rl_split 43 rfl (fun hg25 => ?_) (fun hg25 => ?_)
            · refine rl_gskip rfl rfl rfl rfl rfl rfl ?_
              refine rl_gskip rfl rfl rfl rfl rfl rfl ?_
              refine rl_gskip rfl rfl rfl rfl rfl rfl ?_
              refine rl_gskip rfl rfl rfl rfl rfl rfl ?_
              refine rl_gskip rfl rfl rfl rfl rfl rfl ?_
              refine rl_v rfl rfl rfl (ov_pick_t rfl rfl rfl) ?_
              refine rl_v rfl rfl rfl (ov_move rfl rfl) ?_
              refine rl_gskip rfl rfl rfl rfl rfl rfl ?_
              refine rl_gskip rfl rfl rfl rfl rfl rfl ?_
              refine rl_gskip rfl rfl rfl rfl rfl rfl ?_
              refine rl_v rfl rfl rfl (ov_pick_t rfl rfl rfl) ?_
              refine rl_nil ?_
              refine run_cond_t rfl ?_
              exfalso; omega
            · refine rl_gv rfl rfl rfl rfl rfl (ov_move rfl rfl) ?_
              refine rl_gv rfl rfl rfl rfl rfl (ov_move rfl rfl) ?_
              refine rl_gv rfl rfl rfl rfl rfl (ov_move rfl rfl) ?_
              refine rl_gcall callable_17 rfl rfl rfl rfl rfl rfl rfl rfl (refBound_any to rao n tc m rcap D g _ hv (by omega) hrng (hIT.later hO23.below) (hr.reads hO23 0 rfl)) (fun e26 w27 hp28 => ?_)
              obtain ⟨rfl, hb3⟩ := hp28
              refine ⟨_, rfl, ?_⟩
              have hO29 := hO23.past hb3
              refine rl_gv rfl rfl rfl rfl rfl (ov_neq rfl rfl rfl) ?_
              refine rl_v rfl rfl rfl (ov_pick_f rfl rfl rfl) ?_
              refine rl_v rfl rfl rfl (ov_move rfl rfl) ?_
              first | refine rl_split_dec 50 rfl (fun hg30 => ?_) (fun hg30 => ?_) | refine rl_split 50 rfl (fun hg30 => ?_) (fun hg30 => ?_)
              · refine rl_gskip rfl rfl rfl rfl rfl rfl ?_
                refine rl_gskip rfl rfl rfl rfl rfl rfl ?_
                refine rl_gskip rfl rfl rfl rfl rfl rfl ?_
                refine rl_v rfl rfl rfl (ov_pick_t rfl rfl rfl) ?_
                refine rl_nil ?_
                refine run_cond_t rfl ?_
                exfalso; omega
              · refine rl_gv rfl rfl rfl rfl rfl (ov_move rfl rfl) ?_
                refine rl_gv rfl rfl rfl rfl rfl (ov_move rfl rfl) ?_
                refine rl_gv rfl rfl rfl rfl rfl (ov_lss rfl rfl rfl) ?_
                refine rl_v rfl rfl rfl (ov_pick_f rfl rfl rfl) ?_
                refine rl_nil ?_
                first | refine run_cond_dec rfl (fun h12 => ?_) (fun h12 => ?_) | refine run_cond rfl (fun h12 => ?_) (fun h12 => ?_)
                · exfalso; omega
                · refine run_skip ?_
                  refine Run.use (hk18 (0) _ ?_) (And.intro rfl (And.intro rfl (And.intro rfl (And.intro rfl trivial))))
                  exact ⟨by omega, hO29⟩
      · intro z w17 hJw17
        obtain ⟨hz, hO3⟩ := hJw17
        show Run _ _ _ _ [(5, _), (6, _), (8, _), (10, _)] _ _
        clear hcase
        refine run_inBlock ?_
        refine run_seq ?_
        refine run_block ?_
        refine Run.keep [5, 6, 8, 10] (F' := [(5, _), (6, _), (8, _), (10, _)]) rfl ?_
        refine run_loop4 (fun (rv : Value) (m : Nat) (g : Int → Int) (cr : Option Blk) => [(6, rv)]) [5, 8, 10] (fun (rv : Value) (m : Nat) (g : Int → Int) (cr : Option Blk) (w31 : World) => m ≤ 20 ∧ IRow rv 2 m (fun i => .int .i64 (g i)) cr ∧ Own w2.heap.size w2 w31 [cr]) (fun (rv : Value) (m : Nat) (g : Int → Int) (cr : Option Blk) => n - m) (.slice rao m rcap) (m) (g) (cr) ?_ (And.intro rfl (And.intro rfl (And.intro rfl (And.intro rfl trivial)))) ?_
        · exact ⟨by omega, hr, hO3⟩
        intro rv m g cr w31 hIw31 ih32
        obtain ⟨hm, hr, hO⟩ := hIw31
        show Run _ _ _ _ [(6, _), (5, _), (8, _), (10, _)] _ _
        obtain ⟨rao, rcap, rfl⟩ := hr.val
        refine run_seq ?_
        refine run_seq ?_
        refine run_region ?_
        refine rl_v rfl rfl rfl (ov_move rfl rfl) ?_
        refine rl_v rfl rfl rfl (ov_len rfl Try.underlying23 rfl) ?_
        refine rl_v rfl rfl rfl (ov_move rfl rfl) ?_
        refine rl_v rfl rfl rfl (ov_len rfl Try.underlying22 rfl) ?_
        refine rl_v rfl rfl rfl (ov_lss rfl rfl rfl) ?_
        refine rl_nil ?_
        first | refine run_cond_dec rfl (fun h13 => ?_) (fun h13 => ?_) | refine run_cond rfl (fun h13 => ?_) (fun h13 => ?_)
        · refine run_skip ?_
          refine run_block ?_
          refine run_region ?_
          refine rl_v rfl rfl rfl (ov_move rfl rfl) ?_
          refine rl_appI rfl rfl rfl rfl rfl rfl rfl rfl Try.underlying23 info_2 rfl hO 0 hr rfl rfl rfl ⟨by omega, by omega⟩ (fun v5 c5 w33 hO34 hr5 hs35 => ?_)
          refine rl_v rfl rfl rfl (ov_assign rfl rfl) ?_
          refine rl_nil ?_
          refine run_inBlock ?_
          refine Run.use (ih32 (v5) (m + 1) (upd g m 0) (c5) _ ?_ ?_) (And.intro rfl (And.intro rfl (And.intro rfl (And.intro rfl trivial))))
          · first | omega | (dsimp only; omega)
          · exact ⟨by omega, hr5, hO34⟩
        · have hcap := hr.cap
          have hr' := hr.cut (show n ≤ m by omega)
          obtain ⟨rb, G', rfl, hq1, hq2, rfl, hG⟩ := hr'.asV hn1
          refine run_exit rfl ?_
          refine run_seq ?_
          refine run_region ?_
          refine rl_v rfl rfl rfl (ov_move rfl rfl) ?_
          refine rl_v rfl rfl rfl (ov_move rfl rfl) ?_
          refine rl_v rfl rfl rfl (ov_len rfl Try.underlying22 rfl) ?_
          refine rl_v rfl rfl rfl (ov_sliceH (n) (s := 1) rfl Try.underlying23 (by kernel_rfl) rfl rfl (by first | rfl | omega) (by omega)) ?_
          refine rl_v rfl rfl rfl (ov_assign rfl rfl) ?_
          refine rl_nil ?_
          refine run_seq ?_
          refine run_region ?_
          refine rl_v rfl rfl rfl (ov_assign rfl rfl) ?_
          refine rl_nil ?_
          refine run_block ?_
          refine Run.keep [5, 6, 8, 10, 13] (F' := [(5, _), (6, _), (8, _), (10, _), (13, _)]) rfl ?_
          refine run_loop3 (fun (i : Int) (G2 : Int → Value) (g2 : Int → Int) => [(13, .int .i64 i)]) [5, 6, 8, 10] (fun (i : Int) (G2 : Int → Value) (g2 : Int → Int) (w36 : World) => 0 ≤ i ∧ i ≤ n ∧ (∀ j : Int, 0 ≤ j → j < n → G2 j = .int .i64 (g2 j)) ∧ Own w2.heap.size w2 w36 [some (vch rb 2 rcap G2)]) (fun (i : Int) (G2 : Int → Value) (g2 : Int → Int) => ((n : Int) - i).toNat) (0) (G') (g) ?_ (And.intro (by first | with_reducible rfl | exact slot_int rfl (by first | omega) | rfl) (And.intro rfl (And.intro rfl (And.intro rfl (And.intro rfl trivial))))) ?_
          · exact ⟨by omega, by omega, hG, hO⟩
          intro i G2 g2 w36 hIw36 ih37
          obtain ⟨hi0, hi1, hG2, hO⟩ := hIw36
          show Run _ _ _ _ [(13, _), (5, _), (6, _), (8, _), (10, _)] _ _
          refine run_seq ?_
          refine run_seq ?_
          refine run_region ?_
          refine rl_v rfl rfl rfl (ov_move rfl rfl) ?_
          refine rl_v rfl rfl rfl (ov_move rfl rfl) ?_
          refine rl_v rfl rfl rfl (ov_len rfl Try.underlying23 rfl) ?_
          refine rl_v rfl rfl rfl (ov_lss rfl rfl rfl) ?_
          refine rl_nil ?_
          first | refine run_cond_dec rfl (fun h14 => ?_) (fun h14 => ?_) | refine run_cond rfl (fun h14 => ?_) (fun h14 => ?_)
          · have hcell : World.cell? w36 ⟨rb, 0 + i.toNat, none⟩ = some (.int .i64 (g2 i)) := by rw [← hG2 i hi0 h14]; exact hO.cellI 0 rfl i hi0 (by omega)
            refine run_skip ?_
            refine run_seq ?_
            refine run_block ?_
            refine run_region ?_
            refine rl_v rfl rfl rfl (ov_move rfl rfl) ?_
            refine rl_v rfl rfl rfl (ov_move rfl rfl) ?_
            refine rl_v rfl rfl rfl (ov_move rfl rfl) ?_
            refine rl_v rfl rfl rfl (ov_move rfl rfl) ?_
            refine rl_v rfl rfl rfl (ov_index1 rfl Try.underlying23 (by kernel_rfl) rfl rfl ⟨by omega, by omega⟩ rfl) ?_
            refine rl_v rfl rfl rfl (ov_load rfl Try.underlying2 rfl rfl (by first | exact id hcell)) ?_
            refine rl_v rfl rfl rfl (ov_remt rfl rfl rfl (by omega)) ?_
            refine rl_v rfl rfl rfl (ov_index1 rfl Try.underlying23 (by kernel_rfl) rfl rfl ⟨by omega, by omega⟩ rfl) ?_
            refine rl_ow rfl (ow_store rfl rfl (by kernel_rfl) hO 0 rfl rfl ⟨by omega, by omega⟩ rfl rfl) ?_
            rintro _ w38 ⟨rfl, hO39, hs40⟩
            refine rl_nil ?_
            refine run_inBlock ?_
            refine run_region ?_
            refine rl_v rfl rfl rfl (ov_move rfl rfl) ?_
            refine rl_v rfl rfl rfl (ov_add rfl rfl rfl (by omega)) ?_
            refine rl_v rfl rfl rfl (ov_assign rfl rfl) ?_
            refine rl_nil ?_
            refine Run.use (ih37 (i + 1) (upd G2 i (.int .i64 ((g2 i).tmod 1001))) (upd g2 i ((g2 i).tmod 1001)) _ ?_ ?_) (And.intro (by first | with_reducible rfl | exact slot_int rfl (by first | omega) | rfl) (And.intro rfl (And.intro rfl (And.intro rfl (And.intro rfl trivial)))))
            · first | omega | (dsimp only; omega)
            · exact ⟨by omega, by omega, fun j j0 j1 => by unfold upd; split; rfl; exact hG2 j j0 j1, hO39⟩
          · refine run_exit rfl ?_
            refine run_inBlock ?_
            refine run_region ?_
            refine rl_v rfl rfl rfl (ov_move rfl rfl) ?_
            refine rl_v rfl rfl rfl (ov_add rfl rfl rfl (by omega)) ?_
            refine rl_v rfl rfl rfl (ov_assign rfl rfl) ?_
            refine rl_nil ?_
            refine Run.use (ih12 (k + 1) (.slice (some ⟨rb, 0, none⟩) n rcap) (n) (g2) (some (vch rb 2 rcap G2)) _ ?_ ?_) (And.intro (by first | with_reducible rfl | exact slot_int rfl (by first | omega) | rfl) (And.intro rfl (And.intro rfl (And.intro rfl trivial))))
            · first | omega | (dsimp only; omega)
            · exact ⟨by omega, by omega, by omega, IRow.ofV hq1 hq2 hG2, hO⟩
    · refine run_exit rfl ?_
      refine run_seq ?_
      refine run_region ?_
      refine rl_call callable_18 rfl rfl rfl rfl rfl rfl (awake_any _) (fun e41 w42 hp43 => ?_)
      obtain ⟨rfl, hb⟩ := hp43
      refine ⟨_, rfl, ?_⟩
      have hO44 := hO.past hb
      refine rl_v rfl rfl rfl (ov_assign rfl rfl) ?_
      refine rl_nil ?_
      refine run_ret Try.func3 (res1 Try.results3 rfl) ?_
      exact ⟨rfl, (hOA.join hO44).below⟩
end Go.Proofs.Ytiambddcpflkhaa
