/- SettleTogether: the walk. -/
import Derived.Test.YteagflekbbchhaaSfM
set_option maxRecDepth 100000
namespace Go.Proofs.Yteagflekbbchhaa
open Go.RowKit Go.Proofs

theorem SrcI.of_row {H : List (Option Blk)} {ao : Option Addr} {E : TypeId} {n m cap k : Nat} {G : Int → Int} {c : Option Blk} (h : IRow (.slice ao m cap) E n (fun i => iv (G i)) c) (hk : H[k]? = some c) : SrcI H ao n G := fun _ _ _ hO => h.reads hO k hk
theorem SrcI.of_mem {H : List (Option Blk)} {ao : Option Addr} {E : TypeId} {n m cap : Nat} {G : Int → Int} {c : Option Blk} (h : IRow (.slice ao m cap) E n (fun i => iv (G i)) c) (hk : c ∈ H) : SrcI H ao n G := by
  obtain ⟨k, hk⟩ := List.getElem?_of_mem hk
  exact SrcI.of_row h hk
theorem sumOk (a : Option Addr) (n c B : Nat) (G : Int → Int) (H : List (Option Blk)) (w0 w : World) (hO : Own B w0 w H) (h : SrcI H a n G) (hn : n ≤ 1000) (hG : ∀ i : Int, 0 ≤ i → i < n → 0 ≤ G i ∧ G i ≤ 9000000000000000) :
    Calls Try.prog 26 #[.slice a n c] w fun e w' => e = .returned (.tuple #[iv (sm G n), .bool true]) ∧ Own B w0 w' H :=
  (sum_any a n c B G H w0 w hO h hn (fun i h0 h1 => (hG i h0 h1).2)).mono fun e w' hp => by
    rcases hp with ⟨⟨⟨i, h0, h1, h2⟩, _⟩ | ⟨_, h2⟩, h3⟩
    · have := (hG i h0 h1).1; omega
    · exact ⟨h2, h3⟩
theorem mem_tail {A : WA} {X : MW} {K : WC} {N R : List (Option Blk)} {x y : Option Blk} (h : x ∈ R) : x ∈ y :: (K.M A X ++ (N ++ R)) := List.mem_cons_of_mem _ (List.mem_append_right _ (List.mem_append_right _ h))
theorem lt100 {l : List Int} (h : ∀ x ∈ l, 0 ≤ x ∧ x < 100) : ∀ x ∈ l, 0 ≤ x ∧ x ≤ 1000000000000 := fun x hx => ⟨(h x hx).1, by have := (h x hx).2; omega⟩
theorem gl_rng {l : List Int} (h : ∀ x ∈ l, 0 ≤ x ∧ x < 100) {i : Int} (h0 : 0 ≤ i) (h1 : i < l.length) : 0 ≤ gl l i ∧ gl l i < 100 := by
  unfold gl
  rw [List.getD_eq_getElem?_getD, List.getElem?_eq_getElem (by omega)]
  exact h _ (List.getElem_mem _)
/-- What calls arguments are. -/
structure Acts where
  kind : Int → Int
  d : Int → Dl
  n : Int → Int
  kept : Int → Int
def Acts.l (a : Acts) : Int → List Value := fun i => actl (a.kind i) (a.d i) (a.n i) (a.kept i)
/-- What a statement's world is like between its calls. -/
structure LawW (mem : Int) (f1 f2 : List Int) (bud : Nat) (X : MW) : Prop where
  inv : Inv X
  good : Good X
  linv : LInv X
  phi : phi X ≤ bud
  mem : X.mem = mem
  f1 : X.f1 = f1
  f2 : X.f2 = f2
theorem act_cfg (X : MW) (kind : Int) (d : Dl) (n kept : Int) : (X.act kind d n kept).mem = X.mem ∧ (X.act kind d n kept).f1 = X.f1 ∧ (X.act kind d n kept).f2 = X.f2 ∧ (X.act kind d n kept).pat = X.pat := by
  have key : ∀ Y, cfg Y = cfg X → Y.mem = X.mem ∧ Y.f1 = X.f1 ∧ Y.f2 = X.f2 ∧ Y.pat = X.pat := fun Y h => ⟨cfg_mem h, congrArg (fun p => p.2.2.2.1) h, congrArg (fun p => p.2.2.2.2) h, cfg_pat h⟩
  have kb : (X.begin d).mem = X.mem ∧ (X.begin d).f1 = X.f1 ∧ (X.begin d).f2 = X.f2 ∧ (X.begin d).pat = X.pat := by
    have h : cfg (X.begin d) = cfg { X with deals := X.deals ++ [d] } := cfg_turn { X with deals := X.deals ++ [d] } ((X.deals.length : Int) + 1) 1 1
    exact ⟨congrArg (fun p => p.1) h, congrArg (fun p => p.2.2.2.1) h, congrArg (fun p => p.2.2.2.2) h, congrArg (fun p => p.2.1) h⟩
  unfold MW.act
  dsimp only
  split
  · split
    · exact kb
    · exact key X rfl
  · refine key _ ?_
    split
    · split
      · unfold MW.deliver; rw [cfg_bring]; rfl
      · rfl
    · split
      · split <;> rfl
      · split
        · split <;> rfl
        · split
          · split
            · exact cfg_tick0 X n
            · rfl
          · split
            · split
              · exact cfg_crash X n kept
              · rfl
            · split
              · split
                · exact cfg_restart X n
                · rfl
              · split
                · split
                  · exact cfg_unfuse X n _
                  · rfl
                · exact cfg_heal X _
theorem LawW.act {mem : Int} {f1 f2 : List Int} {bud : Nat} {X : MW} (h : LawW mem f1 f2 bud X) (kind : Int) (d : Dl) (n kept : Int) (hk : kept ≤ 9223372036854775807) : LawW mem f1 f2 (bud + 120000) (X.act kind d n kept) ∧ Keeps X (X.act kind d n kept) := by
  obtain ⟨h1, h2, h3, h4⟩ := act_keeps h.inv h.good kind d n kept hk
  obtain ⟨c1, c2, c3, _⟩ := act_cfg X kind d n kept
  exact ⟨⟨h1, h2, h.linv.act h.good kind d n kept, by have := h.phi; omega, c1.trans h.mem, c2.trans h.f1, c3.trans h.f2⟩, h3⟩
theorem LawW.init {mem pat : Int} {f1 f2 : List Int} (hm : 1 ≤ mem ∧ mem ≤ 5) (hp : 1 ≤ pat ∧ pat ≤ 1000) (hl1 : (f1.length : Int) = mem) (hl2 : (f2.length : Int) = mem) (hf1 : ∀ x ∈ f1, 0 ≤ x ∧ x < 100) (hf2 : ∀ x ∈ f2, 0 ≤ x ∧ x < 100) : LawW mem f1 f2 0 (MW.init mem pat f1 f2) :=
  ⟨Inv.init _ _ _ _, Good.init (by omega) hp hl1 hl2 (lt100 hf1) (lt100 hf2), LInv.init _ _ _ _, Nat.le_refl _, rfl, rfl, rfl⟩

theorem bal_le {X : MW} (hG : Good X) {n : Int} (hn : n = 1 ∨ n = 2) (i : Int) : X.bal n i ≤ 9000000000000000 ∧ X.held n i ≤ 9000000000000000 ∧ -9000000000000000 ≤ X.held n i := by
  have h1 := accs_bnd hG hn (X.lg n).recs.length (Nat.le_refl _) i
  have h2 := hG.len (N3.s hn)
  rw [List.take_length] at h1
  unfold MW.bal MW.held
  omega
theorem free_le {X : MW} (h : LInv X) (hG : Good X) {n : Int} (hn : n = 1 ∨ n = 2) (i : Int) : X.free n i ≤ 9000000000000000 := by
  have h1 := (bal_le hG hn i).1
  have h2 := held_nonneg h hG hn i
  unfold MW.free
  omega

theorem settleTogether_any (m p : Int) (a1 a2 lo : Option Addr) (n1 n2 c1 c2 ln lc : Nat) (G1 G2 : Int → Int) (S : Acts) (w : World) (h1 : IAt w.heap.size w a1 n1 (fun i => iv (G1 i))) (h2 : IAt w.heap.size w a2 n2 (fun i => iv (G2 i))) (hl : SAt w.heap.size w lo 7 ln S.l) (hkp : ∀ i, S.kept i ≤ 9223372036854775807) :
    Calls Try.prog 5 #[.agg #[iv m, iv p, .slice a1 n1 c1, .slice a2 n2 c2], .slice lo ln lc] w fun e w' => e = .returned (.bool true) ∧ Below w.heap.size w w' := by
  obtain ⟨lb, loff, hla, hrow⟩ := hl.open (by decide)
  refine calls_of_run (F := [(0, _), (1, _)]) Try.func5 rfl Try.ntmps5 rfl rfl ?_
  refine run_seq ?_
  refine run_region ?_
  refine rl_ow rfl (ow_box _ rfl rfl rfl rfl rfl (Own.init w)) ?_
  rintro _ w1 ⟨b2, rfl, hO2, hs3⟩
  refine rl_v rfl rfl rfl (ov_assign rfl rfl) ?_
  refine rl_nil ?_
  refine run_seq ?_
  refine run_region ?_
  refine rl_v rfl rfl rfl (ov_loadW rfl Try.underlying24 rfl (by kernel_rfl) rfl hO2 0 rfl) ?_
  refine rl_call callable_13 rfl rfl rfl rfl rfl rfl (tame_any m p a1 a2 n1 n2 c1 c2 G1 G2 w.heap.size _ w w1 h1 h2 hO2) (fun e4 w5 hp6 => ?_)
  obtain ⟨mem, pat, f1, f2, v1, v2, k1, k2, rfl, hm, hp, hR1, hR2, ⟨hl1, hl2⟩, hf1, hf2, hOt⟩ := hp6
  refine ⟨_, rfl, ?_⟩
  obtain ⟨s1, z1, rfl⟩ := hR1.val
  obtain ⟨s2, z2, rfl⟩ := hR2.val
  refine rl_ow rfl (ow_alloc _ rfl rfl rfl zero_24 rfl hOt) ?_
  rintro _ w7 ⟨b5, rfl, hO8, hs9⟩
  refine rl_ow rfl (ow_storeW rfl rfl (by kernel_rfl) hO8 0 rfl rfl (by rfl) rfl (by rfl)) ?_
  rintro _ w10 ⟨rfl, hO11, hs12⟩
  refine rl_nil ?_
  refine run_seq ?_
  refine run_region ?_
  refine rl_v rfl rfl rfl (ov_loadW rfl Try.underlying24 rfl (by kernel_rfl) rfl hO11 0 rfl) ?_
  refine rl_call callable_15 rfl rfl rfl rfl rfl rfl (give_any mem pat s1 s2 f1.length f2.length z1 z2 w.heap.size _ w w10 hO11) (fun e13 w14 hp15 => ?_)
  obtain ⟨rfl, hOg⟩ := hp15
  refine ⟨_, rfl, ?_⟩
  refine rl_call callable_14 rfl rfl rfl rfl rfl rfl (newOk mem pat f1 f2 s1 s2 z1 z2 w.heap.size _ w w14 hOg (SrcI.of_row hR1 (k := 1) rfl) (SrcI.of_row hR2 (k := 2) rfl) (by omega) (by omega) hl1 hl2 (lt100 hf1) (lt100 hf2)) (fun e16 w17 hp18 => ?_)
  obtain ⟨A, rfl, hW⟩ := hp18
  refine ⟨_, rfl, ?_⟩
  refine rl_v rfl rfl rfl (ov_move rfl rfl) ?_
  refine rl_v rfl rfl rfl (ov_extract rfl rfl (by rfl)) ?_
  refine rl_v rfl rfl rfl (ov_extract rfl rfl (by rfl)) ?_
  refine rl_v rfl rfl rfl (ov_assign rfl rfl) ?_
  refine rl_v rfl rfl rfl (ov_assign rfl rfl) ?_
  refine rl_nil ?_
  refine run_seq ?_
  refine run_seq ?_
  refine run_region ?_
  refine rl_v rfl rfl rfl (ov_move rfl rfl) ?_
  refine rl_v rfl rfl rfl (ov_neq rfl rfl rfl) ?_
  refine rl_v rfl rfl rfl (ov_move rfl rfl) ?_
  first | refine rl_split_dec 32 rfl (fun g1 => ?_) (fun g1 => ?_) | refine rl_split 32 rfl (fun g1 => ?_) (fun g1 => ?_)
  · refine rl_gskip rfl rfl rfl rfl rfl rfl ?_
    refine rl_gskip rfl rfl rfl rfl rfl rfl ?_
    refine rl_v rfl rfl rfl (ov_pick_t rfl rfl rfl) ?_
    refine rl_nil ?_
    -- cond live ['1:l', '5:own', '6:w', '35:'], written []
    exfalso; exact g1 rfl
  · refine rl_gv rfl rfl rfl rfl rfl (ov_move rfl rfl) ?_
    refine rl_gv rfl rfl rfl rfl rfl (ov_ptrnil rfl Try.underlying27 rfl) ?_
    refine rl_v rfl rfl rfl (ov_pick_f rfl rfl rfl) ?_
    refine rl_nil ?_
    refine run_cond_f rfl ?_
    obtain ⟨RR, hRR⟩ : ∃ RR, RR = [k1, k2, some (lch b2 24 [iv m, iv p, .slice a1 n1 c1, .slice a2 n2 c2])] := ⟨_, rfl⟩
    have hk1 : k1 ∈ RR := by rw [hRR]; simp
    have hk2 : k2 ∈ RR := by rw [hRR]; simp
    replace hW : WAt w.heap.size w w17 A (MW.init mem pat f1 f2) [] (some (lch b5 24 [iv mem, iv pat, .slice s1 f1.length z1, .slice s2 f2.length z2]) :: RR) := by rw [hRR]; exact hW
    clear hRR
    obtain ⟨K, N, hO, hK, hPl⟩ := hW.pull
    refine run_skip ?_
    refine run_seq ?_
    refine run_region ?_
    refine rl_v rfl rfl rfl (ov_fieldS rfl Try.underlying24 rfl (fo := 2) rfl (by kernel_rfl) rfl) ?_
    refine rl_v rfl rfl rfl (ov_load rfl Try.underlying22 rfl rfl (by first | exact hO.cellL 0 rfl (off := 2) rfl)) ?_
    refine rl_call callable_26 rfl rfl rfl rfl rfl rfl (sumOk s1 f1.length z1 w.heap.size (gl f1) _ w w17 hO (SrcI.of_mem hR1 (mem_tail hk1)) (by omega) (fun i h0 h1 => by have := gl_rng hf1 h0 h1; omega)) (fun e20 w21 hp22 => ?_)
    obtain ⟨rfl, hOs⟩ := hp22
    refine ⟨_, rfl, ?_⟩
    refine rl_v rfl rfl rfl (ov_move rfl rfl) ?_
    refine rl_v rfl rfl rfl (ov_extract rfl rfl (by rfl)) ?_
    refine rl_v rfl rfl rfl (ov_extract rfl rfl (by rfl)) ?_
    refine rl_v rfl rfl rfl (ov_assign rfl rfl) ?_
    refine rl_v rfl rfl rfl (ov_assign rfl rfl) ?_
    refine rl_nil ?_
    refine run_seq ?_
    refine run_region ?_
    refine rl_v rfl rfl rfl (ov_fieldS rfl Try.underlying24 rfl (fo := 3) rfl (by kernel_rfl) rfl) ?_
    refine rl_v rfl rfl rfl (ov_load rfl Try.underlying22 rfl rfl (by first | exact hOs.cellL 0 rfl (off := 3) rfl)) ?_
    refine rl_call callable_26 rfl rfl rfl rfl rfl rfl (sumOk s2 f2.length z2 w.heap.size (gl f2) _ w w21 hOs (SrcI.of_mem hR2 (mem_tail hk2)) (by omega) (fun i h0 h1 => by have := gl_rng hf2 h0 h1; omega)) (fun e23 w24 hp25 => ?_)
    obtain ⟨rfl, hOs2⟩ := hp25
    refine ⟨_, rfl, ?_⟩
    refine rl_v rfl rfl rfl (ov_move rfl rfl) ?_
    refine rl_v rfl rfl rfl (ov_extract rfl rfl (by rfl)) ?_
    refine rl_v rfl rfl rfl (ov_extract rfl rfl (by rfl)) ?_
    refine rl_v rfl rfl rfl (ov_assign rfl rfl) ?_
    refine rl_v rfl rfl rfl (ov_assign rfl rfl) ?_
    refine rl_nil ?_
    refine run_seq ?_
    refine run_seq ?_
    refine run_region ?_
    refine rl_v rfl rfl rfl (ov_assign rfl rfl) ?_
    refine rl_nil ?_
    refine run_block ?_
    refine Run.keep [1, 5, 6, 8, 10, 12] (F' := [(1, _), (5, _), (6, _), (8, _), (10, _), (12, _)]) rfl ?_
    refine run_loop2 (fun (i : Int) (X : MW) => [(12, .int .i64 i)]) [1, 5, 6, 8, 10] (fun (i : Int) (X : MW) (w26 : World) => 0 ≤ i ∧ i ≤ 80 ∧ LawW mem f1 f2 (120000 * i.toNat) X ∧ WAt w.heap.size w w26 A X [] (some (lch b5 24 [iv mem, iv pat, .slice s1 f1.length z1, .slice s2 f2.length z2]) :: RR)) (fun (i : Int) (X : MW) => (80 - i).toNat) (0) (MW.init mem pat f1 f2) ?_ (And.intro (by first | with_reducible rfl | exact slot_int rfl (by first | omega) | rfl) (And.intro rfl (And.intro rfl (And.intro rfl (And.intro rfl (And.intro rfl trivial)))))) ?_
    · exact ⟨by omega, by omega, LawW.init hm (by omega) hl1 hl2 hf1 hf2, WAt.push hOs2 hK hPl⟩
    intro i X w26 hIw26 ih27
    obtain ⟨hi0, hi1, hX, hW⟩ := hIw26
    show Run _ _ _ _ [(12, _), (1, _), (5, _), (6, _), (8, _), (10, _)] _ _
    refine run_seq ?_
    refine run_seq ?_
    refine run_region_join 55 (.bool (decide (i < ln ∧ i < 80))) [1, 5, 6, 8, 10, 12] (fun hk28 => ?_) ?_
    · refine rl_v rfl rfl rfl (ov_move rfl rfl) ?_
      refine rl_v rfl rfl rfl (ov_move rfl rfl) ?_
      refine rl_v rfl rfl rfl (ov_len rfl Try.underlying46 rfl) ?_
      refine rl_v rfl rfl rfl (ov_lss rfl rfl rfl) ?_
      refine rl_v rfl rfl rfl (ov_move rfl rfl) ?_
      first | refine rl_split_dec 52 rfl (fun q1 => ?_) (fun q1 => ?_) | refine rl_split 52 rfl (fun q1 => ?_) (fun q1 => ?_)
      · refine rl_gv rfl rfl rfl rfl rfl (ov_move rfl rfl) ?_
        refine rl_gv rfl rfl rfl rfl rfl (ov_lss rfl rfl rfl) ?_
        refine rl_v rfl rfl rfl (ov_pick_t rfl rfl rfl) ?_
        refine rl_nil (hk28 _ (jbd rfl (by omega)) (And.intro rfl (And.intro rfl (And.intro rfl (And.intro rfl (And.intro rfl (And.intro rfl trivial)))))))
      · refine rl_gskip rfl rfl rfl rfl rfl rfl ?_
        refine rl_gskip rfl rfl rfl rfl rfl rfl ?_
        refine rl_v rfl rfl rfl (ov_pick_f rfl rfl rfl) ?_
        refine rl_nil (hk28 _ (jbf rfl (by omega)) (And.intro rfl (And.intro rfl (And.intro rfl (And.intro rfl (And.intro rfl (And.intro rfl trivial)))))))
    · show Run _ _ _ _ [(55, _), (1, _), (5, _), (6, _), (8, _), (10, _), (12, _)] _ _
      first | refine run_cond_dec rfl (fun q => ?_) (fun qn => ?_) | refine run_cond rfl (fun q => ?_) (fun qn => ?_)
      · obtain ⟨Ka, Na, hOa, hKa, hPla⟩ := hW.pull
        have hphi := hX.phi
        refine run_skip ?_
        refine run_seq ?_
        refine run_block ?_
        refine run_seq ?_
        refine run_region ?_
        refine rl_v rfl rfl rfl (ov_move rfl rfl) ?_
        refine rl_v rfl rfl rfl (ov_move rfl rfl) ?_
        refine rl_v rfl rfl rfl (ov_move rfl rfl) ?_
        refine rl_v rfl rfl rfl (ov_index rfl Try.underlying46 (by kernel_rfl) (s := 7) rfl rfl ⟨by omega, by omega⟩ (by first | rfl | exact (hla (by omega)))) ?_
        refine rl_v rfl rfl rfl (ov_loadE rfl Try.underlying51 rfl (by kernel_rfl) rfl ⟨by omega, by omega⟩ rfl (hrow _ hOa.below)) ?_
        refine rl_call callable_21 rfl rfl rfl rfl rfl rfl (act_any A X (S.kind i) (S.d i) (S.n i) (S.kept i) w.heap.size [] _ w w26 (hkp i) hX.good (by omega) hW) (fun e30 w31 hp32 => ?_)
        obtain ⟨rfl, hWa⟩ := hp32
        refine ⟨_, rfl, ?_⟩
        obtain ⟨hY, _⟩ := hX.act (S.kind i) (S.d i) (S.n i) (S.kept i) (hkp i)
        generalize X.act (S.kind i) (S.d i) (S.n i) (S.kept i) = Y at *
        refine rl_nil ?_
        refine run_seq ?_
        refine run_seq ?_
        refine run_region ?_
        refine rl_v rfl rfl rfl (ov_move rfl rfl) ?_
        refine rl_call callable_27 rfl rfl rfl rfl rfl rfl (together_any A Y w.heap.size [] _ w w31 hY.good hWa) (fun e33 w34 hp35 => ?_)
        obtain ⟨b, rfl, hb, hWb⟩ := hp35
        refine ⟨_, rfl, ?_⟩
        obtain rfl := hb fun d _ _ => hY.inv.tog d
        refine rl_v rfl rfl rfl (ov_not rfl rfl) ?_
        refine rl_nil ?_
        first | refine run_cond_dec rfl (fun t1 => ?_) (fun t2 => ?_) | refine run_cond rfl (fun t1 => ?_) (fun t2 => ?_)
        · exfalso; exact Bool.noConfusion t1
        · refine run_skip ?_
          refine run_seq ?_
          refine run_region ?_
          refine rl_v rfl rfl rfl (ov_assign rfl rfl) ?_
          refine rl_nil ?_
          refine run_block ?_
          refine Run.keep [1, 5, 6, 8, 10, 12, 13] (F' := [(1, _), (5, _), (6, _), (8, _), (10, _), (12, _), (13, _)]) rfl ?_
          refine run_loop1 (fun (n : Int) => [(13, .int .i64 n)]) [1, 5, 6, 8, 10, 12] (fun (n : Int) (w36 : World) => 1 ≤ n ∧ n ≤ 3 ∧ WAt w.heap.size w w36 A Y [] (some (lch b5 24 [iv mem, iv pat, .slice s1 f1.length z1, .slice s2 f2.length z2]) :: RR)) (fun (n : Int) => (3 - n).toNat) (1) ?_ (And.intro (by first | with_reducible rfl | exact slot_int rfl (by first | omega) | rfl) (And.intro rfl (And.intro rfl (And.intro rfl (And.intro rfl (And.intro rfl (And.intro rfl trivial))))))) ?_
          · exact ⟨by omega, by omega, hWb⟩
          intro n w36 hIw36 ih37
          obtain ⟨hn0, hn1, hWn⟩ := hIw36
          show Run _ _ _ _ [(13, _), (1, _), (5, _), (6, _), (8, _), (10, _), (12, _)] _ _
          refine run_seq ?_
          refine run_seq ?_
          refine run_region ?_
          refine rl_v rfl rfl rfl (ov_move rfl rfl) ?_
          refine rl_v rfl rfl rfl (ov_lss rfl rfl rfl) ?_
          refine rl_nil ?_
          first | refine run_cond_dec rfl (fun hn3 => ?_) (fun hn3n => ?_) | refine run_cond rfl (fun hn3 => ?_) (fun hn3n => ?_)
          · have hn : n = 1 ∨ n = 2 := by omega
            have hfl := hY.good.fl n hn
            rw [hY.mem] at hfl
            refine run_skip ?_
            refine run_seq ?_
            refine run_block ?_
            refine run_seq ?_
            refine run_region ?_
            refine rl_v rfl rfl rfl (ov_move rfl rfl) ?_
            refine rl_v rfl rfl rfl (ov_move rfl rfl) ?_
            refine rl_call callable_24 rfl rfl rfl rfl rfl rfl (balances_any A Y n w.heap.size [] _ w w36 hn hY.good hWn) (fun e38 w39 hp40 => ?_)
            obtain ⟨vb, cb, rfl, hRb, hWx⟩ := hp40
            refine ⟨_, rfl, ?_⟩
            obtain ⟨sb, zb, rfl⟩ := hRb.val
            refine rl_v rfl rfl rfl (ov_move rfl rfl) ?_
            refine rl_v rfl rfl rfl (ov_extract rfl rfl (by rfl)) ?_
            refine rl_v rfl rfl rfl (ov_extract rfl rfl (by rfl)) ?_
            refine rl_v rfl rfl rfl (ov_assign rfl rfl) ?_
            refine rl_v rfl rfl rfl (ov_assign rfl rfl) ?_
            refine rl_nil ?_
            refine run_seq ?_
            refine run_region ?_
            refine rl_v rfl rfl rfl (ov_move rfl rfl) ?_
            refine rl_v rfl rfl rfl (ov_move rfl rfl) ?_
            refine rl_call callable_16 rfl rfl rfl rfl rfl rfl (free_any A Y n w.heap.size [] _ w w39 hn hY.good hWx) (fun e41 w42 hp43 => ?_)
            obtain ⟨vf, cf, rfl, hRf, hWy⟩ := hp43
            refine ⟨_, rfl, ?_⟩
            obtain ⟨sf, zf, rfl⟩ := hRf.val
            obtain ⟨Ky, Ny, hOy, hKy, hPly⟩ := hWy.pull2
            refine rl_v rfl rfl rfl (ov_move rfl rfl) ?_
            refine rl_v rfl rfl rfl (ov_extract rfl rfl (by rfl)) ?_
            refine rl_v rfl rfl rfl (ov_extract rfl rfl (by rfl)) ?_
            refine rl_v rfl rfl rfl (ov_assign rfl rfl) ?_
            refine rl_v rfl rfl rfl (ov_assign rfl rfl) ?_
            refine rl_nil ?_
            refine run_seq ?_
            refine run_region ?_
            refine rl_v rfl rfl rfl (ov_move rfl rfl) ?_
            refine rl_call callable_26 rfl rfl rfl rfl rfl rfl (sumOk sb (Y.fst n).length zb w.heap.size (Y.bal n) _ w w42 hOy (SrcI.of_mem hRb (by simp)) (by omega) (fun i _ _ => ⟨bal_nonneg hY.linv hY.good hn i, (bal_le hY.good hn i).1⟩)) (fun e44 w45 hp46 => ?_)
            obtain ⟨rfl, hOu⟩ := hp46
            refine ⟨_, rfl, ?_⟩
            refine rl_v rfl rfl rfl (ov_move rfl rfl) ?_
            refine rl_v rfl rfl rfl (ov_extract rfl rfl (by rfl)) ?_
            refine rl_v rfl rfl rfl (ov_extract rfl rfl (by rfl)) ?_
            refine rl_v rfl rfl rfl (ov_assign rfl rfl) ?_
            refine rl_v rfl rfl rfl (ov_assign rfl rfl) ?_
            refine rl_nil ?_
            refine run_seq ?_
            refine run_region ?_
            refine rl_v rfl rfl rfl (ov_move rfl rfl) ?_
            refine rl_call callable_26 rfl rfl rfl rfl rfl rfl (sumOk sf (Y.fst n).length zf w.heap.size (Y.free n) _ w w45 hOu (SrcI.of_mem hRf (by simp)) (by omega) (fun i _ _ => ⟨free_nonneg hY.linv hY.good hn i, free_le hY.linv hY.good hn i⟩)) (fun e47 w48 hp49 => ?_)
            obtain ⟨rfl, hOv⟩ := hp49
            refine ⟨_, rfl, ?_⟩
            have hWz := (WAt.push2 hOv hKy hPly).drop.drop
            obtain ⟨Kz, Nz, hOz, hKz, hPlz⟩ := hWz.pull
            have hbs := bal_sum hY.linv hY.good hn
            rw [hY.mem] at hbs
            have e1 : n = 1 → sm (Y.bal n) (Y.fst n).length = sm (gl f1) f1.length := fun e => by
              subst e
              rw [hfl, hl1, hbs]
              show sm (gl Y.f1) mem = _
              rw [hY.f1]
            have e2 : n = 2 → sm (Y.bal n) (Y.fst n).length = sm (gl f2) f2.length := fun e => by
              subst e
              rw [hfl, hl2, hbs]
              show sm (gl Y.f2) mem = _
              rw [hY.f2]
            refine rl_v rfl rfl rfl (ov_move rfl rfl) ?_
            refine rl_v rfl rfl rfl (ov_extract rfl rfl (by rfl)) ?_
            refine rl_v rfl rfl rfl (ov_extract rfl rfl (by rfl)) ?_
            refine rl_v rfl rfl rfl (ov_assign rfl rfl) ?_
            refine rl_v rfl rfl rfl (ov_assign rfl rfl) ?_
            refine rl_nil ?_
            refine run_seq ?_
            refine run_region_join 131 (.bool (decide (False))) [1, 5, 6, 8, 10, 12, 13] (fun hk50 => ?_) ?_
            · refine rl_v rfl rfl rfl (ov_move rfl rfl) ?_
              refine rl_v rfl rfl rfl (ov_neq rfl rfl rfl) ?_
              refine rl_v rfl rfl rfl (ov_move rfl rfl) ?_
              first | refine rl_split_dec 95 rfl (fun r1 => ?_) (fun r1 => ?_) | refine rl_split 95 rfl (fun r1 => ?_) (fun r1 => ?_)
              · refine rl_gskip rfl rfl rfl rfl rfl rfl ?_
                refine rl_gskip rfl rfl rfl rfl rfl rfl ?_
                refine rl_v rfl rfl rfl (ov_pick_t rfl rfl rfl) ?_
                refine rl_v rfl rfl rfl (ov_move rfl rfl) ?_
                refine rl_gskip rfl rfl rfl rfl rfl rfl ?_
                refine rl_gskip rfl rfl rfl rfl rfl rfl ?_
                refine rl_v rfl rfl rfl (ov_pick_t rfl rfl rfl) ?_
                refine rl_v rfl rfl rfl (ov_move rfl rfl) ?_
                refine rl_gskip rfl rfl rfl rfl rfl rfl ?_
                refine rl_gskip rfl rfl rfl rfl rfl rfl ?_
                refine rl_v rfl rfl rfl (ov_pick_t rfl rfl rfl) ?_
                refine rl_v rfl rfl rfl (ov_move rfl rfl) ?_
                refine rl_gskip rfl rfl rfl rfl rfl rfl ?_
                refine rl_gskip rfl rfl rfl rfl rfl rfl ?_
                refine rl_gskip rfl rfl rfl rfl rfl rfl ?_
                refine rl_gskip rfl rfl rfl rfl rfl rfl ?_
                refine rl_gskip rfl rfl rfl rfl rfl rfl ?_
                refine rl_v rfl rfl rfl (ov_pick_t rfl rfl rfl) ?_
                refine rl_v rfl rfl rfl (ov_move rfl rfl) ?_
                refine rl_gskip rfl rfl rfl rfl rfl rfl ?_
                refine rl_gskip rfl rfl rfl rfl rfl rfl ?_
                refine rl_gskip rfl rfl rfl rfl rfl rfl ?_
                refine rl_gundef rfl rfl rfl rfl rfl ?_
                refine rl_gundef rfl rfl rfl rfl rfl ?_
                refine rl_gundef rfl rfl rfl rfl rfl ?_
                refine rl_gskip rfl rfl rfl rfl rfl rfl ?_
                refine rl_v rfl rfl rfl (ov_pick_t rfl rfl rfl) ?_
                refine rl_v rfl rfl rfl (ov_move rfl rfl) ?_
                refine rl_gskip rfl rfl rfl rfl rfl rfl ?_
                refine rl_gskip rfl rfl rfl rfl rfl rfl ?_
                refine rl_gskip rfl rfl rfl rfl rfl rfl ?_
                refine rl_gundef rfl rfl rfl rfl rfl ?_
                refine rl_gundef rfl rfl rfl rfl rfl ?_
                refine rl_gundef rfl rfl rfl rfl rfl ?_
                refine rl_gskip rfl rfl rfl rfl rfl rfl ?_
                refine rl_v rfl rfl rfl (ov_pick_t rfl rfl rfl) ?_
                refine rl_nil (hk50 _ (jbt rfl (by first | omega | simp_all)) (And.intro rfl (And.intro rfl (And.intro rfl (And.intro rfl (And.intro rfl (And.intro rfl (And.intro rfl trivial))))))))
              · refine rl_gv rfl rfl rfl rfl rfl (ov_move rfl rfl) ?_
                refine rl_gv rfl rfl rfl rfl rfl (ov_neq rfl rfl rfl) ?_
                refine rl_v rfl rfl rfl (ov_pick_f rfl rfl rfl) ?_
                refine rl_v rfl rfl rfl (ov_move rfl rfl) ?_
                first | refine rl_split_dec 99 rfl (fun r2 => ?_) (fun r2 => ?_) | refine rl_split 99 rfl (fun r2 => ?_) (fun r2 => ?_)
                · refine rl_gskip rfl rfl rfl rfl rfl rfl ?_
                  refine rl_gskip rfl rfl rfl rfl rfl rfl ?_
                  refine rl_v rfl rfl rfl (ov_pick_t rfl rfl rfl) ?_
                  refine rl_v rfl rfl rfl (ov_move rfl rfl) ?_
                  refine rl_gskip rfl rfl rfl rfl rfl rfl ?_
                  refine rl_gskip rfl rfl rfl rfl rfl rfl ?_
                  refine rl_v rfl rfl rfl (ov_pick_t rfl rfl rfl) ?_
                  refine rl_v rfl rfl rfl (ov_move rfl rfl) ?_
                  refine rl_gskip rfl rfl rfl rfl rfl rfl ?_
                  refine rl_gskip rfl rfl rfl rfl rfl rfl ?_
                  refine rl_gskip rfl rfl rfl rfl rfl rfl ?_
                  refine rl_gskip rfl rfl rfl rfl rfl rfl ?_
                  refine rl_gskip rfl rfl rfl rfl rfl rfl ?_
                  refine rl_v rfl rfl rfl (ov_pick_t rfl rfl rfl) ?_
                  refine rl_v rfl rfl rfl (ov_move rfl rfl) ?_
                  refine rl_gskip rfl rfl rfl rfl rfl rfl ?_
                  refine rl_gskip rfl rfl rfl rfl rfl rfl ?_
                  refine rl_gskip rfl rfl rfl rfl rfl rfl ?_
                  refine rl_gundef rfl rfl rfl rfl rfl ?_
                  refine rl_gundef rfl rfl rfl rfl rfl ?_
                  refine rl_gundef rfl rfl rfl rfl rfl ?_
                  refine rl_gskip rfl rfl rfl rfl rfl rfl ?_
                  refine rl_v rfl rfl rfl (ov_pick_t rfl rfl rfl) ?_
                  refine rl_v rfl rfl rfl (ov_move rfl rfl) ?_
                  refine rl_gskip rfl rfl rfl rfl rfl rfl ?_
                  refine rl_gskip rfl rfl rfl rfl rfl rfl ?_
                  refine rl_gskip rfl rfl rfl rfl rfl rfl ?_
                  refine rl_gundef rfl rfl rfl rfl rfl ?_
                  refine rl_gundef rfl rfl rfl rfl rfl ?_
                  refine rl_gundef rfl rfl rfl rfl rfl ?_
                  refine rl_gskip rfl rfl rfl rfl rfl rfl ?_
                  refine rl_v rfl rfl rfl (ov_pick_t rfl rfl rfl) ?_
                  refine rl_nil (hk50 _ (jbt rfl (by first | omega | simp_all)) (And.intro rfl (And.intro rfl (And.intro rfl (And.intro rfl (And.intro rfl (And.intro rfl (And.intro rfl trivial))))))))
                · refine rl_gv rfl rfl rfl rfl rfl (ov_move rfl rfl) ?_
                  refine rl_gv rfl rfl rfl rfl rfl (ov_not rfl rfl) ?_
                  refine rl_v rfl rfl rfl (ov_pick_f rfl rfl rfl) ?_
                  refine rl_v rfl rfl rfl (ov_move rfl rfl) ?_
                  first | refine rl_split_dec 103 rfl (fun r3 => ?_) (fun r3 => ?_) | refine rl_split 103 rfl (fun r3 => ?_) (fun r3 => ?_)
                  · refine rl_gskip rfl rfl rfl rfl rfl rfl ?_
                    refine rl_gskip rfl rfl rfl rfl rfl rfl ?_
                    refine rl_v rfl rfl rfl (ov_pick_t rfl rfl rfl) ?_
                    refine rl_v rfl rfl rfl (ov_move rfl rfl) ?_
                    refine rl_gskip rfl rfl rfl rfl rfl rfl ?_
                    refine rl_gskip rfl rfl rfl rfl rfl rfl ?_
                    refine rl_gskip rfl rfl rfl rfl rfl rfl ?_
                    refine rl_gskip rfl rfl rfl rfl rfl rfl ?_
                    refine rl_gskip rfl rfl rfl rfl rfl rfl ?_
                    refine rl_v rfl rfl rfl (ov_pick_t rfl rfl rfl) ?_
                    refine rl_v rfl rfl rfl (ov_move rfl rfl) ?_
                    refine rl_gskip rfl rfl rfl rfl rfl rfl ?_
                    refine rl_gskip rfl rfl rfl rfl rfl rfl ?_
                    refine rl_gskip rfl rfl rfl rfl rfl rfl ?_
                    refine rl_gundef rfl rfl rfl rfl rfl ?_
                    refine rl_gundef rfl rfl rfl rfl rfl ?_
                    refine rl_gundef rfl rfl rfl rfl rfl ?_
                    refine rl_gskip rfl rfl rfl rfl rfl rfl ?_
                    refine rl_v rfl rfl rfl (ov_pick_t rfl rfl rfl) ?_
                    refine rl_v rfl rfl rfl (ov_move rfl rfl) ?_
                    refine rl_gskip rfl rfl rfl rfl rfl rfl ?_
                    refine rl_gskip rfl rfl rfl rfl rfl rfl ?_
                    refine rl_gskip rfl rfl rfl rfl rfl rfl ?_
                    refine rl_gundef rfl rfl rfl rfl rfl ?_
                    refine rl_gundef rfl rfl rfl rfl rfl ?_
                    refine rl_gundef rfl rfl rfl rfl rfl ?_
                    refine rl_gskip rfl rfl rfl rfl rfl rfl ?_
                    refine rl_v rfl rfl rfl (ov_pick_t rfl rfl rfl) ?_
                    refine rl_nil (hk50 _ (jbt rfl (by first | omega | simp_all)) (And.intro rfl (And.intro rfl (And.intro rfl (And.intro rfl (And.intro rfl (And.intro rfl (And.intro rfl trivial))))))))
                  · refine rl_gv rfl rfl rfl rfl rfl (ov_move rfl rfl) ?_
                    refine rl_gv rfl rfl rfl rfl rfl (ov_not rfl rfl) ?_
                    refine rl_v rfl rfl rfl (ov_pick_f rfl rfl rfl) ?_
                    refine rl_v rfl rfl rfl (ov_move rfl rfl) ?_
                    first | refine rl_split_dec 107 rfl (fun r4 => ?_) (fun r4 => ?_) | refine rl_split 107 rfl (fun r4 => ?_) (fun r4 => ?_)
                    · refine rl_gskip rfl rfl rfl rfl rfl rfl ?_
                      refine rl_gskip rfl rfl rfl rfl rfl rfl ?_
                      refine rl_gskip rfl rfl rfl rfl rfl rfl ?_
                      refine rl_gskip rfl rfl rfl rfl rfl rfl ?_
                      refine rl_gskip rfl rfl rfl rfl rfl rfl ?_
                      refine rl_v rfl rfl rfl (ov_pick_t rfl rfl rfl) ?_
                      refine rl_v rfl rfl rfl (ov_move rfl rfl) ?_
                      refine rl_gskip rfl rfl rfl rfl rfl rfl ?_
                      refine rl_gskip rfl rfl rfl rfl rfl rfl ?_
                      refine rl_gskip rfl rfl rfl rfl rfl rfl ?_
                      refine rl_gundef rfl rfl rfl rfl rfl ?_
                      refine rl_gundef rfl rfl rfl rfl rfl ?_
                      refine rl_gundef rfl rfl rfl rfl rfl ?_
                      refine rl_gskip rfl rfl rfl rfl rfl rfl ?_
                      refine rl_v rfl rfl rfl (ov_pick_t rfl rfl rfl) ?_
                      refine rl_v rfl rfl rfl (ov_move rfl rfl) ?_
                      refine rl_gskip rfl rfl rfl rfl rfl rfl ?_
                      refine rl_gskip rfl rfl rfl rfl rfl rfl ?_
                      refine rl_gskip rfl rfl rfl rfl rfl rfl ?_
                      refine rl_gundef rfl rfl rfl rfl rfl ?_
                      refine rl_gundef rfl rfl rfl rfl rfl ?_
                      refine rl_gundef rfl rfl rfl rfl rfl ?_
                      refine rl_gskip rfl rfl rfl rfl rfl rfl ?_
                      refine rl_v rfl rfl rfl (ov_pick_t rfl rfl rfl) ?_
                      refine rl_nil (hk50 _ (jbt rfl (by first | omega | simp_all)) (And.intro rfl (And.intro rfl (And.intro rfl (And.intro rfl (And.intro rfl (And.intro rfl (And.intro rfl trivial))))))))
                    · refine rl_gv rfl rfl rfl rfl rfl (ov_move rfl rfl) ?_
                      refine rl_gv rfl rfl rfl rfl rfl (ov_len rfl Try.underlying22 rfl) ?_
                      refine rl_gv rfl rfl rfl rfl rfl (ov_fieldS rfl Try.underlying24 rfl (fo := 0) rfl (by kernel_rfl) rfl) ?_
                      refine rl_gv rfl rfl rfl rfl rfl (ov_load rfl Try.underlying3 rfl rfl (by first | exact hOz.cellL 0 rfl (off := 0) rfl)) ?_
                      refine rl_gv rfl rfl rfl rfl rfl (ov_neq rfl rfl rfl) ?_
                      refine rl_v rfl rfl rfl (ov_pick_f rfl rfl rfl) ?_
                      refine rl_v rfl rfl rfl (ov_move rfl rfl) ?_
                      first | refine rl_split_dec 114 rfl (fun r5 => ?_) (fun r5 => ?_) | refine rl_split 114 rfl (fun r5 => ?_) (fun r5 => ?_)
                      · refine rl_gskip rfl rfl rfl rfl rfl rfl ?_
                        refine rl_gskip rfl rfl rfl rfl rfl rfl ?_
                        refine rl_gskip rfl rfl rfl rfl rfl rfl ?_
                        refine rl_gundef rfl rfl rfl rfl rfl ?_
                        refine rl_gundef rfl rfl rfl rfl rfl ?_
                        refine rl_gundef rfl rfl rfl rfl rfl ?_
                        refine rl_gskip rfl rfl rfl rfl rfl rfl ?_
                        refine rl_v rfl rfl rfl (ov_pick_t rfl rfl rfl) ?_
                        refine rl_v rfl rfl rfl (ov_move rfl rfl) ?_
                        refine rl_gskip rfl rfl rfl rfl rfl rfl ?_
                        refine rl_gskip rfl rfl rfl rfl rfl rfl ?_
                        refine rl_gskip rfl rfl rfl rfl rfl rfl ?_
                        refine rl_gundef rfl rfl rfl rfl rfl ?_
                        refine rl_gundef rfl rfl rfl rfl rfl ?_
                        refine rl_gundef rfl rfl rfl rfl rfl ?_
                        refine rl_gskip rfl rfl rfl rfl rfl rfl ?_
                        refine rl_v rfl rfl rfl (ov_pick_t rfl rfl rfl) ?_
                        refine rl_nil (hk50 _ (jbt rfl (by first | omega | simp_all)) (And.intro rfl (And.intro rfl (And.intro rfl (And.intro rfl (And.intro rfl (And.intro rfl (And.intro rfl trivial))))))))
                      · refine rl_gv rfl rfl rfl rfl rfl (ov_move rfl rfl) ?_
                        refine rl_gv rfl rfl rfl rfl rfl (ov_eql rfl rfl rfl) ?_
                        refine rl_gv rfl rfl rfl rfl rfl (ov_move rfl rfl) ?_
                        first | refine rl_split_dec 117 rfl (fun r6 => ?_) (fun r6 => ?_) | refine rl_split 117 rfl (fun r6 => ?_) (fun r6 => ?_)
                        · refine rl_gv rfl rfl rfl rfl rfl (ov_move rfl rfl) ?_
                          refine rl_gv rfl rfl rfl rfl rfl (ov_move rfl rfl) ?_
                          refine rl_gv rfl rfl rfl rfl rfl (ov_neq rfl rfl rfl) ?_
                          refine rl_gv rfl rfl rfl rfl rfl (ov_pick_t rfl rfl rfl) ?_
                          refine rl_v rfl rfl rfl (ov_pick_f rfl rfl rfl) ?_
                          refine rl_v rfl rfl rfl (ov_move rfl rfl) ?_
                          first | refine rl_split_dec 123 rfl (fun r7 => ?_) (fun r7 => ?_) | refine rl_split 123 rfl (fun r7 => ?_) (fun r7 => ?_)
                          · refine rl_gskip rfl rfl rfl rfl rfl rfl ?_
                            refine rl_gskip rfl rfl rfl rfl rfl rfl ?_
                            refine rl_gskip rfl rfl rfl rfl rfl rfl ?_
                            refine rl_gundef rfl rfl rfl rfl rfl ?_
                            refine rl_gundef rfl rfl rfl rfl rfl ?_
                            refine rl_gundef rfl rfl rfl rfl rfl ?_
                            refine rl_gskip rfl rfl rfl rfl rfl rfl ?_
                            refine rl_v rfl rfl rfl (ov_pick_t rfl rfl rfl) ?_
                            refine rl_nil (hk50 _ (jbt rfl (by first | omega | simp_all)) (And.intro rfl (And.intro rfl (And.intro rfl (And.intro rfl (And.intro rfl (And.intro rfl (And.intro rfl trivial))))))))
                          · refine rl_gv rfl rfl rfl rfl rfl (ov_move rfl rfl) ?_
                            refine rl_gv rfl rfl rfl rfl rfl (ov_eql rfl rfl rfl) ?_
                            refine rl_gv rfl rfl rfl rfl rfl (ov_move rfl rfl) ?_
                            first | refine rl_split_dec 126 rfl (fun r8 => ?_) (fun r8 => ?_) | refine rl_split 126 rfl (fun r8 => ?_) (fun r8 => ?_)
                            · refine rl_gv rfl rfl rfl rfl rfl (ov_move rfl rfl) ?_
                              refine rl_gv rfl rfl rfl rfl rfl (ov_move rfl rfl) ?_
                              refine rl_gv rfl rfl rfl rfl rfl (ov_neq rfl rfl rfl) ?_
                              refine rl_gv rfl rfl rfl rfl rfl (ov_pick_t rfl rfl rfl) ?_
                              refine rl_v rfl rfl rfl (ov_pick_f rfl rfl rfl) ?_
                              refine rl_nil (hk50 _ (jbd rfl (by first | omega | simp_all)) (And.intro rfl (And.intro rfl (And.intro rfl (And.intro rfl (And.intro rfl (And.intro rfl (And.intro rfl trivial))))))))
                            · refine rl_gskip rfl rfl rfl rfl rfl rfl ?_
                              refine rl_gskip rfl rfl rfl rfl rfl rfl ?_
                              refine rl_gskip rfl rfl rfl rfl rfl rfl ?_
                              refine rl_gv rfl rfl rfl rfl rfl (ov_pick_f rfl rfl rfl) ?_
                              refine rl_v rfl rfl rfl (ov_pick_f rfl rfl rfl) ?_
                              refine rl_nil (hk50 _ (jbf rfl (by first | omega | simp_all)) (And.intro rfl (And.intro rfl (And.intro rfl (And.intro rfl (And.intro rfl (And.intro rfl (And.intro rfl trivial))))))))
                        · refine rl_gskip rfl rfl rfl rfl rfl rfl ?_
                          refine rl_gskip rfl rfl rfl rfl rfl rfl ?_
                          refine rl_gskip rfl rfl rfl rfl rfl rfl ?_
                          refine rl_gv rfl rfl rfl rfl rfl (ov_pick_f rfl rfl rfl) ?_
                          refine rl_v rfl rfl rfl (ov_pick_f rfl rfl rfl) ?_
                          refine rl_v rfl rfl rfl (ov_move rfl rfl) ?_
                          refine rl_gv rfl rfl rfl rfl rfl (ov_move rfl rfl) ?_
                          refine rl_gv rfl rfl rfl rfl rfl (ov_eql rfl rfl rfl) ?_
                          refine rl_gv rfl rfl rfl rfl rfl (ov_move rfl rfl) ?_
                          first | refine rl_split_dec 126 rfl (fun r9 => ?_) (fun r9 => ?_) | refine rl_split 126 rfl (fun r9 => ?_) (fun r9 => ?_)
                          · refine rl_gv rfl rfl rfl rfl rfl (ov_move rfl rfl) ?_
                            refine rl_gv rfl rfl rfl rfl rfl (ov_move rfl rfl) ?_
                            refine rl_gv rfl rfl rfl rfl rfl (ov_neq rfl rfl rfl) ?_
                            refine rl_gv rfl rfl rfl rfl rfl (ov_pick_t rfl rfl rfl) ?_
                            refine rl_v rfl rfl rfl (ov_pick_f rfl rfl rfl) ?_
                            refine rl_nil (hk50 _ (jbd rfl (by first | omega | simp_all)) (And.intro rfl (And.intro rfl (And.intro rfl (And.intro rfl (And.intro rfl (And.intro rfl (And.intro rfl trivial))))))))
                          · refine rl_gskip rfl rfl rfl rfl rfl rfl ?_
                            refine rl_gskip rfl rfl rfl rfl rfl rfl ?_
                            refine rl_gskip rfl rfl rfl rfl rfl rfl ?_
                            refine rl_gv rfl rfl rfl rfl rfl (ov_pick_f rfl rfl rfl) ?_
                            refine rl_v rfl rfl rfl (ov_pick_f rfl rfl rfl) ?_
                            refine rl_nil (hk50 _ (jbf rfl (by first | omega | simp_all)) (And.intro rfl (And.intro rfl (And.intro rfl (And.intro rfl (And.intro rfl (And.intro rfl (And.intro rfl trivial))))))))
            · show Run _ _ _ _ [(131, _), (1, _), (5, _), (6, _), (8, _), (10, _), (12, _), (13, _)] _ _
              first | refine run_cond_dec rfl (fun bad => ?_) (fun ok => ?_) | refine run_cond rfl (fun bad => ?_) (fun ok => ?_)
              · exfalso; exact bad
              · refine run_skip ?_
                refine run_inBlock ?_
                refine run_region ?_
                refine rl_v rfl rfl rfl (ov_move rfl rfl) ?_
                refine rl_v rfl rfl rfl (ov_add rfl rfl rfl (by omega)) ?_
                refine rl_v rfl rfl rfl (ov_assign rfl rfl) ?_
                refine rl_nil ?_
                refine Run.use (ih37 (n + 1) _ ?_ ?_) (And.intro (by first | with_reducible rfl | exact slot_int rfl (by first | omega) | rfl) (And.intro rfl (And.intro rfl (And.intro rfl (And.intro rfl (And.intro rfl (And.intro rfl trivial)))))))
                · first | omega | (dsimp only; omega)
                · exact ⟨by omega, by omega, hWz⟩
          · refine run_exit rfl ?_
            refine run_inBlock ?_
            refine run_region ?_
            refine rl_v rfl rfl rfl (ov_move rfl rfl) ?_
            refine rl_v rfl rfl rfl (ov_add rfl rfl rfl (by omega)) ?_
            refine rl_v rfl rfl rfl (ov_assign rfl rfl) ?_
            refine rl_nil ?_
            refine Run.use (ih27 (i + 1) (Y) _ ?_ ?_) (And.intro (by first | with_reducible rfl | exact slot_int rfl (by first | omega) | rfl) (And.intro rfl (And.intro rfl (And.intro rfl (And.intro rfl (And.intro rfl trivial))))))
            · first | omega | (dsimp only; omega)
            · exact ⟨by omega, by omega, by rw [show (i + 1).toNat = i.toNat + 1 by omega, Nat.mul_add]; exact hY, hWn⟩
      · refine run_exit rfl ?_
        refine run_seq ?_
        refine run_region ?_
        refine rl_call callable_20 rfl rfl rfl rfl rfl rfl (awake_any w.heap.size _ w w26 hW.own) (fun e60 w61 hp62 => ?_)
        obtain ⟨rfl, hOe⟩ := hp62
        refine ⟨_, rfl, ?_⟩
        refine rl_v rfl rfl rfl (ov_assign rfl rfl) ?_
        refine rl_nil ?_
        refine run_ret Try.func5 (res1 Try.results5 rfl) ?_
        exact ⟨rfl, hOe.below⟩
end Go.Proofs.Yteagflekbbchhaa
