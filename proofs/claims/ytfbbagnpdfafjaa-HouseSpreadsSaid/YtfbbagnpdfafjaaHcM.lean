import Derived.Test.YtfbbagnpdfafjaaHcK
set_option maxRecDepth 100000
namespace Go.Proofs.Ytfbbagnpdfafjaa
open Go.RowKit Go.Proofs
def gnL (mem mon : Int) (pa : Option Addr) (pn pc : Nat) (ma : Option Addr) (k mc : Nat) (rate cap : Int) (qa : Option Addr) (qn qc : Nat) (la : Option Addr) (ln lc : Nat) : List Value := [iv mem, iv mon, .slice pa pn pc, .slice ma k mc, iv rate, iv cap, .slice qa qn qc, .slice la ln lc, .slice none 0 0, iv cap, iv 0]
theorem fill_gn (mem mon : Int) (pa : Option Addr) (pn pc : Nat) (ma : Option Addr) (k mc : Nat) (rate cap : Int) : Instr.fill ([(0, 6), (6, 1), (7, 1), (8, 1), (9, 1), (10, 1)].toArray[·]?) (ghz.toArray) [(0, .agg (cfL mem mon pa pn pc ma k mc rate cap).toArray), (4, iv cap)] = some (gnL mem mon pa pn pc ma k mc rate cap none 0 0 none 0 0).toArray := by
 simp [Instr.fill, Value.cells, cfL, gnL, ghz]
set_option maxHeartbeats 1000000 in
theorem gNew_any (mem mon : Int) (pa ma : Option Addr) (pn pc k mc : Nat) (rate cap : Int) (P : Int → Int) (L : Int → Nat) (F : Int → Int → Int) (R : List (Option Blk)) (B : Nat) (H : List (Option Blk)) (w0 w : World) (hO : Own B w0 w H) (hs : R.Sublist H) (hP : SrcI R pa pn P) (hT : TSrc R ma k L F) (hpn : (pn : Int) = mon) (hm : 2 ≤ mem ∧ mem ≤ 64) (hn : 1 ≤ mon ∧ mon ≤ 12) (hL : ∀ i : Int, 0 ≤ i → i < k → (L i : Int) = mon) :
  Calls Try.prog 33 #[.agg (cfL mem mon pa pn pc ma k mc rate cap).toArray] w fun e w' => ∃ v, e = .returned v ∧ GNew B w0 w' v (HM.new mem mon k P F rate cap) R H := by
 obtain ⟨mm, hmm⟩ : ∃ mm : Nat, (mm : Int) = mem := ⟨mem.toNat, by omega⟩
 obtain ⟨mn, hmn⟩ : ∃ mn : Nat, (mn : Int) = mon := ⟨mon.toNat, by omega⟩
 obtain rfl : pn = mn := by omega
 refine calls_of_run (F := [(0, _)]) Try.func33 rfl Try.ntmps33 rfl rfl <| run_seq <| run_region <| rl_ow rfl (ow_box _ rfl rfl rfl rfl rfl hO) ?_
 rintro _ w1 ⟨b1, rfl, hO2, hs3⟩
 refine rl_ow rfl (ow_alloc _ rfl rfl rfl zero_34 rfl hO2) ?_
 rintro _ w4 ⟨b2, rfl, hO5, hs6⟩
 refine rl_nil <| run_seq <| run_region <| rl_v rfl rfl rfl (ov_loadW rfl Try.underlying25 rfl (by kernel_rfl) rfl hO5 1 rfl) ?_
 refine rl_v rfl rfl rfl (ov_fieldS rfl Try.underlying25 rfl (fo := 5) rfl (by kernel_rfl) rfl) ?_
 refine rl_v rfl rfl rfl (ov_load rfl Try.underlying2 rfl rfl (by exact (show _ = some (iv cap) from hO5.cellL 1 rfl (off := 5) rfl))) ?_
 refine rl_v rfl rfl rfl (ov_build rfl lay_34 rfl (fill_gn mem mon pa pn pc ma k mc rate cap)) <| rl_ow rfl (ow_alloc _ rfl rfl rfl zero_34 rfl hO5) ?_
 rintro _ w7 ⟨b3, rfl, hO8, hs9⟩
 refine rl_ow rfl (ow_storeW rfl rfl (by kernel_rfl) hO8 0 rfl rfl (by rfl) rfl (by rfl)) ?_
 rintro _ w10 ⟨rfl, hO11, hs12⟩
 have hOn := hO11.nil_cons
 refine rl_nil <| run_seq <| run_region <| rl_v rfl rfl rfl (ov_assign rfl rfl) <| rl_nil <| run_seq <| run_region <| rl_v rfl rfl rfl (ov_move rfl rfl) <| rl_v rfl rfl rfl (ov_fieldS rfl Try.underlying25 rfl (fo := 2) rfl (by kernel_rfl) rfl) ?_
 refine rl_v rfl rfl rfl (ov_load rfl Try.underlying22 rfl rfl (by exact hOn.cellL 3 rfl (off := 2) rfl)) ?_
 refine rl_ow rfl (ow_appS rfl rfl rfl Try.underlying22 info_2 rfl hOn 0 (IRow.nil 2 (fun _ => iv 0)) rfl rfl rfl ((hP B w0 _ (hOn.sub (.cons _ (.cons _ (.cons _ (.cons _ hs))))))) (fun _ => rfl) ⟨by omega, by omega⟩) ?_
 rintro _ w13 ⟨v14, c14, rfl, hO14, hr14, hs15⟩
 obtain ⟨a14, p14, rfl⟩ := hr14.val
 simp only [Nat.zero_add] at hr14
 refine rl_v rfl rfl rfl (ov_assign rfl rfl) <| rl_nil <| run_seq <| run_region <| rl_v rfl rfl rfl (ov_move rfl rfl) <| rl_v rfl rfl rfl (ov_fieldS rfl Try.underlying34 rfl (fo := 6) rfl (by kernel_rfl) rfl) ?_
 refine rl_ow rfl (ow_storeL rfl rfl (by kernel_rfl) hO14 1 rfl rfl rfl rfl rfl) ?_
 rintro _ w16 ⟨rfl, hO17, hs18⟩
 have hOx := hO17
 simp only [Nat.zero_add] at hOx
 have hO3 : Own B w0 w16 (c14 :: some (lch b3 34 (gnL mem mon pa pn pc ma k mc rate cap a14 pn p14 none 0 0)) :: some (lch b2 34 ghz) :: some (lch b1 25 (cfL mem mon pa pn pc ma k mc rate cap)) :: H) := hOx
 have hO4 : Own B w0 w16 (some (lch b3 34 (gnL mem mon pa pn pc ma k mc rate cap a14 pn p14 none 0 0)) :: some (lch b1 25 (cfL mem mon pa pn pc ma k mc rate cap)) :: none :: ((List.range 0).map (fun _ => (none : Option Blk)) ++ (c14 :: some (lch b2 34 ghz) :: H))) := hO3.nil_cons.perm (by
  refine (List.perm_append_comm_assoc [none, c14] [_] _).trans (.cons _ ?_)
  exact (List.perm_append_comm_assoc [none, c14, _] [_] _))
 refine rl_nil <| run_seq <| run_seq <| run_region <| rl_v rfl rfl rfl (ov_assign rfl rfl) <| rl_nil <| run_block <| Run.keep [1, 2, 3, 5] (F' := [(1, _), (2, _), (3, _), (5, _)]) rfl <| run_loop4 (fun (i : Int) (n : Nat) (la : Option Addr) (lc : Nat) => [(5, .int .i64 i)]) [1, 2, 3] (fun (i : Int) (n : Nat) (la : Option Addr) (lc : Nat) (w19 : World) => i = n ∧ n ≤ mm ∧ ∃ (lb : Option Blk) (qa : Int → Option Addr) (qc : Int → Nat) (qb : Nat → Option Blk), SRow (.slice la n lc) 49 4 n (fun i => gacL HA.z (qa i) pn (qc i)) lb ∧ (∀ j : Nat, j < n → IRow (.slice (qa j) pn (qc j)) 2 pn (fun _ => iv 0) (qb j)) ∧ Own B w0 w19 (some (lch b3 34 (gnL mem mon pa pn pc ma k mc rate cap a14 pn p14 la n lc)) :: some (lch b1 25 (cfL mem mon pa pn pc ma k mc rate cap)) :: lb :: ((List.range n).map qb ++ (c14 :: some (lch b2 34 ghz) :: H)))) (fun (i : Int) (n : Nat) (la : Option Addr) (lc : Nat) => mm - n) (0) (0) (none) (0) ?_ (And.intro (by exact slot_int rfl (by first | omega)) (And.intro rfl (And.intro rfl (And.intro rfl trivial)))) ?_
 ·exact ⟨rfl, by omega, none, fun _ => none, fun _ => 0, fun _ => none, SRow.nil _ _ _, fun j hj => absurd hj (Nat.not_lt_zero _), hO4⟩
 intro i n la lc w19 hIw19 ih20
 obtain ⟨hi, hnn, lb, qa, qc, qb, hrl, hrq, hO5⟩ := hIw19
 show Run _ _ _ _ [(5, _), (1, _), (2, _), (3, _)] _ _
 refine run_seq <| run_seq <| run_region <| rl_v rfl rfl rfl (ov_move rfl rfl) <| rl_v rfl rfl rfl (ov_fieldS rfl Try.underlying25 rfl (fo := 0) rfl (by kernel_rfl) rfl) ?_
 refine rl_v rfl rfl rfl (ov_load rfl Try.underlying3 rfl rfl (by exact (show _ = some (iv mem) from hO5.cellL 1 rfl (off := 0) rfl))) ?_
 refine rl_v rfl rfl rfl (ov_lss rfl rfl rfl) <| rl_nil ?_
 first | refine run_cond_dec rfl (fun h1 => ?_) (fun h1 => ?_) | refine run_cond rfl (fun h1 => ?_) (fun h1 => ?_)
 ·refine run_skip <| run_seq <| run_block <| run_seq <| run_region <| rl_v rfl rfl rfl (ov_fieldS rfl Try.underlying34 rfl (fo := 7) rfl (by kernel_rfl) rfl) ?_
  refine rl_v rfl rfl rfl (ov_load rfl Try.underlying31 rfl rfl (by exact hO5.cellL 0 rfl (off := 7) rfl)) ?_
  refine rl_v rfl rfl rfl (ov_assign rfl rfl) <| rl_nil <| run_seq <| run_region <| rl_v rfl rfl rfl (ov_move rfl rfl) <| rl_v rfl rfl rfl (ov_fieldS rfl Try.underlying25 rfl (fo := 1) rfl (by kernel_rfl) rfl) ?_
  refine rl_v rfl rfl rfl (ov_load rfl Try.underlying3 rfl rfl (by exact (show _ = some (iv (pn : Int)) from (hO5.cellL 1 rfl (off := 1) rfl).trans (congrArg (fun x => some (iv x)) hmn.symm)))) ?_
  refine rl_ow rfl (ow_make (pn) rfl rfl rfl Try.underlying22 info_2 rfl hO5 rfl rfl (by rfl) (by rfl) ⟨by omega, by omega⟩) ?_
  rintro _ w21 ⟨b28, rfl, hO22, hs23⟩
  refine rl_v rfl rfl rfl (ov_buildL rfl lay_49 rfl (us := [_, _, _, _]) rfl) <| rl_ow rfl (ow_build [_] rfl rfl rfl rfl rfl Try.underlying31 info_49 (by decide) hO22 rfl rfl) ?_
  rintro _ w24 ⟨b30, rfl, hO25, hs26⟩
  refine rl_ow rfl (ow_appR1 rfl rfl rfl Try.underlying31 info_49 rfl rfl hO25 3 hrl rfl rfl rfl rfl rfl ⟨by omega, by omega⟩) ?_
  rintro _ w27 ⟨v31, c31, rfl, hO28, hr31, hs29⟩
  obtain ⟨a31, p31, rfl⟩ := hr31.val
  refine rl_v rfl rfl rfl (ov_assign rfl rfl) <| rl_nil <| run_region <| rl_v rfl rfl rfl (ov_move rfl rfl) <| rl_v rfl rfl rfl (ov_fieldS rfl Try.underlying34 rfl (fo := 7) rfl (by kernel_rfl) rfl) ?_
  refine rl_ow rfl (ow_storeL rfl rfl (by kernel_rfl) hO28 1 rfl rfl rfl rfl rfl) ?_
  rintro _ w30 ⟨rfl, hO31, hs32⟩
  have hO6 : Own B w0 w30 (some (vch b28 2 pn (fun _ => iv 0)) :: some (lch b3 34 (gnL mem mon pa pn pc ma k mc rate cap a14 pn p14 a31 (n + 1) p31)) :: some (lch b1 25 (cfL mem mon pa pn pc ma k mc rate cap)) :: c31 :: ((List.range n).map qb ++ (c14 :: some (lch b2 34 ghz) :: H))) := hO31
  have hO7 := hO6.intoT
  have hO8 : Own B w0 w30 (some (lch b3 34 (gnL mem mon pa pn pc ma k mc rate cap a14 pn p14 a31 (n + 1) p31)) :: some (lch b1 25 (cfL mem mon pa pn pc ma k mc rate cap)) :: c31 :: ((List.range (n + 1)).map (fun r => if r = n then some (vch b28 2 pn (fun _ => iv 0)) else qb r) ++ (c14 :: some (lch b2 34 ghz) :: H))) := by
   rw [map_snoc, List.append_assoc]
   exact hO7
  have hrl2 : SRow (.slice a31 (n + 1) p31) 49 4 (n + 1) (fun i => gacL HA.z (upd qa n (some ⟨b28, 0, none⟩) i) pn (upd qc n pn i)) c31 := hr31.congr fun j j0 j1 => by
   by_cases e : j = n
   ·rw [e, upd_same, upd_same, upd_same]
    rfl
   ·rw [upd_ne _ _ e, upd_ne _ _ e, upd_ne _ _ e]
  have hrq2 : ∀ j : Nat, j < n + 1 → IRow (.slice (upd qa n (some ⟨b28, 0, none⟩) j) pn (upd qc n pn j)) 2 pn (fun _ => iv 0) (if j = n then some (vch b28 2 pn (fun _ => iv 0)) else qb j) := fun j hj => by
   by_cases e : j = n
   ·rw [if_pos e, e, upd_same, upd_same]
    exact IRow.mk1 b28 2 pn (fun _ => iv 0) (by omega)
   ·rw [if_neg e, upd_ne _ _ (by omega), upd_ne _ _ (by omega)]
    exact hrq j (by omega)
  refine rl_nil <| run_inBlock <| run_region <| rl_v rfl rfl rfl (ov_move rfl rfl) <| rl_v rfl rfl rfl (ov_add rfl rfl rfl (by omega)) ?_
  refine rl_v rfl rfl rfl (ov_assign rfl rfl) <| rl_nil ?_
  refine Run.use (ih20 (i + 1) (n + 1) (a31) (p31) _ ?_ ?_) (And.intro (by exact slot_int rfl (by first | omega)) (And.intro rfl (And.intro rfl (And.intro rfl trivial))))
  ·first | omega | (dsimp only; omega)
  ·exact ⟨by omega, by omega, c31, upd qa n (some ⟨b28, 0, none⟩), upd qc n pn, _, hrl2, hrq2, hO8⟩
 ·obtain rfl : mm = n := by omega
  obtain ⟨A, C, hA, hV, hC⟩ := hT
  obtain ⟨X, hX⟩ : ∃ X, X = HM.new mem mon k P F rate cap := ⟨_, rfl⟩
  obtain ⟨K, hK⟩ : ∃ K : GK, K = ⟨mem, mon, cap, pa, pn, pc, ma, mc, a14, p14, la, lc, none, 0, qa, qc, A, C⟩ := ⟨_, rfl⟩
  have hXm : X.mem = mm := by rw [hX]; show mem.toNat = mm; omega
  have hXn : X.mn = pn := by rw [hX]; show mon.toNat = pn; omega
  have hv : ghL X K = gnL mem mon pa pn pc ma k mc rate cap a14 pn p14 la mm lc := by unfold ghL; rw [hXm, hXn, hX, hK]; rfl
  have hXk : X.k = k := by rw [hX]; rfl
  have hG : GRo R X K c14 lb none qb := by
   refine ⟨?_, ?_, ?_, ?_, ?_, ?_⟩
   ·rw [hXn, hK, hX]
    refine hr14.congr fun m m0 m1 => ?_
    show joinF _ _ _ m = iv (cutM mon P m)
    unfold joinF cutM
    rw [if_neg (by omega), if_pos (by omega), show m - ((0 : Nat) : Int) = m by omega]
   ·rw [hXm, hXn, hK, hX]
    exact hrl
   ·rw [hK, hX]
    exact SRow.nil _ _ _
   ·rw [hXm, hXn, hK, hX]
    exact hrq
   ·rw [hXk, hXn, hK]
    intro B w0 w hO
    refine (hA B w0 w hO).congr fun r r0 r1 => ?_
    show Value.slice (A r) (L r) (C r) = .slice (A r) pn (C r)
    rw [show L r = pn by have := hL r r0 r1; omega]
   ·rw [hXk, hXn, hK, hX]
    intro r r0 r1 B w0 w hO
    have h := hV r r0 r1 B w0 w hO
    rw [show L r = pn by have := hL r r0 r1; omega] at h
    refine h.congr fun m m0 m1 => ?_
    show iv (F r m) = iv (cutM mon (F r) m)
    unfold cutM
    rw [if_pos (by omega)]
  have hO9 := hO5
  rw [← hv] at hO9
  refine run_exit rfl <| run_seq <| run_region <| rl_v rfl rfl rfl (ov_loadW rfl Try.underlying34 rfl (by kernel_rfl) rfl hO9 0 rfl) ?_
  have hO10 : Own B w0 w19 (lb :: ((List.range X.mem).map qb ++ (c14 :: some (lch b2 34 ghz) :: H))) := by rw [hXm]; exact hO9.tail.tail
  have hO11 : Own B w0 w19 (some (lch b2 34 ghz) :: GL X c14 lb none qb H) := by
   refine hO10.nil_cons.perm <| (List.Perm.append_left (none :: lb :: (List.range X.mem).map qb) (List.Perm.refl _)).trans <| (List.perm_append_comm_assoc (none :: lb :: (List.range X.mem).map qb) [c14, _] H).trans ?_
   refine (List.Perm.swap _ _ _).trans (.cons _ (.cons _ ?_))
   exact List.Perm.swap _ _ _
  refine rl_ow rfl (ow_storeW rfl rfl (by kernel_rfl) hO11 0 rfl rfl (by rfl) rfl (by rfl)) ?_
  rintro _ w33 ⟨rfl, hO34, hs35⟩
  refine rl_nil <| run_ret Try.func33 (resW Try.results33 rfl Try.underlying34 rfl (by kernel_rfl) hO34 0 rfl) ?_
  exact ⟨.agg (ghL X K).toArray, rfl, K, c14, lb, none, qb, by rw [← hX], by rw [← hX]; exact hG, by rw [← hX]; exact hO34.tail⟩
theorem longs_any (ao bo : Option Addr) (n c d B : Nat) (f g : Int → Int) (H : List (Option Blk)) (w0 w : World) (hO : Own B w0 w H) (ha : SrcI H ao n f) (hb : SrcI H bo n g) (hfg : ∀ i : Int, 0 ≤ i → i < n → f i = g i) (hn : n ≤ 1000000) :
  Calls Try.prog 84 #[.slice ao n c, .slice bo n d] w fun e w' => e = .returned (.bool true) ∧ Own B w0 w' H := by
 refine calls_of_run (F := [(0, _), (1, _)]) Try.func84 rfl Try.ntmps84 rfl rfl <| run_seq <| run_region <| rl_v rfl rfl rfl (ov_assign rfl rfl) <| rl_nil <| run_seq <| run_seq <| run_region <| rl_v rfl rfl rfl (ov_move rfl rfl) <| rl_v rfl rfl rfl (ov_len rfl Try.underlying22 rfl) <| rl_v rfl rfl rfl (ov_move rfl rfl) <| rl_v rfl rfl rfl (ov_len rfl Try.underlying22 rfl) <| rl_v rfl rfl rfl (ov_neq rfl rfl rfl) <| rl_nil ?_
 first | refine run_cond_dec rfl (fun h0 => ?_) (fun h0 => ?_) | refine run_cond rfl (fun h0 => ?_) (fun h0 => ?_)
 ·exfalso; exact h0 rfl
 ·refine run_skip <| run_seq <| run_seq <| run_region <| rl_v rfl rfl rfl (ov_assign rfl rfl) <| rl_nil <| run_block <| Run.keep [0, 1, 5] (F' := [(0, _), (1, _), (5, _)]) rfl <| run_loop1 (fun (k : Int) => [(5, .int .i64 k)]) [0, 1] (fun (k : Int) (w1 : World) => (0 ≤ k ∧ k ≤ n) ∧ Own B w0 w1 H) (fun (k : Int) => ((n : Int) - k).toNat) (0) ?_ (And.intro (by exact slot_int rfl (by first | omega)) (And.intro rfl (And.intro rfl trivial))) ?_
  ·exact ⟨by omega, hO⟩
  intro k w1 hIw1 ih2
  obtain ⟨hk, hO1⟩ := hIw1
  show Run _ _ _ _ [(5, _), (0, _), (1, _)] _ _
  refine run_seq <| run_seq <| run_region <| rl_v rfl rfl rfl (ov_move rfl rfl) <| rl_v rfl rfl rfl (ov_move rfl rfl) <| rl_v rfl rfl rfl (ov_len rfl Try.underlying22 rfl) <| rl_v rfl rfl rfl (ov_lss rfl rfl rfl) <| rl_nil ?_
  first | refine run_cond_dec rfl (fun h1 => ?_) (fun h1 => ?_) | refine run_cond rfl (fun h1 => ?_) (fun h1 => ?_)
  ·obtain ⟨gb, go, hga, hrow⟩ := (ha B w0 w1 hO1).open
   obtain ⟨gb2, go2, hga2, hrow2⟩ := (hb B w0 w1 hO1).open
   have he := hfg k (by omega) (by omega)
   refine run_skip <| run_seq <| run_block <| run_seq <| run_quiet mixed (by kernel_rfl) ?_
   refine rq_v rfl rfl rfl (fun _ => ov_move rfl rfl) ?_
   refine rq_v rfl rfl rfl (fun _ => ov_move rfl rfl) ?_
   refine rq_v rfl rfl rfl (fun _ => ov_index1 rfl Try.underlying22 (by kernel_rfl) rfl rfl ⟨by omega, by omega⟩ (by exact (hga (by omega)))) ?_
   refine rq_v rfl rfl rfl (fun _ => ov_load rfl Try.underlying2 rfl rfl (by show World.cell? w1 _ = _; first | exact hrow _ (Below.refl _ _) k (by omega) (by omega))) ?_
   refine rq_v rfl rfl rfl (fun _ => ov_move rfl rfl) ?_
   refine rq_v rfl rfl rfl (fun _ => ov_move rfl rfl) ?_
   refine rq_v rfl rfl rfl (fun _ => ov_index1 rfl Try.underlying22 (by kernel_rfl) rfl rfl ⟨by omega, by omega⟩ (by exact (hga2 (by omega)))) ?_
   refine rq_v rfl rfl rfl (fun _ => ov_load rfl Try.underlying2 rfl rfl (by show World.cell? w1 _ = _; first | exact hrow2 _ (Below.refl _ _) k (by omega) (by omega))) ?_
   refine rq_v rfl rfl rfl (fun _ => ov_neq rfl rfl rfl) ?_
   refine rq_nil (fun n3 => ?_)
   have hO5 := hO1.drewN n3
   generalize World.drewN w1 n3 = w4 at hO5 ⊢
   first | refine run_cond_dec rfl (fun h2 => ?_) (fun h2 => ?_) | refine run_cond rfl (fun h2 => ?_) (fun h2 => ?_)
   ·exfalso; exact h2 he
   ·refine run_skip <| run_inBlock <| run_region <| rl_v rfl rfl rfl (ov_move rfl rfl) <| rl_v rfl rfl rfl (ov_add rfl rfl rfl (by omega)) ?_
    refine rl_v rfl rfl rfl (ov_assign rfl rfl) <| rl_nil ?_
    refine Run.use (ih2 (k + 1) _ ?_ ?_) (And.intro (by exact slot_int rfl (by first | omega)) (And.intro rfl (And.intro rfl trivial)))
    ·first | omega | (dsimp only; omega)
    ·exact ⟨by omega, hO5⟩
  ·refine run_exit rfl <| run_seq <| run_region <| rl_v rfl rfl rfl (ov_assign rfl rfl) <| rl_nil <| run_ret Try.func84 (res1 Try.results84 rfl) ?_
   exact ⟨rfl, hO1⟩
theorem ints_any (ao bo : Option Addr) (n c d B : Nat) (f g : Int → Int) (H : List (Option Blk)) (w0 w : World) (hO : Own B w0 w H) (ha : SrcI H ao n f) (hb : SrcI H bo n g) (hfg : ∀ i : Int, 0 ≤ i → i < n → f i = g i) (hn : n ≤ 1000000) :
  Calls Try.prog 81 #[.slice ao n c, .slice bo n d] w fun e w' => e = .returned (.bool true) ∧ Own B w0 w' H := by
 refine calls_of_run (F := [(0, _), (1, _)]) Try.func81 rfl Try.ntmps81 rfl rfl <| run_seq <| run_region <| rl_v rfl rfl rfl (ov_assign rfl rfl) <| rl_nil <| run_seq <| run_seq <| run_region <| rl_v rfl rfl rfl (ov_move rfl rfl) <| rl_v rfl rfl rfl (ov_len rfl Try.underlying51 rfl) <| rl_v rfl rfl rfl (ov_move rfl rfl) <| rl_v rfl rfl rfl (ov_len rfl Try.underlying51 rfl) <| rl_v rfl rfl rfl (ov_neq rfl rfl rfl) <| rl_nil ?_
 first | refine run_cond_dec rfl (fun h0 => ?_) (fun h0 => ?_) | refine run_cond rfl (fun h0 => ?_) (fun h0 => ?_)
 ·exfalso; exact h0 rfl
 ·refine run_skip <| run_seq <| run_seq <| run_region <| rl_v rfl rfl rfl (ov_assign rfl rfl) <| rl_nil <| run_block <| Run.keep [0, 1, 5] (F' := [(0, _), (1, _), (5, _)]) rfl <| run_loop1 (fun (k : Int) => [(5, .int .i64 k)]) [0, 1] (fun (k : Int) (w1 : World) => (0 ≤ k ∧ k ≤ n) ∧ Own B w0 w1 H) (fun (k : Int) => ((n : Int) - k).toNat) (0) ?_ (And.intro (by exact slot_int rfl (by first | omega)) (And.intro rfl (And.intro rfl trivial))) ?_
  ·exact ⟨by omega, hO⟩
  intro k w1 hIw1 ih2
  obtain ⟨hk, hO1⟩ := hIw1
  show Run _ _ _ _ [(5, _), (0, _), (1, _)] _ _
  refine run_seq <| run_seq <| run_region <| rl_v rfl rfl rfl (ov_move rfl rfl) <| rl_v rfl rfl rfl (ov_move rfl rfl) <| rl_v rfl rfl rfl (ov_len rfl Try.underlying51 rfl) <| rl_v rfl rfl rfl (ov_lss rfl rfl rfl) <| rl_nil ?_
  first | refine run_cond_dec rfl (fun h1 => ?_) (fun h1 => ?_) | refine run_cond rfl (fun h1 => ?_) (fun h1 => ?_)
  ·obtain ⟨gb, go, hga, hrow⟩ := (ha B w0 w1 hO1).open
   obtain ⟨gb2, go2, hga2, hrow2⟩ := (hb B w0 w1 hO1).open
   have he := hfg k (by omega) (by omega)
   refine run_skip <| run_seq <| run_block <| run_seq <| run_quiet mixed (by kernel_rfl) ?_
   refine rq_v rfl rfl rfl (fun _ => ov_move rfl rfl) ?_
   refine rq_v rfl rfl rfl (fun _ => ov_move rfl rfl) ?_
   refine rq_v rfl rfl rfl (fun _ => ov_index1 rfl Try.underlying51 (by kernel_rfl) rfl rfl ⟨by omega, by omega⟩ (by exact (hga (by omega)))) ?_
   refine rq_v rfl rfl rfl (fun _ => ov_load rfl Try.underlying3 rfl rfl (by show World.cell? w1 _ = _; first | exact hrow _ (Below.refl _ _) k (by omega) (by omega))) ?_
   refine rq_v rfl rfl rfl (fun _ => ov_move rfl rfl) ?_
   refine rq_v rfl rfl rfl (fun _ => ov_move rfl rfl) ?_
   refine rq_v rfl rfl rfl (fun _ => ov_index1 rfl Try.underlying51 (by kernel_rfl) rfl rfl ⟨by omega, by omega⟩ (by exact (hga2 (by omega)))) ?_
   refine rq_v rfl rfl rfl (fun _ => ov_load rfl Try.underlying3 rfl rfl (by show World.cell? w1 _ = _; first | exact hrow2 _ (Below.refl _ _) k (by omega) (by omega))) ?_
   refine rq_v rfl rfl rfl (fun _ => ov_neq rfl rfl rfl) ?_
   refine rq_nil (fun n3 => ?_)
   have hO5 := hO1.drewN n3
   generalize World.drewN w1 n3 = w4 at hO5 ⊢
   first | refine run_cond_dec rfl (fun h2 => ?_) (fun h2 => ?_) | refine run_cond rfl (fun h2 => ?_) (fun h2 => ?_)
   ·exfalso; exact h2 he
   ·refine run_skip <| run_inBlock <| run_region <| rl_v rfl rfl rfl (ov_move rfl rfl) <| rl_v rfl rfl rfl (ov_add rfl rfl rfl (by omega)) ?_
    refine rl_v rfl rfl rfl (ov_assign rfl rfl) <| rl_nil ?_
    refine Run.use (ih2 (k + 1) _ ?_ ?_) (And.intro (by exact slot_int rfl (by first | omega)) (And.intro rfl (And.intro rfl trivial)))
    ·first | omega | (dsimp only; omega)
    ·exact ⟨by omega, hO5⟩
  ·refine run_exit rfl <| run_seq <| run_region <| rl_v rfl rfl rfl (ov_assign rfl rfl) <| rl_nil <| run_ret Try.func81 (res1 Try.results81 rfl) ?_
   exact ⟨rfl, hO1⟩
end Go.Proofs.Ytfbbagnpdfafjaa
set_option maxRecDepth 100000
namespace Go.Proofs.Ytfbbagnpdfafjaa
open Go.RowKit Go.Proofs
theorem HAt.call1 {f : FuncId} {args : Array Value} {Q : Ending → Prop} {B : Nat} {w0 w : World} {hb : Nat} {X : HM} {Pl R : List (Option Blk)} (h : HAt B w0 w hb X Pl R)
  (hc : ∀ H, Own B w0 w H → R.Sublist H → Calls Try.prog f args w fun e w' => Q e ∧ Own B w0 w' H) :
  Calls Try.prog f args w fun e w' => Q e ∧ HAt B w0 w' hb X Pl R := by
 obtain ⟨K, N, hO, hK, hPl⟩ := h
 exact (hc _ hO (.cons _ (.cons _ (List.sublist_append_right _ _)))).mono fun e w' h => ⟨h.1, K, N, h.2, hK, hPl⟩
theorem HAt.call2 {f : FuncId} {args : Array Value} {Q : Ending → Option Blk → Prop} {B : Nat} {w0 w : World} {hb : Nat} {X : HM} {Pl R : List (Option Blk)} (h : HAt B w0 w hb X Pl R)
  (hc : ∀ H, Own B w0 w H → R.Sublist H → Calls Try.prog f args w fun e w' => ∃ c, Q e c ∧ Own B w0 w' (c :: H)) :
  Calls Try.prog f args w fun e w' => ∃ c, Q e c ∧ HAt B w0 w' hb X Pl (c :: R) := by
 obtain ⟨K, N, hO, hK, hPl⟩ := h
 exact (hc _ hO (.cons _ (.cons _ (List.sublist_append_right _ _)))).mono fun e w' ⟨c, h1, h2⟩ => ⟨c, h1, K, N, h2.sink, hK, hPl⟩
theorem HAt.open {B : Nat} {w0 w : World} {hb : Nat} {X : HM} {Pl R : List (Option Blk)} (h : HAt B w0 w hb X Pl R) : ∃ K N, Own B w0 w (houB hb (X.r K) :: K.blk :: (N ++ R)) ∧ HOk X K N ∧ Pl.Sublist N := h
section
variable (hb B : Nat) (X : HM) (Pl R : List (Option Blk)) (w0 w : World) (h : HAt B w0 w hb X Pl R) (hG : HG X)
include h hG
theorem margin_in (i : Int) (hi : X.is i) : Calls Try.prog 24 #[ptr hb, iv i] w fun e w' => e = .returned (.tuple #[iv (X.need (X.acct i)), iv 0]) ∧ HAt B w0 w' hb X Pl R := by
 have h1 := margin2_any hb B X i Pl R w0 w h hG
 rw [show X.mar i = X.need (X.acct i) from if_pos hi, show X.non i = 0 from if_pos hi] at h1
 exact h1
theorem price_in (m : Int) (hm : X.hasM m) : Calls Try.prog 20 #[ptr hb, iv m] w fun e w' => e = .returned (.tuple #[iv (X.pr m), iv 0]) ∧ HAt B w0 w' hb X Pl R := by
 have h1 := price_any hb B X m Pl R w0 w h hG
 rw [show X.pric m = X.pr m from if_pos hm, show X.nom m = 0 from if_pos hm] at h1
 exact h1
end
section
variable {hb B : Nat} {X : HM} {Pl R R0 : List (Option Blk)} {w0 w : World} (K : GK) (h : HAt B w0 w hb X Pl R) (hI : GIn R0 X K) (hs : R0.Sublist R) (hX : GG X)
include h hI hs hX
theorem rCalls : Calls Try.prog 80 #[.agg (ghL X K).toArray] w fun e w' => ∃ c, (∃ v, e = .returned v ∧ IRow v 3 (X.cls X.mem).length (fun i => iv (glH (X.cls X.mem) i)) c) ∧ HAt B w0 w' hb X Pl (c :: R) :=
 h.call2 (Q := fun e c => ∃ v, e = .returned v ∧ IRow v 3 (X.cls X.mem).length (fun i => iv (glH (X.cls X.mem) i)) c) fun H hO hs' => (gCalls_any X K R0 B H w0 w hO hI (hs.trans hs') hX).mono fun e w' ⟨v, c, h1, h2, _, h3⟩ => ⟨c, ⟨v, h1, h2⟩, h3⟩
end
theorem rInts {hb B : Nat} {X : HM} {Pl R : List (Option Blk)} {w0 w : World} (h : HAt B w0 w hb X Pl R) {ao bo : Option Addr} {n c d : Nat} {f g : Int → Int} (ha : SrcI R ao n f) (hb' : SrcI R bo n g) (hfg : ∀ i : Int, 0 ≤ i → i < n → f i = g i) (hn : n ≤ 1000000) :
  Calls Try.prog 81 #[.slice ao n c, .slice bo n d] w fun e w' => e = .returned (.bool true) ∧ HAt B w0 w' hb X Pl R :=
 h.call1 (Q := fun e => e = _) fun H hO hs => ints_any ao bo n c d B f g H w0 w hO (ha.sub hs) (hb'.sub hs) hfg hn
theorem srcRow {E : TypeId} {a : Option Addr} {n p k : Nat} {g : Int → Int} {c : Option Blk} {R : List (Option Blk)} (h : IRow (.slice a n p) E n (fun m => iv (g m)) c) (hk : R[k]? = some c) : SrcI R a n g := fun _ _ _ hO => h.reads hO k hk
end Go.Proofs.Ytfbbagnpdfafjaa
