import Derived.Test.YteagflekbbchhaaSfC
import Derived.Test.YteagflekbbchhaaSum
set_option maxRecDepth 100000
namespace Go.Proofs.Yteagflekbbchhaa
open Go.RowKit Go.Proofs
theorem resW {P : Program} {N : Nat} {F : Fr} {w : World} {fn : Func} {t ty : Nat} {b B : Nat} {t2 : TypeId} {w0 : World} {H : List (Option Blk)} {dd : TypeDesc} {vs : List Value} (hr : fn.results = #[.cell t ty]) (hv : Fr.get F t = some (.pointer (some ⟨b, 0, none⟩)))
  (hT : P.underlying ty = some dd) (hd : dd.isRow = true) (hi : (P.info? ty).map (·.size) = some vs.length) (hO : Own B w0 w H) (k : Nat) (hk : H[k]? = some (some (lch b t2 vs))) : ∀ a, Holds N F a → (results fn a.tmps).run P w = .ok (.agg vs.toArray) w := by
 intro a ha
 have h1 := ha.at_ t _ hv
 have h2 := run_loadVar_mid (P := P) w b 0 ty vs dd (hO.rangeL k hk) hT hd hi
 simp [results, hr, Array.getD_eq_getD_getElem?, h1, asAddr, h2]
theorem gl_snoc (l : List Int) (x : Int) (i : Int) (h0 : 0 ≤ i) (h1 : i < (l.length : Int) + 1) : upd (gl l) l.length x i = gl (l ++ [x]) i := by
 unfold upd gl
 by_cases e : i = l.length
 ·subst e; simp
 ·rw [if_neg e]
  have : i.toNat < l.length := by omega
  simp [List.getD_eq_getElem?_getD, List.getElem?_append_left this]
theorem mod_u (v t : Int) (ht : 1 ≤ t ∧ t ≤ 1000) : 0 ≤ IntKind.i64.wrap (IntKind.u64.wrap v % t) ∧ IntKind.i64.wrap (IntKind.u64.wrap v % t) < t := by
 have h3 := Int.emod_lt_of_pos (IntKind.u64.wrap v) (show 0 < t by omega)
 have h4 := Int.emod_nonneg (IntKind.u64.wrap v) (show t ≠ 0 by omega)
 rw [IntWalk.i64_in _ (by omega)]
 omega
theorem wrap_u64_nonneg (v : Int) : 0 ≤ IntKind.u64.wrap v := by
 rw [IntKind.wrap_u64]; omega
theorem snoc_rng {l : List Int} {x : Int} (h : ∀ y ∈ l, 0 ≤ y ∧ y < 100) (hx : 0 ≤ x ∧ x < 100) : ∀ y ∈ l ++ [x], 0 ≤ y ∧ y < 100 := fun y hy => by
 rcases List.mem_append.1 hy with hy | hy
 ·exact h y hy
 ·rw [List.mem_singleton.1 hy]; exact hx
theorem snoc_row {l : List Int} {x : Int} {v : Value} {E : TypeId} {c : Option Blk} (h : IRow v E (l.length + 1) (fun i => iv (upd (gl l) l.length x i)) c) : IRow v E (l ++ [x]).length (fun i => iv (gl (l ++ [x]) i)) c := by
 rw [List.length_append]
 exact h.congr fun i h0 h1 => congrArg iv (gl_snoc l x i h0 (by omega))
structure TS where
 f1 : List Int
 f2 : List Int
 v1 : Value
 v2 : Value
 k1 : Option Blk
 k2 : Option Blk
theorem fr2 (a b c : Option Blk) {H : List (Option Blk)} : (a :: b :: c :: H).Perm (c :: a :: b :: H) := List.perm_middle (l₁ := [a, b]) (l₂ := H) (a := c)
theorem tame_any (m p : Int) (a1 a2 : Option Addr) (n1 n2 c1 c2 : Nat) (G1 G2 : Int → Int) (B : Nat) (H : List (Option Blk)) (w0 w : World) (h1 : IAt B w0 a1 n1 (fun i => iv (G1 i))) (h2 : IAt B w0 a2 n2 (fun i => iv (G2 i))) (hO : Own B w0 w H) :
  Calls Try.prog 13 #[.agg #[iv m, iv p, .slice a1 n1 c1, .slice a2 n2 c2]] w fun e w' => ∃ (mem pat : Int) (f1 f2 : List Int) (v1 v2 : Value) (k1 k2 : Option Blk), e = .returned (.agg #[iv mem, iv pat, v1, v2]) ∧ (1 ≤ mem ∧ mem ≤ 5) ∧ (1 ≤ pat ∧ pat ≤ 6) ∧
   IRow v1 2 f1.length (fun i => iv (gl f1 i)) k1 ∧ IRow v2 2 f2.length (fun i => iv (gl f2 i)) k2 ∧ ((f1.length : Int) = mem ∧ (f2.length : Int) = mem) ∧ (∀ x ∈ f1, 0 ≤ x ∧ x < 100) ∧ (∀ x ∈ f2, 0 ≤ x ∧ x < 100) ∧ Own B w0 w' (k1 :: k2 :: H) := by
 obtain ⟨g1, o1, ha1, hr1⟩ := h1.open
 obtain ⟨g2, o2, ha2, hr2⟩ := h2.open
 have hm5 := mod_u m 5 (by decide)
 have hp6 := mod_u p 6 (by decide)
 refine calls_of_run (F := [(0, _)]) Try.func13 rfl Try.ntmps13 rfl rfl <| run_seq <| run_region <| rl_ow rfl (ow_box _ rfl rfl rfl rfl rfl hO) ?_
 rintro _ w1 ⟨b1, rfl, hO2, hs3⟩
 refine rl_ow rfl (ow_alloc _ rfl rfl rfl zero_24 rfl hO2) ?_
 rintro _ w4 ⟨b2, rfl, hO5, hs6⟩
 refine rl_nil <| run_seq <| run_region <| rl_v rfl rfl rfl (ov_fieldS rfl Try.underlying24 rfl (fo := 0) rfl (by kernel_rfl) rfl) ?_
 refine rl_v rfl rfl rfl (ov_load rfl Try.underlying3 rfl rfl (by exact hO5.cellL 1 rfl (off := 0) rfl)) ?_
 refine rl_v rfl rfl rfl (ov_conv rfl Try.underlying3 Try.underlying36 rfl) <| rl_v rfl rfl rfl (ov_rem rfl rfl rfl (wrap_u64_nonneg _) (by omega)) ?_
 refine rl_v rfl rfl rfl (ov_conv rfl Try.underlying36 Try.underlying3 rfl) <| rl_v rfl rfl rfl (ov_add rfl rfl rfl (by omega)) ?_
 refine rl_v rfl rfl rfl (ov_fieldS rfl Try.underlying24 rfl (fo := 1) rfl (by kernel_rfl) rfl) ?_
 refine rl_v rfl rfl rfl (ov_load rfl Try.underlying3 rfl rfl (by exact hO5.cellL 1 rfl (off := 1) rfl)) ?_
 refine rl_v rfl rfl rfl (ov_conv rfl Try.underlying3 Try.underlying36 rfl) <| rl_v rfl rfl rfl (ov_rem rfl rfl rfl (wrap_u64_nonneg _) (by omega)) ?_
 refine rl_v rfl rfl rfl (ov_conv rfl Try.underlying36 Try.underlying3 rfl) <| rl_v rfl rfl rfl (ov_add rfl rfl rfl (by omega)) ?_
 refine rl_v rfl rfl rfl (ov_buildL rfl lay_24 rfl (us := [_, _, _, _]) rfl) <| rl_ow rfl (ow_alloc _ rfl rfl rfl zero_24 rfl hO5) ?_
 rintro _ w7 ⟨b3, rfl, hO8, hs9⟩
 refine rl_ow rfl (ow_storeW rfl rfl (by kernel_rfl) hO8 0 rfl rfl (by rfl) rfl (by rfl)) ?_
 rintro _ w10 ⟨rfl, hO11, hs12⟩
 generalize hme : 1 + IntKind.i64.wrap (IntKind.u64.wrap m % 5) = mem at *
 generalize hpe : 1 + IntKind.i64.wrap (IntKind.u64.wrap p % 6) = pat at *
 have hm : 1 ≤ mem ∧ mem ≤ 5 := by omega
 have hp : 1 ≤ pat ∧ pat ≤ 6 := by omega
 refine rl_nil <| run_seq <| run_seq <| run_region <| rl_v rfl rfl rfl (ov_assign rfl rfl) <| rl_nil <| run_block <| Run.keep [1, 2, 3, 4] (F' := [(1, _), (2, _), (3, _), (4, _)]) rfl <| run_loop2 (fun (i : Int) (q : TS) => [(4, .int .i64 i)]) [1, 2, 3] (fun (i : Int) (q : TS) (w13 : World) => 0 ≤ i ∧ i ≤ mem ∧ (q.f1.length : Int) = i ∧ (q.f2.length : Int) = i ∧ (∀ x ∈ q.f1, 0 ≤ x ∧ x < 100) ∧ (∀ x ∈ q.f2, 0 ≤ x ∧ x < 100) ∧ IRow q.v1 2 q.f1.length (fun i => iv (gl q.f1 i)) q.k1 ∧ IRow q.v2 2 q.f2.length (fun i => iv (gl q.f2 i)) q.k2 ∧ Own B w0 w13 (some (lch b3 24 [iv mem, iv pat, q.v1, q.v2]) :: q.k1 :: q.k2 :: some (lch b2 24 [iv 0, iv 0, .slice none 0 0, .slice none 0 0]) :: some (lch b1 24 [iv m, iv p, .slice a1 n1 c1, .slice a2 n2 c2]) :: H)) (fun (i : Int) (q : TS) => (mem - i).toNat) (0) (⟨[], [], .slice none 0 0, .slice none 0 0, none, none⟩) ?_ (And.intro (by exact slot_int rfl (by first | omega)) (And.intro rfl (And.intro rfl (And.intro rfl trivial)))) ?_
 ·exact ⟨by omega, by omega, rfl, rfl, (fun _ h => nomatch h), (fun _ h => nomatch h), IRow.nil _ _, IRow.nil _ _, (hO11.nil_cons.nil_cons).perm (fr2 _ _ _)⟩
 intro i q w13 hIw13 ih14
 obtain ⟨hi0, hi1, hl1, hl2, hf1, hf2, hR1, hR2, hOl⟩ := hIw13
 show Run _ _ _ _ [(4, _), (1, _), (2, _), (3, _)] _ _
 obtain ⟨f1, f2, v1, v2, k1, k2⟩ := q
 dsimp only at *
 obtain ⟨s1, z1, rfl⟩ := hR1.val
 obtain ⟨s2, z2, rfl⟩ := hR2.val
 refine run_seq <| run_seq <| run_region <| rl_v rfl rfl rfl (ov_move rfl rfl) <| rl_v rfl rfl rfl (ov_fieldS rfl Try.underlying24 rfl (fo := 0) rfl (by kernel_rfl) rfl) ?_
 refine rl_v rfl rfl rfl (ov_load rfl Try.underlying3 rfl rfl (by exact hOl.cellL 0 rfl (off := 0) rfl)) ?_
 refine rl_v rfl rfl rfl (ov_lss rfl rfl rfl) <| rl_nil ?_
 first | refine run_cond_dec rfl (fun hlt => ?_) (fun hlt => ?_) | refine run_cond rfl (fun hlt => ?_) (fun hlt => ?_)
 ·refine run_skip <| run_seq <| run_block <| run_seq <| run_region <| rl_v rfl rfl rfl (ov_assign rfl rfl) <| rl_v rfl rfl rfl (ov_assign rfl rfl) <| rl_nil <| run_seq <| run_seq <| run_region <| rl_v rfl rfl rfl (ov_move rfl rfl) <| rl_v rfl rfl rfl (ov_fieldS rfl Try.underlying24 rfl (fo := 2) rfl (by kernel_rfl) rfl) ?_
  refine rl_v rfl rfl rfl (ov_load rfl Try.underlying22 rfl rfl (by exact hOl.cellL 4 rfl (off := 2) rfl)) ?_
  refine rl_v rfl rfl rfl (ov_len rfl Try.underlying22 rfl) <| rl_v rfl rfl rfl (ov_lss rfl rfl rfl) <| rl_nil <| Run.keep [1, 2, 3, 4, 5, 6, 30] (F' := [(1, _), (2, _), (3, _), (4, _), (5, _), (6, _), (30, _)]) rfl <| run_join1 (fun (x : Int) => [(5, .int .i64 x)]) [1, 2, 3, 4, 6] (fun (x : Int) (w15 : World) => (0 ≤ x ∧ x < 100) ∧ Own B w0 w15 (some (lch b3 24 [iv mem, iv pat, .slice s1 f1.length z1, .slice s2 f2.length z2]) :: k1 :: k2 :: some (lch b2 24 [iv 0, iv 0, .slice none 0 0, .slice none 0 0]) :: some (lch b1 24 [iv m, iv p, .slice a1 n1 c1, .slice a2 n2 c2]) :: H)) (fun hk16 => ?_) ?_
  ·first | refine run_cond_dec rfl (fun h4 => ?_) (fun h4 => ?_) | refine run_cond rfl (fun h4 => ?_) (fun h4 => ?_)
   ·refine run_region <| rl_v rfl rfl rfl (ov_fieldS rfl Try.underlying24 rfl (fo := 2) rfl (by kernel_rfl) rfl) ?_
    refine rl_v rfl rfl rfl (ov_load rfl Try.underlying22 rfl rfl (by exact hOl.cellL 4 rfl (off := 2) rfl)) ?_
    refine rl_v rfl rfl rfl (ov_move rfl rfl) <| rl_v rfl rfl rfl (ov_index1 rfl Try.underlying22 (by kernel_rfl) rfl rfl ⟨by omega, by omega⟩ (by exact (ha1 (by omega)))) ?_
    refine rl_v rfl rfl rfl (ov_load rfl Try.underlying2 rfl rfl (by exact hr1 _ hOl.below i (by omega) (by omega))) ?_
    refine rl_v rfl rfl rfl (ov_conv rfl Try.underlying2 Try.underlying35 rfl) <| rl_v rfl rfl rfl (ov_rem rfl rfl rfl (wrap_u64_nonneg _) (by omega)) ?_
    refine rl_v rfl rfl rfl (ov_conv rfl Try.underlying35 Try.underlying2 rfl) <| rl_v rfl rfl rfl (ov_assign rfl rfl) <| rl_nil ?_
    refine Run.use (hk16 _ _ ?_) (And.intro (by rfl) (And.intro rfl (And.intro rfl (And.intro rfl (And.intro rfl (And.intro rfl trivial))))))
    exact ⟨mod_u _ 100 (by decide), hOl⟩
   ·refine run_skip ?_
    refine Run.use (hk16 _ _ ?_) (And.intro (by rfl) (And.intro rfl (And.intro rfl (And.intro rfl (And.intro rfl (And.intro rfl trivial))))))
    exact ⟨by omega, hOl⟩
  ·intro x w15 hJw15
   obtain ⟨hx, hOx⟩ := hJw15
   show Run _ _ _ _ [(5, _), (1, _), (2, _), (3, _), (4, _), (6, _)] _ _
   refine run_seq <| run_seq <| run_region <| rl_v rfl rfl rfl (ov_move rfl rfl) <| rl_v rfl rfl rfl (ov_fieldS rfl Try.underlying24 rfl (fo := 3) rfl (by kernel_rfl) rfl) ?_
   refine rl_v rfl rfl rfl (ov_load rfl Try.underlying22 rfl rfl (by exact hOx.cellL 4 rfl (off := 3) rfl)) ?_
   refine rl_v rfl rfl rfl (ov_len rfl Try.underlying22 rfl) <| rl_v rfl rfl rfl (ov_lss rfl rfl rfl) <| rl_nil <| Run.keep [1, 2, 3, 4, 5, 6, 43] (F' := [(1, _), (2, _), (3, _), (4, _), (5, _), (6, _), (43, _)]) rfl <| run_join1 (fun (y : Int) => [(6, .int .i64 y)]) [1, 2, 3, 4, 5] (fun (y : Int) (w17 : World) => (0 ≤ y ∧ y < 100) ∧ Own B w0 w17 (some (lch b3 24 [iv mem, iv pat, .slice s1 f1.length z1, .slice s2 f2.length z2]) :: k1 :: k2 :: some (lch b2 24 [iv 0, iv 0, .slice none 0 0, .slice none 0 0]) :: some (lch b1 24 [iv m, iv p, .slice a1 n1 c1, .slice a2 n2 c2]) :: H)) (fun hk18 => ?_) ?_
   ·first | refine run_cond_dec rfl (fun h5 => ?_) (fun h5 => ?_) | refine run_cond rfl (fun h5 => ?_) (fun h5 => ?_)
    ·refine run_region <| rl_v rfl rfl rfl (ov_fieldS rfl Try.underlying24 rfl (fo := 3) rfl (by kernel_rfl) rfl) ?_
     refine rl_v rfl rfl rfl (ov_load rfl Try.underlying22 rfl rfl (by exact hOx.cellL 4 rfl (off := 3) rfl)) ?_
     refine rl_v rfl rfl rfl (ov_move rfl rfl) <| rl_v rfl rfl rfl (ov_index1 rfl Try.underlying22 (by kernel_rfl) rfl rfl ⟨by omega, by omega⟩ (by exact (ha2 (by omega)))) ?_
     refine rl_v rfl rfl rfl (ov_load rfl Try.underlying2 rfl rfl (by exact hr2 _ hOx.below i (by omega) (by omega))) ?_
     refine rl_v rfl rfl rfl (ov_conv rfl Try.underlying2 Try.underlying35 rfl) <| rl_v rfl rfl rfl (ov_rem rfl rfl rfl (wrap_u64_nonneg _) (by omega)) ?_
     refine rl_v rfl rfl rfl (ov_conv rfl Try.underlying35 Try.underlying2 rfl) <| rl_v rfl rfl rfl (ov_assign rfl rfl) <| rl_nil ?_
     refine Run.use (hk18 _ _ ?_) (And.intro (by rfl) (And.intro rfl (And.intro rfl (And.intro rfl (And.intro rfl (And.intro rfl trivial))))))
     exact ⟨mod_u _ 100 (by decide), hOx⟩
    ·refine run_skip ?_
     refine Run.use (hk18 _ _ ?_) (And.intro (by rfl) (And.intro rfl (And.intro rfl (And.intro rfl (And.intro rfl (And.intro rfl trivial))))))
     exact ⟨by omega, hOx⟩
   ·intro y w17 hJw17
    obtain ⟨hy, hOy⟩ := hJw17
    show Run _ _ _ _ [(6, _), (1, _), (2, _), (3, _), (4, _), (5, _)] _ _
    refine run_seq <| run_region <| rl_v rfl rfl rfl (ov_fieldS rfl Try.underlying24 rfl (fo := 2) rfl (by kernel_rfl) rfl) ?_
    refine rl_v rfl rfl rfl (ov_load rfl Try.underlying22 rfl rfl (by exact hOy.cellL 0 rfl (off := 2) rfl)) ?_
    refine rl_v rfl rfl rfl (ov_move rfl rfl) ?_
    refine rl_appI rfl rfl rfl rfl rfl rfl rfl rfl Try.underlying22 info_2 rfl hOy 1 hR1 rfl rfl rfl ⟨by omega, by omega⟩ (fun v56 c56 w19 hO20 hR56 hs21 => ?_)
    obtain ⟨s56, z56, rfl⟩ := hR56.val
    refine rl_v rfl rfl rfl (ov_fieldS rfl Try.underlying24 rfl (fo := 2) rfl (by kernel_rfl) rfl) ?_
    refine rl_ow rfl (ow_storeL rfl rfl (by kernel_rfl) hO20 0 rfl rfl rfl rfl rfl) ?_
    rintro _ w22 ⟨rfl, hO23, hs24⟩
    refine rl_nil <| run_region <| rl_v rfl rfl rfl (ov_fieldS rfl Try.underlying24 rfl (fo := 3) rfl (by kernel_rfl) rfl) ?_
    refine rl_v rfl rfl rfl (ov_load rfl Try.underlying22 rfl rfl (by exact hO23.cellL 0 rfl (off := 3) rfl)) ?_
    refine rl_v rfl rfl rfl (ov_move rfl rfl) ?_
    refine rl_appI rfl rfl rfl rfl rfl rfl rfl rfl Try.underlying22 info_2 rfl hO23 2 hR2 rfl rfl rfl ⟨by omega, by omega⟩ (fun v62 c62 w25 hO26 hR62 hs27 => ?_)
    obtain ⟨s62, z62, rfl⟩ := hR62.val
    refine rl_v rfl rfl rfl (ov_fieldS rfl Try.underlying24 rfl (fo := 3) rfl (by kernel_rfl) rfl) ?_
    refine rl_ow rfl (ow_storeL rfl rfl (by kernel_rfl) hO26 0 rfl rfl rfl rfl rfl) ?_
    rintro _ w28 ⟨rfl, hO29, hs30⟩
    refine rl_nil <| run_inBlock <| run_region <| rl_v rfl rfl rfl (ov_move rfl rfl) <| rl_v rfl rfl rfl (ov_add rfl rfl rfl (by omega)) ?_
    refine rl_v rfl rfl rfl (ov_assign rfl rfl) <| rl_nil ?_
    refine Run.use (ih14 (i + 1) (⟨f1 ++ [x], f2 ++ [y], .slice s56 (f1.length + 1) z56, .slice s62 (f2.length + 1) z62, c56, c62⟩) _ ?_ ?_) (And.intro (by exact slot_int rfl (by first | omega)) (And.intro rfl (And.intro rfl (And.intro rfl trivial))))
    ·first | omega | (dsimp only; omega)
    ·exact ⟨by omega, by omega, by simp; omega, by simp; omega, snoc_rng hf1 hx, snoc_rng hf2 hy, snoc_row hR56, snoc_row hR62, by simpa using hO29⟩
 ·refine run_exit rfl <| run_seq <| run_region <| rl_v rfl rfl rfl (ov_loadW rfl Try.underlying24 rfl (by kernel_rfl) rfl hOl 0 rfl) ?_
  refine rl_ow rfl (ow_storeW rfl rfl (by kernel_rfl) hOl 3 rfl rfl (by rfl) rfl (by rfl)) ?_
  rintro _ w31 ⟨rfl, hO32, hs33⟩
  refine rl_nil <| run_ret Try.func13 (resW Try.results13 rfl Try.underlying24 rfl (by kernel_rfl) hO32 3 rfl) ?_
  exact ⟨mem, pat, f1, f2, _, _, k1, k2, rfl, by omega, by omega, hR1, hR2, ⟨by omega, by omega⟩, hf1, hf2, hO32.sub (.cons _ (.cons_cons _ (.cons_cons _ (.cons _ (.cons _ (.refl _))))))⟩
theorem give_any (m p : Int) (a1 a2 : Option Addr) (n1 n2 c1 c2 : Nat) (B : Nat) (H : List (Option Blk)) (w0 w : World) (hO : Own B w0 w H) :
  Calls Try.prog 15 #[.agg #[iv m, iv p, .slice a1 n1 c1, .slice a2 n2 c2]] w fun e w' => e = .returned (.agg #[iv m, iv p, .slice a1 n1 c1, .slice a2 n2 c2]) ∧ Own B w0 w' H := by
 refine calls_of_run (F := [(0, _)]) Try.func15 rfl Try.ntmps15 rfl rfl <| run_seq <| run_region <| rl_ow rfl (ow_box _ rfl rfl rfl rfl rfl hO) ?_
 rintro _ w1 ⟨b1, rfl, hO2, hs3⟩
 refine rl_ow rfl (ow_alloc _ rfl rfl rfl zero_31 rfl hO2) ?_
 rintro _ w4 ⟨b2, rfl, hO5, hs6⟩
 refine rl_nil <| run_seq <| run_region <| rl_v rfl rfl rfl (ov_fieldS rfl Try.underlying24 rfl (fo := 0) rfl (by kernel_rfl) rfl) ?_
 refine rl_v rfl rfl rfl (ov_load rfl Try.underlying3 rfl rfl (by exact hO5.cellL 1 rfl (off := 0) rfl)) ?_
 refine rl_v rfl rfl rfl (ov_fieldS rfl Try.underlying24 rfl (fo := 1) rfl (by kernel_rfl) rfl) ?_
 refine rl_v rfl rfl rfl (ov_load rfl Try.underlying3 rfl rfl (by exact hO5.cellL 1 rfl (off := 1) rfl)) ?_
 refine rl_v rfl rfl rfl (ov_fieldS rfl Try.underlying24 rfl (fo := 2) rfl (by kernel_rfl) rfl) ?_
 refine rl_v rfl rfl rfl (ov_load rfl Try.underlying22 rfl rfl (by exact hO5.cellL 1 rfl (off := 2) rfl)) ?_
 refine rl_v rfl rfl rfl (ov_fieldS rfl Try.underlying24 rfl (fo := 3) rfl (by kernel_rfl) rfl) ?_
 refine rl_v rfl rfl rfl (ov_load rfl Try.underlying22 rfl rfl (by exact hO5.cellL 1 rfl (off := 3) rfl)) ?_
 refine rl_v rfl rfl rfl (ov_buildL rfl lay_31 rfl (us := [_, _, _, _]) rfl) <| rl_ow rfl (ow_storeW rfl rfl (by kernel_rfl) hO5 0 rfl rfl (by rfl) rfl (by rfl)) ?_
 rintro _ w7 ⟨rfl, hO8, hs9⟩
 refine rl_nil <| run_ret Try.func15 (resW Try.results15 rfl Try.underlying31 rfl (by kernel_rfl) hO8 0 rfl) ?_
 exact ⟨rfl, hO8.tail.tail⟩
theorem longs_any (a1 a2 : Option Addr) (n1 n2 c1 c2 _ _ B : Nat) (G1 G2 : Int → Int) (H : List (Option Blk)) (w0 w : World) (hO : Own B w0 w H) (h1 : SrcI H a1 n1 G1) (h2 : SrcI H a2 n2 G2) (hn : n1 ≤ 4000000000000) :
  Calls Try.prog 25 #[.slice a1 n1 c1, .slice a2 n2 c2] w fun e w' => ∃ b : Bool, e = .returned (.bool b) ∧ (b = true ↔ n1 = n2 ∧ ∀ i : Int, 0 ≤ i → i < n1 → G1 i = G2 i) ∧ Own B w0 w' H := by
 refine calls_of_run (F := [(0, _), (1, _)]) Try.func25 rfl Try.ntmps25 rfl rfl ?_
 have hO0 := Own.init w
 refine run_seq <| run_region <| rl_v rfl rfl rfl (ov_assign rfl rfl) <| rl_nil <| run_seq <| run_seq <| run_region <| rl_v rfl rfl rfl (ov_move rfl rfl) <| rl_v rfl rfl rfl (ov_len rfl Try.underlying22 rfl) <| rl_v rfl rfl rfl (ov_move rfl rfl) <| rl_v rfl rfl rfl (ov_len rfl Try.underlying22 rfl) <| rl_v rfl rfl rfl (ov_neq rfl rfl rfl) <| rl_nil ?_
 first | refine run_cond_dec rfl (fun e1 => ?_) (fun e2 => ?_) | refine run_cond rfl (fun e1 => ?_) (fun e2 => ?_)
 ·refine run_seq <| run_region <| rl_v rfl rfl rfl (ov_assign rfl rfl) <| rl_nil <| run_ret Try.func25 (res1 Try.results25 rfl) ?_
  exact ⟨false, rfl, ⟨fun h => Bool.noConfusion h, fun h => by omega⟩, hO⟩
 ·obtain rfl : n1 = n2 := by omega
  refine run_skip <| run_seq <| run_seq <| run_region <| rl_v rfl rfl rfl (ov_assign rfl rfl) <| rl_nil <| run_block <| Run.keep [0, 1, 5] (F' := [(0, _), (1, _), (5, _)]) rfl <| run_loop1 (fun (i : Int) => [(5, .int .i64 i)]) [0, 1] (fun (i : Int) (w1 : World) => 0 ≤ i ∧ i ≤ n1 ∧ (∀ j : Int, 0 ≤ j → j < i → G1 j = G2 j) ∧ Own B w0 w1 H) (fun (i : Int) => ((n1 : Int) - i).toNat) (0) ?_ (And.intro (by exact slot_int rfl (by first | omega)) (And.intro rfl (And.intro rfl trivial))) ?_
  ·exact ⟨by omega, by omega, fun j h0 h1 => by omega, hO⟩
  intro i w1 hIw1 ih2
  obtain ⟨hi0, hi1, hall, hOw⟩ := hIw1
  show Run _ _ _ _ [(5, _), (0, _), (1, _)] _ _
  refine run_seq <| run_seq <| run_region <| rl_v rfl rfl rfl (ov_move rfl rfl) <| rl_v rfl rfl rfl (ov_move rfl rfl) <| rl_v rfl rfl rfl (ov_len rfl Try.underlying22 rfl) <| rl_v rfl rfl rfl (ov_lss rfl rfl rfl) <| rl_nil ?_
  first | refine run_cond_dec rfl (fun hlt => ?_) (fun hlt => ?_) | refine run_cond rfl (fun hlt => ?_) (fun hlt => ?_)
  ·obtain ⟨g1, o1, ha1, hr1⟩ := (h1 B w0 w1 hOw).open
   obtain ⟨g2, o2, ha2, hr2⟩ := (h2 B w0 w1 hOw).open
   refine run_skip <| run_seq <| run_block <| run_seq <| run_quiet mixed (by kernel_rfl) ?_
   refine rq_v rfl rfl rfl (fun _ => ov_move rfl rfl) ?_
   refine rq_v rfl rfl rfl (fun _ => ov_move rfl rfl) ?_
   refine rq_v rfl rfl rfl (fun _ => ov_index1 rfl Try.underlying22 (by kernel_rfl) rfl rfl ⟨by omega, by omega⟩ (by exact (ha1 (by omega)))) ?_
   refine rq_v rfl rfl rfl (fun _ => ov_load rfl Try.underlying2 rfl rfl (by show World.cell? w1 _ = _; first | exact hr1 _ (Below.refl _ _) i (by omega) (by omega))) ?_
   refine rq_v rfl rfl rfl (fun _ => ov_move rfl rfl) ?_
   refine rq_v rfl rfl rfl (fun _ => ov_move rfl rfl) ?_
   refine rq_v rfl rfl rfl (fun _ => ov_index1 rfl Try.underlying22 (by kernel_rfl) rfl rfl ⟨by omega, by omega⟩ (by exact (ha2 (by omega)))) ?_
   refine rq_v rfl rfl rfl (fun _ => ov_load rfl Try.underlying2 rfl rfl (by show World.cell? w1 _ = _; first | exact hr2 _ (Below.refl _ _) i (by omega) (by omega))) ?_
   refine rq_v rfl rfl rfl (fun _ => ov_neq rfl rfl rfl) ?_
   refine rq_nil (fun n3 => ?_)
   have hO5 := hOw.drewN n3
   generalize World.drewN w1 n3 = w4 at hO5 ⊢
   first | refine run_cond_dec rfl (fun d1 => ?_) (fun d2 => ?_) | refine run_cond rfl (fun d1 => ?_) (fun d2 => ?_)
   ·refine run_seq <| run_region <| rl_v rfl rfl rfl (ov_assign rfl rfl) <| rl_nil <| run_ret Try.func25 (res1 Try.results25 rfl) ?_
    exact ⟨false, rfl, ⟨fun h => Bool.noConfusion h, fun h => absurd (h.2 i hi0 hlt) d1⟩, hO5⟩
   ·refine run_skip <| run_inBlock <| run_region <| rl_v rfl rfl rfl (ov_move rfl rfl) <| rl_v rfl rfl rfl (ov_add rfl rfl rfl (by omega)) ?_
    refine rl_v rfl rfl rfl (ov_assign rfl rfl) <| rl_nil ?_
    refine Run.use (ih2 _ _ ?_ ?_) (And.intro (by rfl) (And.intro rfl (And.intro rfl trivial)))
    ·first | omega | (dsimp only; omega)
    ·exact ⟨by omega, by omega, fun j h0 h1' => (by omega : j = i ∨ j < i).elim (fun e => by rw [e]; omega) (fun e => hall j h0 e), hO5⟩
  ·refine run_exit rfl <| run_seq <| run_region <| rl_v rfl rfl rfl (ov_assign rfl rfl) <| rl_nil <| run_ret Try.func25 (res1 Try.results25 rfl) ?_
   exact ⟨true, rfl, ⟨fun _ => ⟨rfl, fun j h0 h1' => hall j h0 (by omega)⟩, fun _ => rfl⟩, hOw⟩
end Go.Proofs.Yteagflekbbchhaa
