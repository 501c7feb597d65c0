import Derived.Test.YtfbbagnpdfafjaaHaW
set_option maxRecDepth 100000
namespace Go.Proofs.Ytfbbagnpdfafjaa
open Go.RowKit Go.Proofs
theorem Row.valC {v : Value} {E : TypeId} {sz n : Nat} {f : Nat → Value} {c : Option Blk} (h : Row v E sz n f c) : ∃ ao cap, v = .slice ao n cap ∧ n ≤ cap := by
 rcases h with ⟨rfl, rfl, _⟩ | ⟨b, cap, g, rfl, h2, _⟩
 ·exact ⟨_, _, rfl, Nat.le_refl _⟩
 ·exact ⟨_, _, rfl, h2⟩
theorem OTab.tsrc {ao : Option Addr} {m cap : Nat} {T1 T2 : TypeId} {n : Nat} {L : Int → Nat} {F : Int → Int → Int} {H : List (Option Blk)} (h : OTab (.slice ao m cap) T1 T2 n L (fun r c => iv (F r c)) H) : TSrc H ao n L F := by
 obtain ⟨c, rv, ch, rfl, h2, h3⟩ := h
 have hv : ∀ r : Int, ∃ p : Option Addr × Nat, 0 ≤ r → r < n → rv r = .slice p.1 (L r) p.2 ∧ L r ≤ p.2 := fun r => by
  by_cases hr : 0 ≤ r ∧ r < n
  ·obtain ⟨q, rfl⟩ := Int.eq_ofNat_of_zero_le hr.1
   obtain ⟨x, y, e⟩ := Row.valC (h3 q (by omega))
   exact ⟨(x, y), fun _ _ => e⟩
  ·exact ⟨(none, 0), fun a b => absurd ⟨a, b⟩ hr⟩
 have hAC : ∀ r : Int, 0 ≤ r → r < n → rv r = .slice (Classical.choose (hv r)).1 (L r) (Classical.choose (hv r)).2 := fun r h0 hr => (Classical.choose_spec (hv r) h0 hr).1
 refine ⟨fun r => (Classical.choose (hv r)).1, fun r => (Classical.choose (hv r)).2, fun B w0 w ho => (h2.reads ho 0 rfl).congr hAC, fun r h0 hr B w0 w ho => ?_, fun r h0 hr => (Classical.choose_spec (hv r) h0 hr).2⟩
 obtain ⟨q, rfl⟩ := Int.eq_ofNat_of_zero_le h0
 have hk : (c :: (List.range n).map ch)[q + 1]? = some (ch q) := by
  have : q < n := by omega
  simp [this]
 have h3' := h3 q (by omega)
 rw [hAC q h0 hr] at h3'
 exact h3'.reads ho (q + 1) hk
def sml (n most : Int) : Int := n % 18446744073709551616 % (most + 1)
theorem sml_rng (n : Int) {most : Int} (h : 0 ≤ most) : 0 ≤ sml n most ∧ sml n most ≤ most := by
 unfold sml
 have h1 := Int.emod_nonneg (n % 18446744073709551616) (show most + 1 ≠ 0 by omega)
 have h2 := Int.emod_lt_of_pos (n % 18446744073709551616) (show 0 < most + 1 by omega)
 omega
theorem small_any (n most : Int) (B : Nat) (H : List (Option Blk)) (w0 w : World) (hO : Own B w0 w H) (hm : 0 ≤ most ∧ most ≤ 1000000) :
  Calls Try.prog 19 #[iv n, iv most] w fun e w' => e = .returned (iv (sml n most)) ∧ Own B w0 w' H := by
 have hr := sml_rng n hm.1
 have h0 : 0 ≤ n % 18446744073709551616 := Int.emod_nonneg _ (by decide)
 refine calls_of_run (F := [(0, _), (1, _)]) Try.func19 rfl Try.ntmps19 rfl rfl <| run_seq <| run_region <| rl_v rfl rfl rfl (ov_assign rfl rfl) <| rl_nil <| run_seq <| run_region <| rl_v rfl rfl rfl (ov_move rfl rfl) <| rl_v rfl rfl rfl (nv (ov_conv rfl Try.underlying2 Try.underlying90 rfl) (IntKind.wrap_u64 n)) <| rl_v rfl rfl rfl (ov_move rfl rfl) <| rl_v rfl rfl rfl (ov_add rfl rfl rfl (by omega)) ?_
 refine rl_v rfl rfl rfl (nv (ov_conv rfl Try.underlying2 Try.underlying90 rfl) ((IntKind.wrap_u64 (most + 1)).trans (Int.emod_eq_of_lt (by omega) (by omega)))) ?_
 refine rl_v rfl rfl rfl (ov_rem rfl rfl rfl h0 (by omega)) ?_
 refine rl_v rfl rfl rfl (nv (ov_conv rfl Try.underlying90 Try.underlying2 rfl) (IntWalk.i64_in _ (by show _ ≤ sml n most ∧ sml n most ≤ _; omega))) ?_
 refine rl_v rfl rfl rfl (ov_assign rfl rfl) <| rl_nil <| run_ret Try.func19 (res1 Try.results19 rfl) ?_
 exact ⟨rfl, hO⟩
theorem mods {x m : Int} (hm : 0 < m ∧ m ≤ 1000) : IntKind.i64.wrap (IntKind.u64.wrap x % m) = x % 18446744073709551616 % m ∧ 0 ≤ x % 18446744073709551616 % m ∧ x % 18446744073709551616 % m < m := by
 rw [IntKind.wrap_u64]
 have h1 := Int.emod_nonneg (x % 18446744073709551616) (show m ≠ 0 by omega)
 have h2 := Int.emod_lt_of_pos (x % 18446744073709551616) hm.1
 exact ⟨IntWalk.i64_in _ (by omega), h1, h2⟩
theorem u64_nn (x : Int) : 0 ≤ IntKind.u64.wrap x := by rw [IntKind.wrap_u64]; exact Int.emod_nonneg _ (by decide)
theorem tmod300 (x : Int) : (x.tmod 300).natAbs < 300 := by
 have := Int.natAbs_tmod x 300
 rw [this]
 exact Nat.mod_lt _ (by decide)
structure TameC (N : List (Option Blk)) (mem mon : Int) (pa ma : Option Addr) (pc k mc : Nat) (P : Int → Int) (F : Int → Int → Int) (rate cap : Int) : Prop where
 hmem : 2 ≤ mem ∧ mem ≤ 5
 hmon : 1 ≤ mon ∧ mon ≤ 3
 hk : k ≤ 5
 hrate : 0 ≤ rate ∧ rate ≤ 1000
 hcap : 0 ≤ cap ∧ cap ≤ 1000
 hP : ∀ m : Int, 0 ≤ m → m < mon → 1 ≤ P m ∧ P m ≤ 200
 hF : ∀ i : Int, 0 ≤ i → i < k → ∀ m : Int, 0 ≤ m → m < mon → (F i m).natAbs < 300
 ps : SrcI N pa mon.toNat P
 ms : TSrc N ma k (fun _ => mon.toNat) F
 hpc : mon.toNat ≤ pc
 hmc : k ≤ mc
theorem perm_pick2 {a b c : Option Blk} {M T : List (Option Blk)} : (a :: (M ++ (c :: b :: T))).Perm (b :: a :: (M ++ (c :: T))) := by
 have h := List.perm_middle (a := b) (l₁ := M ++ [c]) (l₂ := T)
 rw [List.append_assoc, List.append_assoc] at h
 exact (List.Perm.cons a h).trans (List.Perm.swap _ _ _)
theorem tame_any (mm mn : Int) (pa ma : Option Addr) (pn pc mk mc : Nat) (rt cp : Int) (P0 : Int → Int) (L0 : Int → Nat) (F0 : Int → Int → Int) (B : Nat) (H : List (Option Blk)) (w0 w : World) (hO : Own B w0 w H) (hP : IAt B w0 pa pn (fun i => iv (P0 i))) (hT : ITab B w0 ma mk L0 (fun r c => iv (F0 r c))) :
  Calls Try.prog 15 #[.agg (cfL mm mn pa pn pc ma mk mc rt cp).toArray] w fun e w' => ∃ mem mon pa' ma' pc' k mc' P F rate cap N, e = .returned (.agg (cfL mem mon pa' mon.toNat pc' ma' k mc' rate cap).toArray) ∧ TameC N mem mon pa' ma' pc' k mc' P F rate cap ∧ Own B w0 w' (N ++ H) := by
 obtain ⟨gb, go, hga, hrow⟩ := hP.open
 obtain ⟨A, C, RB, RO, tb, to, hta, htr, hra, hel, _⟩ := hT.open
 obtain ⟨em, m0, m1⟩ := mods (x := mm) (m := 4) (by decide)
 obtain ⟨en, n0, n1⟩ := mods (x := mn) (m := 3) (by decide)
 have hr1 := sml_rng rt (show (0 : Int) ≤ 1000 by decide)
 have hr2 := sml_rng cp (show (0 : Int) ≤ 1000 by decide)
 refine calls_of_run (F := [(0, _)]) Try.func15 rfl Try.ntmps15 rfl rfl <| run_seq <| run_region <| rl_ow rfl (ow_box _ rfl rfl rfl rfl rfl hO) ?_
 rintro _ w1 ⟨b1, rfl, hO2, hs3⟩
 refine rl_ow rfl (ow_alloc _ rfl rfl rfl zero_25 rfl hO2) ?_
 rintro _ w4 ⟨b2, rfl, hO5, hs6⟩
 obtain ⟨mem, hmem⟩ : ∃ mem : Int, mem = 2 + mm % 18446744073709551616 % 4 := ⟨_, rfl⟩
 obtain ⟨mon, hmon⟩ : ∃ mon : Int, mon = 1 + mn % 18446744073709551616 % 3 := ⟨_, rfl⟩
 refine rl_nil <| run_seq <| Run.keep [1, 2] (F' := [(1, _), (2, _)]) rfl <| run_join1 (fun (b3 : Nat) => [(3, ptr b3)]) [1, 2] (fun (b3 : Nat) (w7 : World) => Own B w0 w7 (some (lch b3 25 (cfL mem mon none 0 0 none 0 0 (sml rt 1000) (sml cp 1000))) :: some (lch b2 25 (cfL 0 0 none 0 0 none 0 0 0 0)) :: some (lch b1 25 (cfL mm mn pa pn pc ma mk mc rt cp)) :: H)) (fun hk8 => ?_) ?_
 ·refine run_held (fun w' => Own B w0 w' ([some (lch b1 25 (cfL mm mn pa pn pc ma mk mc rt cp))])) mixed ?_
  have hO10 := hO5.drew
  generalize World.drew w4 = w9 at hO10 ⊢
  have hS11 : Own B w0 w9 ([some (lch b1 25 (cfL mm mn pa pn pc ma mk mc rt cp))]) := by first | exact hO10.sub (.cons _ (.cons_cons _ (List.nil_sublist _))) | exact hO10.sub (.cons _ (.cons _ (.cons_cons _ (List.nil_sublist _))))
  refine rh_v 0 rfl (by kernel_rfl) rfl rfl rfl hS11 (fun _ hS => ov_fieldS rfl Try.underlying25 rfl (fo := 0) rfl (by kernel_rfl) rfl) ?_
  refine rh_v 1 rfl (by kernel_rfl) rfl rfl rfl hS11 (fun _ hS => ov_load rfl Try.underlying3 rfl rfl (by exact (show _ = some (iv mm) from hS.cellL 0 rfl (off := 0) rfl))) ?_
  refine rh_v 2 rfl (by kernel_rfl) rfl rfl rfl hS11 (fun _ hS => ov_conv rfl Try.underlying3 Try.underlying42 rfl) ?_
  refine rh_v 3 rfl (by kernel_rfl) rfl rfl rfl hS11 (fun _ hS => ov_rem rfl rfl rfl (u64_nn _) (by omega)) ?_
  refine rh_v 4 rfl (by kernel_rfl) rfl rfl rfl hS11 (fun _ hS => nv (ov_conv rfl Try.underlying42 Try.underlying3 rfl) em) ?_
  refine rh_v 5 rfl (by kernel_rfl) rfl rfl rfl hS11 (fun _ hS => nv (ov_add rfl rfl rfl (by omega)) hmem.symm) ?_
  refine rh_v 6 rfl (by kernel_rfl) rfl rfl rfl hS11 (fun _ hS => ov_fieldS rfl Try.underlying25 rfl (fo := 1) rfl (by kernel_rfl) rfl) ?_
  refine rh_v 7 rfl (by kernel_rfl) rfl rfl rfl hS11 (fun _ hS => ov_load rfl Try.underlying3 rfl rfl (by exact (show _ = some (iv mn) from hS.cellL 0 rfl (off := 1) rfl))) ?_
  refine rh_v 8 rfl (by kernel_rfl) rfl rfl rfl hS11 (fun _ hS => ov_conv rfl Try.underlying3 Try.underlying42 rfl) ?_
  refine rh_v 9 rfl (by kernel_rfl) rfl rfl rfl hS11 (fun _ hS => ov_rem rfl rfl rfl (u64_nn _) (by omega)) ?_
  refine rh_v 10 rfl (by kernel_rfl) rfl rfl rfl hS11 (fun _ hS => nv (ov_conv rfl Try.underlying42 Try.underlying3 rfl) en) ?_
  refine rh_v 11 rfl (by kernel_rfl) rfl rfl rfl hS11 (fun _ hS => nv (ov_add rfl rfl rfl (by omega)) hmon.symm) ?_
  refine rh_v 12 rfl (by kernel_rfl) rfl rfl rfl hS11 (fun _ hS => ov_fieldS rfl Try.underlying25 rfl (fo := 4) rfl (by kernel_rfl) rfl) ?_
  refine rh_v 13 rfl (by kernel_rfl) rfl rfl rfl hS11 (fun _ hS => ov_load rfl Try.underlying2 rfl rfl (by exact (show _ = some (iv rt) from hS.cellL 0 rfl (off := 4) rfl))) ?_
  refine rh_v 15 rfl (by kernel_rfl) rfl rfl rfl hS11 (fun _ hS => ov_fieldS rfl Try.underlying25 rfl (fo := 5) rfl (by kernel_rfl) rfl) ?_
  refine rh_v 16 rfl (by kernel_rfl) rfl rfl rfl hS11 (fun _ hS => ov_load rfl Try.underlying2 rfl rfl (by exact (show _ = some (iv cp) from hS.cellL 0 rfl (off := 5) rfl))) ?_
  refine rh_any2 14 19 (by kernel_rfl) ?_ ?_
  ·refine rc_op rfl rfl (ow_call2 callable_19 rfl rfl rfl rfl rfl (small_any rt 1000 B _ w0 w9 hO10 (by omega)) (by intro e w' hp; obtain ⟨rfl, hOs⟩ := hp; exact ⟨_, rfl⟩)) ?_
   rintro _ w14 ⟨_, v12, he15, rfl, hp13⟩
   obtain ⟨rfl, hOs⟩ := hp13
   injection he15 with he15; subst he15
   have hS16 : Own B w0 w14 ([some (lch b1 25 (cfL mm mn pa pn pc ma mk mc rt cp))]) := by first | exact hOs.sub (.cons _ (.cons_cons _ (List.nil_sublist _))) | exact hOs.sub (.cons _ (.cons _ (.cons_cons _ (List.nil_sublist _))))
   refine ⟨hS16, ?_⟩
   refine rh_any2 17 19 (by kernel_rfl) ?_ ?_
   ·refine rc_op rfl rfl (ow_call2 callable_19 rfl rfl rfl rfl rfl (small_any cp 1000 B _ w0 w14 hOs (by omega)) (by intro e w' hp; obtain ⟨rfl, hOs⟩ := hp; exact ⟨_, rfl⟩)) ?_
    rintro _ w19 ⟨_, v17, he20, rfl, hp18⟩
    obtain ⟨rfl, hOs⟩ := hp18
    injection he20 with he20; subst he20
    have hS21 : Own B w0 w19 ([some (lch b1 25 (cfL mm mn pa pn pc ma mk mc rt cp))]) := by first | exact hOs.sub (.cons _ (.cons_cons _ (List.nil_sublist _))) | exact hOs.sub (.cons _ (.cons _ (.cons_cons _ (List.nil_sublist _))))
    refine ⟨hS21, ?_⟩
    refine rh_v 18 rfl (by kernel_rfl) rfl rfl rfl hS21 (fun _ hS => ov_buildL rfl lay_25 rfl (us := [_, _, _, _, _, _]) rfl) ?_
    refine rh_any1 19 (by kernel_rfl) ?_
    refine rc_op rfl rfl (ow_alloc _ rfl rfl rfl zero_25 rfl hOs) ?_
    rintro _ w22 ⟨b3, rfl, hO23, hs24⟩
    have hS25 : Own B w0 w22 ([some (lch b1 25 (cfL mm mn pa pn pc ma mk mc rt cp))]) := by first | exact hO23.sub (.cons _ (.cons_cons _ (List.nil_sublist _))) | exact hO23.sub (.cons _ (.cons _ (.cons_cons _ (List.nil_sublist _))))
    refine ⟨hS25, ?_⟩
    refine rh_any1 20 (by kernel_rfl) ?_
    refine rc_op rfl rfl (ow_storeW rfl rfl (by kernel_rfl) hO23 0 rfl rfl (by rfl) rfl (by rfl)) ?_
    rintro _ w26 ⟨rfl, hO27, hs28⟩
    have hS29 : Own B w0 w26 ([some (lch b1 25 (cfL mm mn pa pn pc ma mk mc rt cp))]) := by first | exact hO27.sub (.cons _ (.cons_cons _ (List.nil_sublist _))) | exact hO27.sub (.cons _ (.cons _ (.cons_cons _ (List.nil_sublist _))))
    refine ⟨hS29, ?_⟩
    refine rh_done (by kernel_rfl) ?_
    refine Run.use (hk8 (b3) _ ?_) (And.intro rfl (And.intro rfl (And.intro rfl trivial)))
    exact hO27
   ·refine rc_op rfl rfl (ow_alloc _ rfl rfl rfl zero_25 rfl hOs) ?_
    rintro _ w30 ⟨b3, rfl, hO31, hs32⟩
    have hS33 : Own B w0 w30 ([some (lch b1 25 (cfL mm mn pa pn pc ma mk mc rt cp))]) := by first | exact hO31.sub (.cons _ (.cons_cons _ (List.nil_sublist _))) | exact hO31.sub (.cons _ (.cons _ (.cons_cons _ (List.nil_sublist _))))
    refine ⟨hS33, ?_⟩
    refine rh_any1 17 (by kernel_rfl) ?_
    refine rc_op rfl rfl (ow_call2 callable_19 rfl rfl rfl rfl rfl (small_any cp 1000 B _ w0 w30 hO31 (by omega)) (by intro e w' hp; obtain ⟨rfl, hOs⟩ := hp; exact ⟨_, rfl⟩)) ?_
    rintro _ w36 ⟨_, v34, he37, rfl, hp35⟩
    obtain ⟨rfl, hOs⟩ := hp35
    injection he37 with he37; subst he37
    have hS38 : Own B w0 w36 ([some (lch b1 25 (cfL mm mn pa pn pc ma mk mc rt cp))]) := by first | exact hOs.sub (.cons _ (.cons_cons _ (List.nil_sublist _))) | exact hOs.sub (.cons _ (.cons _ (.cons_cons _ (List.nil_sublist _))))
    refine ⟨hS38, ?_⟩
    refine rh_v 18 rfl (by kernel_rfl) rfl rfl rfl hS38 (fun _ hS => ov_buildL rfl lay_25 rfl (us := [_, _, _, _, _, _]) rfl) ?_
    refine rh_any1 20 (by kernel_rfl) ?_
    refine rc_op rfl rfl (ow_storeW rfl rfl (by kernel_rfl) hOs 0 rfl rfl (by rfl) rfl (by rfl)) ?_
    rintro _ w39 ⟨rfl, hO40, hs41⟩
    have hS42 : Own B w0 w39 ([some (lch b1 25 (cfL mm mn pa pn pc ma mk mc rt cp))]) := by first | exact hO40.sub (.cons _ (.cons_cons _ (List.nil_sublist _))) | exact hO40.sub (.cons _ (.cons _ (.cons_cons _ (List.nil_sublist _))))
    refine ⟨hS42, ?_⟩
    refine rh_done (by kernel_rfl) ?_
    refine Run.use (hk8 (b3) _ ?_) (And.intro rfl (And.intro rfl (And.intro rfl trivial)))
    exact hO40
  ·refine rc_op rfl rfl (ow_alloc _ rfl rfl rfl zero_25 rfl hO10) ?_
   rintro _ w43 ⟨b3, rfl, hO44, hs45⟩
   have hS46 : Own B w0 w43 ([some (lch b1 25 (cfL mm mn pa pn pc ma mk mc rt cp))]) := by first | exact hO44.sub (.cons _ (.cons_cons _ (List.nil_sublist _))) | exact hO44.sub (.cons _ (.cons _ (.cons_cons _ (List.nil_sublist _))))
   refine ⟨hS46, ?_⟩
   refine rh_any1 14 (by kernel_rfl) ?_
   refine rc_op rfl rfl (ow_call2 callable_19 rfl rfl rfl rfl rfl (small_any rt 1000 B _ w0 w43 hO44 (by omega)) (by intro e w' hp; obtain ⟨rfl, hOs⟩ := hp; exact ⟨_, rfl⟩)) ?_
   rintro _ w49 ⟨_, v47, he50, rfl, hp48⟩
   obtain ⟨rfl, hOs⟩ := hp48
   injection he50 with he50; subst he50
   have hS51 : Own B w0 w49 ([some (lch b1 25 (cfL mm mn pa pn pc ma mk mc rt cp))]) := by first | exact hOs.sub (.cons _ (.cons_cons _ (List.nil_sublist _))) | exact hOs.sub (.cons _ (.cons _ (.cons_cons _ (List.nil_sublist _))))
   refine ⟨hS51, ?_⟩
   refine rh_any1 17 (by kernel_rfl) ?_
   refine rc_op rfl rfl (ow_call2 callable_19 rfl rfl rfl rfl rfl (small_any cp 1000 B _ w0 w49 hOs (by omega)) (by intro e w' hp; obtain ⟨rfl, hOs⟩ := hp; exact ⟨_, rfl⟩)) ?_
   rintro _ w54 ⟨_, v52, he55, rfl, hp53⟩
   obtain ⟨rfl, hOs⟩ := hp53
   injection he55 with he55; subst he55
   have hS56 : Own B w0 w54 ([some (lch b1 25 (cfL mm mn pa pn pc ma mk mc rt cp))]) := by first | exact hOs.sub (.cons _ (.cons_cons _ (List.nil_sublist _))) | exact hOs.sub (.cons _ (.cons _ (.cons_cons _ (List.nil_sublist _))))
   refine ⟨hS56, ?_⟩
   refine rh_v 18 rfl (by kernel_rfl) rfl rfl rfl hS56 (fun _ hS => ov_buildL rfl lay_25 rfl (us := [_, _, _, _, _, _]) rfl) ?_
   refine rh_any1 20 (by kernel_rfl) ?_
   refine rc_op rfl rfl (ow_storeW rfl rfl (by kernel_rfl) hOs 0 rfl rfl (by rfl) rfl (by rfl)) ?_
   rintro _ w57 ⟨rfl, hO58, hs59⟩
   have hS60 : Own B w0 w57 ([some (lch b1 25 (cfL mm mn pa pn pc ma mk mc rt cp))]) := by first | exact hO58.sub (.cons _ (.cons_cons _ (List.nil_sublist _))) | exact hO58.sub (.cons _ (.cons _ (.cons_cons _ (List.nil_sublist _))))
   refine ⟨hS60, ?_⟩
   refine rh_done (by kernel_rfl) ?_
   refine Run.use (hk8 (b3) _ ?_) (And.intro rfl (And.intro rfl (And.intro rfl trivial)))
   exact hO58
 ·intro b3 w7 hJw7
  have hOj := hJw7
  show Run _ _ _ _ [(3, _), (1, _), (2, _)] _ _
  have hmemr : 2 ≤ mem ∧ mem ≤ 5 := by omega
  have hmonr : 1 ≤ mon ∧ mon ≤ 3 := by omega
  have hmonN : ((mon.toNat : Nat) : Int) = mon := Int.toNat_of_nonneg (by omega)
  refine run_seq <| run_seq <| run_region <| rl_v rfl rfl rfl (ov_assign rfl rfl) <| rl_nil <| run_block <| Run.keep [1, 2, 3, 4] (F' := [(1, _), (2, _), (3, _), (4, _)]) rfl <| run_loop2 (fun (m : Int) (n : Nat) => [(4, .int .i64 m)]) [1, 2, 3] (fun (m : Int) (n : Nat) (w61 : World) => m = n ∧ (n : Int) ≤ mon ∧ ∃ (a : Option Addr) (cp2 : Nat) (c : Option Blk) (P : Int → Int), IRow (.slice a n cp2) 2 n (fun i => iv (P i)) c ∧ n ≤ cp2 ∧ (∀ i : Int, 0 ≤ i → i < n → 1 ≤ P i ∧ P i ≤ 200) ∧ Own B w0 w61 (some (lch b3 25 (cfL mem mon a n cp2 none 0 0 (sml rt 1000) (sml cp 1000))) :: c :: some (lch b2 25 (cfL 0 0 none 0 0 none 0 0 0 0)) :: some (lch b1 25 (cfL mm mn pa pn pc ma mk mc rt cp)) :: H)) (fun (m : Int) (n : Nat) => (mon - m).toNat) (0) (0) ?_ (And.intro (by exact slot_int rfl (by first | omega)) (And.intro rfl (And.intro rfl (And.intro rfl trivial)))) ?_
  ·exact ⟨rfl, by omega, none, 0, none, fun _ => 0, IRow.nil _ _, Nat.le_refl 0, fun i i0 i1 => by omega, hOj.nil_cons.swap⟩
  intro m n w61 hIw61 ih62
  obtain ⟨hmn, hnm, a, cp2, c, P, hrP, hcp, hPr, hO1⟩ := hIw61
  show Run _ _ _ _ [(4, _), (1, _), (2, _), (3, _)] _ _
  refine run_seq <| run_seq <| run_region <| rl_v rfl rfl rfl (ov_move rfl rfl) <| rl_v rfl rfl rfl (ov_fieldS rfl Try.underlying25 rfl (fo := 1) rfl (by kernel_rfl) rfl) ?_
  refine rl_v rfl rfl rfl (ov_load rfl Try.underlying3 rfl rfl (by exact (show _ = some (iv mon) from hO1.cellL 0 rfl (off := 1) rfl))) ?_
  refine rl_v rfl rfl rfl (ov_lss rfl rfl rfl) <| rl_nil ?_
  first | refine run_cond_dec rfl (fun h1 => ?_) (fun h1 => ?_) | refine run_cond rfl (fun h1 => ?_) (fun h1 => ?_)
  ·refine run_skip <| run_seq <| run_block <| run_seq <| run_region <| rl_v rfl rfl rfl (ov_assign rfl rfl) <| rl_nil <| run_seq <| run_seq <| run_region <| rl_v rfl rfl rfl (ov_move rfl rfl) <| rl_v rfl rfl rfl (ov_fieldS rfl Try.underlying25 rfl (fo := 2) rfl (by kernel_rfl) rfl) ?_
   refine rl_v rfl rfl rfl (ov_load rfl Try.underlying22 rfl rfl (by exact hO1.cellL 3 rfl (off := 2) rfl)) ?_
   refine rl_v rfl rfl rfl (ov_len rfl Try.underlying22 rfl) <| rl_v rfl rfl rfl (ov_lss rfl rfl rfl) <| rl_nil <| Run.keep [1, 2, 3, 4, 5, 40] (F' := [(1, _), (2, _), (3, _), (4, _), (5, _), (40, _)]) rfl <| run_join1 (fun (p : Int) => [(5, .int .i64 p)]) [1, 2, 3, 4] (fun (p : Int) (w63 : World) => (1 ≤ p ∧ p ≤ 200) ∧ Own B w0 w63 (some (lch b3 25 (cfL mem mon a n cp2 none 0 0 (sml rt 1000) (sml cp 1000))) :: c :: some (lch b2 25 (cfL 0 0 none 0 0 none 0 0 0 0)) :: some (lch b1 25 (cfL mm mn pa pn pc ma mk mc rt cp)) :: H)) (fun hk64 => ?_) ?_
   ·first | refine run_cond_dec rfl (fun h2 => ?_) (fun h2 => ?_) | refine run_cond rfl (fun h2 => ?_) (fun h2 => ?_)
    ·have hsm := sml_rng (IntKind.i64.wrap (P0 m - 1)) (show (0 : Int) ≤ 199 by decide)
     refine run_region <| rl_v rfl rfl rfl (ov_fieldS rfl Try.underlying25 rfl (fo := 2) rfl (by kernel_rfl) rfl) ?_
     refine rl_v rfl rfl rfl (ov_load rfl Try.underlying22 rfl rfl (by exact hO1.cellL 3 rfl (off := 2) rfl)) ?_
     refine rl_v rfl rfl rfl (ov_move rfl rfl) <| rl_v rfl rfl rfl (ov_index1 rfl Try.underlying22 (by kernel_rfl) rfl rfl ⟨by omega, by omega⟩ (by exact (hga (by omega)))) ?_
     refine rl_v rfl rfl rfl (ov_load rfl Try.underlying2 rfl rfl (by exact hrow _ hO1.below m (by omega) h2)) ?_
     refine rl_v rfl rfl rfl (ov_subw rfl rfl rfl) ?_
     refine rl_call callable_19 rfl rfl rfl rfl rfl rfl (small_any (IntKind.i64.wrap (P0 m - 1)) 199 B _ w0 w61 hO1 (by omega)) (fun e65 w66 hp67 => ?_)
     obtain ⟨rfl, hOs⟩ := hp67
     refine ⟨_, rfl, ?_⟩
     refine rl_v rfl rfl rfl (ov_add rfl rfl rfl (by omega)) ?_
     refine rl_v rfl rfl rfl (ov_assign rfl rfl) <| rl_nil ?_
     refine Run.use (hk64 (1 + sml (IntKind.i64.wrap (P0 m - 1)) 199) _ ?_) (And.intro (by exact slot_int rfl (by first | omega)) (And.intro rfl (And.intro rfl (And.intro rfl (And.intro rfl trivial)))))
     exact ⟨by omega, hOs⟩
    ·refine run_skip ?_
     refine Run.use (hk64 (100) _ ?_) (And.intro (by exact slot_int rfl (by first | omega)) (And.intro rfl (And.intro rfl (And.intro rfl (And.intro rfl trivial)))))
     exact ⟨by omega, hO1⟩
   ·intro p w63 hJw63
    obtain ⟨hp, hO2⟩ := hJw63
    show Run _ _ _ _ [(5, _), (1, _), (2, _), (3, _), (4, _)] _ _
    refine run_seq <| run_region <| rl_v rfl rfl rfl (ov_fieldS rfl Try.underlying25 rfl (fo := 2) rfl (by kernel_rfl) rfl) ?_
    refine rl_v rfl rfl rfl (ov_load rfl Try.underlying22 rfl rfl (by exact hO2.cellL 0 rfl (off := 2) rfl)) ?_
    refine rl_v rfl rfl rfl (ov_assign rfl rfl) <| rl_nil <| run_seq <| run_region <| rl_v rfl rfl rfl (ov_move rfl rfl) <| rl_v rfl rfl rfl (ov_move rfl rfl) ?_
    refine rl_appI rfl rfl rfl rfl rfl rfl rfl rfl Try.underlying22 info_2 rfl hO2 1 hrP rfl rfl rfl ⟨by omega, by omega⟩ (fun v54 c54 w68 hO69 hr54 hs70 => ?_)
    obtain ⟨a54, cp54, rfl, hcp54⟩ := Row.valC hr54
    refine rl_v rfl rfl rfl (ov_assign rfl rfl) <| rl_nil <| run_region <| rl_v rfl rfl rfl (ov_move rfl rfl) <| rl_v rfl rfl rfl (ov_fieldS rfl Try.underlying25 rfl (fo := 2) rfl (by kernel_rfl) rfl) ?_
    refine rl_ow rfl (ow_storeL rfl rfl (by kernel_rfl) hO69 0 rfl rfl rfl rfl rfl) ?_
    rintro _ w71 ⟨rfl, hO72, hs73⟩
    refine rl_nil <| run_inBlock <| run_region <| rl_v rfl rfl rfl (ov_move rfl rfl) <| rl_v rfl rfl rfl (ov_add rfl rfl rfl (by omega)) ?_
    refine rl_v rfl rfl rfl (ov_assign rfl rfl) <| rl_nil ?_
    refine Run.use (ih62 (m + 1) (n + 1) _ ?_ ?_) (And.intro (by exact slot_int rfl (by first | omega)) (And.intro rfl (And.intro rfl (And.intro rfl trivial))))
    ·first | omega | (dsimp only; omega)
    ·exact ⟨by omega, by omega, a54, cp54, c54, upd P n p, hr54, hcp54, fun i i0 i1 => by unfold upd; split; exact hp; exact hPr i i0 (by omega), hO72⟩
  ·obtain rfl : m = mon := by omega
   have hnM : n = m.toNat := by omega
   subst hnM
   have hPmon : ∀ i : Int, 0 ≤ i → i < m → 1 ≤ P i ∧ P i ≤ 200 := fun i i0 i1 => hPr i i0 (by omega)
   refine run_exit rfl <| run_seq <| run_seq <| run_region <| rl_v rfl rfl rfl (ov_assign rfl rfl) <| rl_nil <| run_block <| Run.keep [1, 2, 3, 7] (F' := [(1, _), (2, _), (3, _), (7, _)]) rfl <| run_loop2 (fun (i : Int) (q : Nat) => [(7, .int .i64 i)]) [1, 2, 3] (fun (i : Int) (q : Nat) (w74 : World) => i = q ∧ q ≤ 5 ∧ q ≤ mk ∧ ∃ (v : Option Addr) (cq : Nat) (F : Int → Int → Int) (Hm : List (Option Blk)), OTab (.slice v q cq) 22 2 q (fun _ => m.toNat) (fun r c => iv (F r c)) Hm ∧ q ≤ cq ∧ (∀ r : Int, 0 ≤ r → r < q → ∀ c : Int, (F r c).natAbs < 300) ∧ Own B w0 w74 (some (lch b3 25 (cfL mem m a m.toNat cp2 v q cq (sml rt 1000) (sml cp 1000))) :: (Hm ++ (c :: some (lch b2 25 (cfL 0 0 none 0 0 none 0 0 0 0)) :: some (lch b1 25 (cfL mm mn pa pn pc ma mk mc rt cp)) :: H)))) (fun (i : Int) (q : Nat) => 5 - q) (0) (0) ?_ (And.intro (by exact slot_int rfl (by first | omega)) (And.intro rfl (And.intro rfl (And.intro rfl trivial)))) ?_
   ·exact ⟨rfl, by omega, by omega, none, 0, fun _ _ => 0, [none], OTab.nil _ _ _ _, Nat.le_refl 0, fun r r0 r1 => by omega, hO1.nil_cons.swap⟩
   intro i q w74 hIw74 ih75
   obtain ⟨hiq, hq5, hqm, v, cq, F, Hm, hTb, hcq, hF, hO3⟩ := hIw74
   show Run _ _ _ _ [(7, _), (1, _), (2, _), (3, _)] _ _
   have hb1 : ∀ {x : Option Blk}, ((x :: (Hm ++ (c :: some (lch b2 25 (cfL 0 0 none 0 0 none 0 0 0 0)) :: some (lch b1 25 (cfL mm mn pa pn pc ma mk mc rt cp)) :: H))) : List (Option Blk))[Hm.length + 1 + 2]? = some (some (lch b1 25 (cfL mm mn pa pn pc ma mk mc rt cp))) := fun {x} => by
    rw [show Hm.length + 1 + 2 = (Hm.length + 2) + 1 by omega, List.getElem?_cons_succ, List.getElem?_append_right (by omega), show Hm.length + 2 - Hm.length = 2 by omega]
    rfl
   have hmaT : 0 < mk → ma = some ⟨tb, to, none⟩ := hta
   refine run_seq <| run_seq <| run_region <| rl_v rfl rfl rfl (ov_move rfl rfl) <| rl_v rfl rfl rfl (ov_fieldS rfl Try.underlying25 rfl (fo := 3) rfl (by kernel_rfl) rfl) ?_
   refine rl_v rfl rfl rfl (ov_load rfl Try.underlying23 rfl rfl (by exact hO3.cellL (Hm.length + 1 + 2) hb1 (off := 3) rfl)) ?_
   refine rl_v rfl rfl rfl (ov_len rfl Try.underlying23 rfl) <| rl_v rfl rfl rfl (ov_lss rfl rfl rfl) <| rl_v rfl rfl rfl (ov_move rfl rfl) ?_
   first | refine rl_split_dec 62 rfl (fun g1 => ?_) (fun g1 => ?_) | refine rl_split 62 rfl (fun g1 => ?_) (fun g1 => ?_)
   ·refine rl_gv rfl rfl rfl rfl rfl (ov_move rfl rfl) <| rl_gv rfl rfl rfl rfl rfl (ov_lss rfl rfl rfl) <| rl_v rfl rfl rfl (ov_pick_t rfl rfl rfl) <| rl_nil ?_
    first | refine run_cond_dec rfl (fun h3 => ?_) (fun h3 => ?_) | refine run_cond rfl (fun h3 => ?_) (fun h3 => ?_)
    ·have hi0 : 0 ≤ i := by omega
     refine run_skip <| run_seq <| run_block <| run_seq <| run_region <| rl_v rfl rfl rfl (ov_fieldS rfl Try.underlying25 rfl (fo := 1) rfl (by kernel_rfl) rfl) ?_
     refine rl_v rfl rfl rfl (ov_load rfl Try.underlying3 rfl rfl (by exact (show _ = some (iv m) from hO3.cellL 0 rfl (off := 1) rfl))) ?_
     refine rl_ow rfl (ow_make (m.toNat) rfl rfl rfl Try.underlying22 info_2 rfl hO3 rfl rfl (by omega) (by omega) ⟨by omega, by omega⟩) ?_
     rintro _ w77 ⟨b8, rfl, hO78, hs79⟩
     have hb2 : ∀ {x y : Option Blk}, ((x :: y :: (Hm ++ (c :: some (lch b2 25 (cfL 0 0 none 0 0 none 0 0 0 0)) :: some (lch b1 25 (cfL mm mn pa pn pc ma mk mc rt cp)) :: H))) : List (Option Blk))[Hm.length + 1 + 3]? = some (some (lch b1 25 (cfL mm mn pa pn pc ma mk mc rt cp))) := fun {x y} => by
      rw [show Hm.length + 1 + 3 = (Hm.length + 1 + 2) + 1 by omega, List.getElem?_cons_succ]
      exact hb1
     refine rl_v rfl rfl rfl (ov_assign rfl rfl) <| rl_nil <| run_seq <| run_seq <| run_region <| rl_v rfl rfl rfl (ov_assign rfl rfl) <| rl_nil <| Run.keep [1, 2, 3, 7, 8, 9] (F' := [(1, _), (2, _), (3, _), (7, _), (8, _), (9, _)]) rfl <| run_join1 (fun (g : Int → Int) => []) [1, 2, 3, 7, 8] (fun (g : Int → Int) (w80 : World) => (∀ c : Int, (g c).natAbs < 300) ∧ Own B w0 w80 (some (vch b8 2 m.toNat (fun c => iv (g c))) :: some (lch b3 25 (cfL mem m a m.toNat cp2 v q cq (sml rt 1000) (sml cp 1000))) :: (Hm ++ (c :: some (lch b2 25 (cfL 0 0 none 0 0 none 0 0 0 0)) :: some (lch b1 25 (cfL mm mn pa pn pc ma mk mc rt cp)) :: H)))) (fun hk81 => ?_) ?_
     ·refine run_block <| Run.keep [1, 2, 3, 7, 8, 9] (F' := [(1, _), (2, _), (3, _), (7, _), (8, _), (9, _)]) rfl <| run_loop2 (fun (j : Int) (g : Int → Int) => [(9, .int .i64 j)]) [1, 2, 3, 7, 8] (fun (j : Int) (g : Int → Int) (w82 : World) => (0 ≤ j ∧ j ≤ m) ∧ (∀ c : Int, (g c).natAbs < 300) ∧ Own B w0 w82 (some (vch b8 2 m.toNat (fun c => iv (g c))) :: some (lch b3 25 (cfL mem m a m.toNat cp2 v q cq (sml rt 1000) (sml cp 1000))) :: (Hm ++ (c :: some (lch b2 25 (cfL 0 0 none 0 0 none 0 0 0 0)) :: some (lch b1 25 (cfL mm mn pa pn pc ma mk mc rt cp)) :: H)))) (fun (j : Int) (g : Int → Int) => (m - j).toNat) (0) (fun _ => 0) ?_ (And.intro (by exact slot_int rfl (by first | omega)) (And.intro rfl (And.intro rfl (And.intro rfl (And.intro rfl (And.intro rfl trivial)))))) ?_
      ·exact ⟨by omega, fun c => (by show (0 : Int).natAbs < 300; decide), hO78⟩
      intro j g w82 hIw82 ih83
      obtain ⟨hj, hg, hO4⟩ := hIw82
      show Run _ _ _ _ [(9, _), (1, _), (2, _), (3, _), (7, _), (8, _)] _ _
      refine run_seq <| run_seq <| run_region <| rl_v rfl rfl rfl (ov_move rfl rfl) <| rl_v rfl rfl rfl (ov_fieldS rfl Try.underlying25 rfl (fo := 1) rfl (by kernel_rfl) rfl) ?_
      refine rl_v rfl rfl rfl (ov_load rfl Try.underlying3 rfl rfl (by exact (show _ = some (iv m) from hO4.cellL 1 rfl (off := 1) rfl))) ?_
      refine rl_v rfl rfl rfl (ov_lss rfl rfl rfl) <| rl_v rfl rfl rfl (ov_move rfl rfl) ?_
      first | refine rl_split_dec 75 rfl (fun g2 => ?_) (fun g2 => ?_) | refine rl_split 75 rfl (fun g2 => ?_) (fun g2 => ?_)
      ·refine rl_gv rfl rfl rfl rfl rfl (ov_move rfl rfl) <| rl_gv rfl rfl rfl rfl rfl (ov_fieldS rfl Try.underlying25 rfl (fo := 3) rfl (by kernel_rfl) rfl) ?_
       refine rl_gv rfl rfl rfl rfl rfl (ov_load rfl Try.underlying23 rfl rfl (by exact hO4.cellL (Hm.length + 1 + 3) hb2 (off := 3) rfl)) ?_
       refine rl_gv rfl rfl rfl rfl rfl (ov_move rfl rfl) <| rl_gv rfl rfl rfl rfl rfl (ov_index1 rfl Try.underlying23 (by kernel_rfl) rfl rfl ⟨by omega, by omega⟩ (by exact (hmaT (by omega)))) ?_
       refine rl_gv rfl rfl rfl rfl rfl (ov_load rfl Try.underlying22 rfl rfl (by exact htr _ hO4.below i (by omega) (by omega))) ?_
       refine rl_gv rfl rfl rfl rfl rfl (ov_len rfl Try.underlying22 rfl) <| rl_gv rfl rfl rfl rfl rfl (ov_lss rfl rfl rfl) <| rl_v rfl rfl rfl (ov_pick_t rfl rfl rfl) <| rl_nil ?_
       first | refine run_cond_dec rfl (fun h4 => ?_) (fun h4 => ?_) | refine run_cond rfl (fun h4 => ?_) (fun h4 => ?_)
       ·refine run_skip <| run_seq <| run_block <| run_region <| rl_v rfl rfl rfl (ov_move rfl rfl) <| rl_v rfl rfl rfl (ov_move rfl rfl) <| rl_v rfl rfl rfl (ov_fieldS rfl Try.underlying25 rfl (fo := 3) rfl (by kernel_rfl) rfl) ?_
        refine rl_v rfl rfl rfl (ov_load rfl Try.underlying23 rfl rfl (by exact hO4.cellL (Hm.length + 1 + 3) hb2 (off := 3) rfl)) ?_
        refine rl_v rfl rfl rfl (ov_move rfl rfl) <| rl_v rfl rfl rfl (ov_index1 rfl Try.underlying23 (by kernel_rfl) rfl rfl ⟨by omega, by omega⟩ (by exact (hmaT (by omega)))) ?_
        refine rl_v rfl rfl rfl (ov_load rfl Try.underlying22 rfl rfl (by exact htr _ hO4.below i (by omega) (by omega))) ?_
        refine rl_v rfl rfl rfl (ov_move rfl rfl) <| rl_v rfl rfl rfl (ov_index1 rfl Try.underlying22 (by kernel_rfl) rfl rfl ⟨by omega, by omega⟩ (by exact (hra i (by omega) (by omega) (by omega)))) ?_
        refine rl_v rfl rfl rfl (ov_load rfl Try.underlying2 rfl rfl (by exact hel _ hO4.below i (by omega) (by omega) j (by omega) (by omega))) ?_
        refine rl_v rfl rfl rfl (ov_remt rfl rfl rfl (by omega)) ?_
        refine rl_v rfl rfl rfl (ov_index1 rfl Try.underlying22 (by kernel_rfl) rfl rfl ⟨by omega, by omega⟩ (by rfl)) ?_
        refine rl_ow rfl (ow_storeI rfl rfl (by kernel_rfl) hO4 0 rfl rfl ⟨by omega, by omega⟩ rfl) ?_
        rintro _ w85 ⟨rfl, hO86, hs87⟩
        refine rl_nil <| run_inBlock <| run_region <| rl_v rfl rfl rfl (ov_move rfl rfl) <| rl_v rfl rfl rfl (ov_add rfl rfl rfl (by omega)) ?_
        refine rl_v rfl rfl rfl (ov_assign rfl rfl) <| rl_nil ?_
        refine Run.use (ih83 (j + 1) (upd g j ((F0 i j).tmod 300)) _ ?_ ?_) (And.intro (by exact slot_int rfl (by first | omega)) (And.intro rfl (And.intro rfl (And.intro rfl (And.intro rfl (And.intro rfl trivial))))))
        ·first | omega | (dsimp only; omega)
        ·exact ⟨by omega, fun c => by unfold upd; split; exact tmod300 _; exact hg c, hO86⟩
       ·refine run_exit rfl ?_
        refine Run.use (hk81 (g) _ ?_) (And.intro rfl (And.intro rfl (And.intro rfl (And.intro rfl (And.intro rfl trivial)))))
        exact ⟨hg, hO4⟩
      ·refine rl_gskip rfl rfl rfl rfl rfl rfl <| rl_gskip rfl rfl rfl rfl rfl rfl <| rl_gskip rfl rfl rfl rfl rfl rfl <| rl_gskip rfl rfl rfl rfl rfl rfl <| rl_gskip rfl rfl rfl rfl rfl rfl <| rl_gskip rfl rfl rfl rfl rfl rfl <| rl_gskip rfl rfl rfl rfl rfl rfl <| rl_gskip rfl rfl rfl rfl rfl rfl <| rl_v rfl rfl rfl (ov_pick_f rfl rfl rfl) <| rl_nil <| run_cond_f rfl <| run_exit rfl ?_
       refine Run.use (hk81 (g) _ ?_) (And.intro rfl (And.intro rfl (And.intro rfl (And.intro rfl (And.intro rfl trivial)))))
       exact ⟨hg, hO4⟩
     ·intro g w80 hJw80
      obtain ⟨hg, hO5⟩ := hJw80
      show Run _ _ _ _ [(1, _), (2, _), (3, _), (7, _), (8, _)] _ _
      obtain ⟨co, rv, ch, rfl, hv, h3t⟩ := hTb
      refine run_seq <| run_region <| rl_v rfl rfl rfl (ov_fieldS rfl Try.underlying25 rfl (fo := 3) rfl (by kernel_rfl) rfl) ?_
      refine rl_v rfl rfl rfl (ov_load rfl Try.underlying23 rfl rfl (by exact hO5.cellL 1 rfl (off := 3) rfl)) ?_
      refine rl_v rfl rfl rfl (ov_assign rfl rfl) <| rl_nil <| run_seq <| run_region <| rl_v rfl rfl rfl (ov_move rfl rfl) <| rl_v rfl rfl rfl (ov_move rfl rfl) ?_
      refine rl_appV rfl rfl rfl rfl rfl rfl rfl rfl Try.underlying23 info_22 rfl hO5 2 hv rfl rfl rfl rfl ⟨by omega, by omega⟩ (fun v104 c104 w88 hO89 hv104 hs90 => ?_)
      obtain ⟨a104, cp104, rfl, hcp104⟩ := Row.valC hv104
      refine rl_v rfl rfl rfl (ov_assign rfl rfl) <| rl_nil <| run_region <| rl_v rfl rfl rfl (ov_move rfl rfl) <| rl_v rfl rfl rfl (ov_fieldS rfl Try.underlying25 rfl (fo := 3) rfl (by kernel_rfl) rfl) ?_
      refine rl_ow rfl (ow_storeL rfl rfl (by kernel_rfl) hO89 1 rfl rfl rfl rfl rfl) ?_
      rintro _ w91 ⟨rfl, hO92, hs93⟩
      have hO6 : Own B w0 w91 (some (vch b8 2 m.toNat (fun c => iv (g c))) :: some (lch b3 25 (cfL mem m a m.toNat cp2 a104 (q + 1) cp104 (sml rt 1000) (sml cp 1000))) :: c104 :: ((List.range q).map ch ++ (c :: some (lch b2 25 (cfL 0 0 none 0 0 none 0 0 0 0)) :: some (lch b1 25 (cfL mm mn pa pn pc ma mk mc rt cp)) :: H))) := hO92
      have hO7 := hO6.perm (.cons _ ((List.Perm.swap _ _ _).trans (.cons _ List.perm_middle.symm)))
      obtain ⟨H', hT', hO8⟩ := OTab.snoc (L := fun _ => m.toNat) (F := fun r c => iv (upd F q g r c)) (fun r hr => (h3t r hr).congr (fun i _ _ => by show _ = iv (upd F q g r i); rw [upd_ne _ _ (by omega)])) (IRow.mk1 b8 2 m.toNat (fun c => iv (g c)) (by omega)) hv104 hO7 rfl (fun i _ _ => by show iv (upd F q g q i) = _; rw [upd_same])
      refine rl_nil <| run_inBlock <| run_region <| rl_v rfl rfl rfl (ov_move rfl rfl) <| rl_v rfl rfl rfl (ov_add rfl rfl rfl (by omega)) ?_
      refine rl_v rfl rfl rfl (ov_assign rfl rfl) <| rl_nil ?_
      refine Run.use (ih75 (i + 1) (q + 1) _ ?_ ?_) (And.intro (by exact slot_int rfl (by first | omega)) (And.intro rfl (And.intro rfl (And.intro rfl trivial))))
      ·first | omega | (dsimp only; omega)
      ·exact ⟨by omega, by omega, by omega, a104, cp104, upd F q g, H', hT', hcp104, fun r r0 r1 c => by unfold upd; split; exact hg c; exact hF r r0 (by omega) c, hO8.perm List.perm_middle⟩
    ·have hO9 := hO3.perm perm_pick2
     refine run_exit rfl <| run_seq <| run_region <| rl_v rfl rfl rfl (ov_loadW rfl Try.underlying25 rfl (by kernel_rfl) rfl hO9 1 rfl) ?_
     refine rl_ow rfl (ow_storeW rfl rfl (by kernel_rfl) hO9 0 rfl rfl (by rfl) rfl (by rfl)) ?_
     rintro _ w94 ⟨rfl, hO95, hs96⟩
     have hO10 := hO95.tail.tail.sub (List.Sublist.append_left (.cons_cons _ (.cons _ (.refl _))) Hm)
     have hO11 : Own B w0 w94 ((Hm ++ [c]) ++ H) := by rw [List.append_assoc]; exact hO10
     refine rl_nil <| run_ret Try.func15 (resW Try.results15 rfl Try.underlying25 rfl (by kernel_rfl) hO95 0 rfl) ?_
     exact ⟨mem, m, a, v, cp2, q, cq, P, F, sml rt 1000, sml cp 1000, Hm ++ [c], rfl, ⟨hmemr, hmonr, hq5, hr1, hr2, hPmon, fun r r0 r1 c c0 c1 => hF r r0 r1 c, fun B w0 w hO => hrP.reads hO Hm.length (by simp), hTb.tsrc.sub (List.sublist_append_left _ _), hcp, hcq⟩, hO11⟩
   ·refine rl_gskip rfl rfl rfl rfl rfl rfl <| rl_gskip rfl rfl rfl rfl rfl rfl <| rl_v rfl rfl rfl (ov_pick_f rfl rfl rfl) <| rl_nil <| run_cond_f rfl ?_
    have hO9 := hO3.perm perm_pick2
    refine run_exit rfl <| run_seq <| run_region <| rl_v rfl rfl rfl (ov_loadW rfl Try.underlying25 rfl (by kernel_rfl) rfl hO9 1 rfl) ?_
    refine rl_ow rfl (ow_storeW rfl rfl (by kernel_rfl) hO9 0 rfl rfl (by rfl) rfl (by rfl)) ?_
    rintro _ w97 ⟨rfl, hO98, hs99⟩
    have hO10 := hO98.tail.tail.sub (List.Sublist.append_left (.cons_cons _ (.cons _ (.refl _))) Hm)
    have hO11 : Own B w0 w97 ((Hm ++ [c]) ++ H) := by rw [List.append_assoc]; exact hO10
    refine rl_nil <| run_ret Try.func15 (resW Try.results15 rfl Try.underlying25 rfl (by kernel_rfl) hO98 0 rfl) ?_
    exact ⟨mem, m, a, v, cp2, q, cq, P, F, sml rt 1000, sml cp 1000, Hm ++ [c], rfl, ⟨hmemr, hmonr, hq5, hr1, hr2, hPmon, fun r r0 r1 c c0 c1 => hF r r0 r1 c, fun B w0 w hO => hrP.reads hO Hm.length (by simp), hTb.tsrc.sub (List.sublist_append_left _ _), hcp, hcq⟩, hO11⟩
end Go.Proofs.Ytfbbagnpdfafjaa
