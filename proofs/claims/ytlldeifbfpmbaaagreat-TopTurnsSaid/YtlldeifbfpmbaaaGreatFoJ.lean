import Derived.Test.YtlldeifbfpmbaaaGreatFoG
import Derived.Test.YtlldeifbfpmbaaaGreatFhA
import Derived.Test.YtlldeifbfpmbaaaGreatGbD
set_option maxRecDepth 100000
namespace Go.Proofs.YtlldeifbfpmbaaaGreat
open Go.RowKit Go.Proofs Go.MapKept
set_option maxHeartbeats 1000000 in
theorem newTablesX_any (ga ba qa : Option Addr) (gc bc qc : Nat) (f : Fair) (w : World) (hs : f.Sm) (hF : FAt w.heap.size w ga ba qa f) :
  Calls Tryz.prog 40 #[.agg #[.slice ga f.n gc, .slice ba f.m bc, .slice qa f.m qc]] w fun e w' => ∃ tb H, e = .returned (ptr tb) ∧ Own w.heap.size w w' H ∧ ∀ (B : Nat) (w0 ww : World), Own B w0 ww H → FAt ww.heap.size ww ga ba qa f → PTX ww.heap.size ww tb f ga ba qa gc bc qc := by
 obtain ⟨A, C, RB, RO, gb, go, hga, hrow, hra, hel, hcan⟩ := hF.g.open
 obtain ⟨A', C', RB', RO', gb', go', hga', hrow', hra', hel', hcan'⟩ := hF.b.open
 have hn := hs.n
 have hm := hs.m
 refine calls_of_run (F := [(0, _)]) Tryz.func40 rfl Tryz.ntmps40 rfl rfl ?_
 have hO0 := Own.init w
 refine run_seq <| run_region <| rl_ow rfl (ow_box _ rfl rfl rfl rfl rfl hO0) ?_
 rintro _ w1 ⟨b1, rfl, hO2, hs3⟩
 refine rl_v rfl rfl rfl (ov_assign rfl rfl) <| rl_nil <| run_seq <| run_region <| rl_v rfl rfl rfl (ov_loadW rfl Tryz.underlying27 rfl (by kernel_rfl) rfl hO2 0 rfl) ?_
 refine rl_v rfl rfl rfl (ov_buildTables rfl rfl) <| rl_ow rfl (ow_box _ rfl rfl rfl rfl rfl hO2) ?_
 rintro _ w4 ⟨tb, rfl, hO5, hs6⟩
 refine rl_v rfl rfl rfl (ov_assign rfl rfl) <| rl_nil <| run_seq <| run_seq <| run_region <| rl_v rfl rfl rfl (ov_fieldS rfl Tryz.underlying27 rfl (fo := 0) rfl (by kernel_rfl) rfl) ?_
 refine rl_v rfl rfl rfl (ov_load rfl Tryz.underlying22 rfl rfl (by exact hO5.cellL 1 rfl (off := 0) rfl)) ?_
 refine rl_v rfl rfl rfl (ov_len rfl Tryz.underlying22 rfl) <| rl_v rfl rfl rfl (ov_move rfl rfl) <| rl_nil <| run_block <| Run.keep [1, 3, 12, 13, 14] (F' := [(1, _), (3, _), (12, _), (13, _), (14, _)]) rfl <| run_loop4 (fun (k : Int) (v : Value) (c : Option Blk) (mb : Nat → Nat) => [(14, .int .i64 k)]) [1, 3, 12, 13] (fun (k : Int) (v : Value) (c : Option Blk) (mb : Nat → Nat) (w7 : World) => 0 ≤ k ∧ k ≤ f.n ∧ IRow v 97 k.toNat (fun g => .map (some (mb g.toNat))) c ∧ Own w.heap.size w w7 (some (lch tb 100 [.slice ga f.n gc, .slice ba f.m bc, .slice qa f.m qc, v, .slice none 0 0]) :: some (lch b1 27 [.slice ga f.n gc, .slice ba f.m bc, .slice qa f.m qc]) :: c :: (List.range k.toNat).map (fun i : Nat => some (mch (mb i) (rkL (f.ge i) (f.gl i)))))) (fun (k : Int) (v : Value) (c : Option Blk) (mb : Nat → Nat) => ((f.n : Int) - k).toNat) (0) (.slice none 0 0) (none) (fun _ => 0) ?_ (And.intro (by exact slot_int rfl (by first | omega)) (And.intro rfl (And.intro rfl (And.intro rfl (And.intro rfl trivial))))) ?_
 ·exact ⟨by omega, by omega, IRow.nil _ _, hO5.nil_cons.perm (List.perm_append_comm (l₁ := [none]) (l₂ := [_, _]))⟩
 intro k v c mb w7 hIw7 ih8
 obtain ⟨hk0, hk1, hr, hO⟩ := hIw7
 show Run _ _ _ _ [(14, _), (1, _), (3, _), (12, _), (13, _)] _ _
 refine run_seq <| run_region <| rl_v rfl rfl rfl (ov_lss rfl rfl rfl) <| rl_nil <| run_seq ?_
 first | refine run_cond_dec rfl (fun h1 => ?_) (fun h1 => ?_) | refine run_cond rfl (fun h1 => ?_) (fun h1 => ?_)
 ·refine run_skip <| run_seq <| run_block <| run_seq <| run_region <| rl_v rfl rfl rfl (ov_index1 rfl Tryz.underlying22 (by kernel_rfl) rfl rfl ⟨by omega, by omega⟩ (by exact hga (by omega))) ?_
  refine rl_v rfl rfl rfl (ov_load rfl Tryz.underlying23 rfl rfl (by exact hrow _ hO.below _ (by omega) (by omega))) ?_
  refine rl_v rfl rfl rfl (ov_assign rfl rfl) <| rl_nil <| run_late (fun w' => Own w.heap.size w w' ([some (lch tb 100 [.slice ga f.n gc, .slice ba f.m bc, .slice qa f.m qc, v, .slice none 0 0])])) 11 mixed ?_
  have hO10 := hO.drew
  generalize World.drew w7 = w9 at hO10 ⊢
  have hS11 : Own w.heap.size w w9 ([some (lch tb 100 [.slice ga f.n gc, .slice ba f.m bc, .slice qa f.m qc, v, .slice none 0 0])]) := by first | exact hO10.sub (.cons_cons _ (List.nil_sublist _)) | exact hO10.sub (.cons _ (.cons_cons _ (List.nil_sublist _))) | exact hO10.sub (.cons _ (.cons _ (.cons_cons _ (List.nil_sublist _))))
  refine rhl_v 0 rfl (by kernel_rfl) rfl rfl rfl hS11 (fun _ hS => ov_move rfl rfl) ?_
  refine rhl_v 1 rfl (by kernel_rfl) rfl rfl rfl hS11 (fun _ hS => ov_move rfl rfl) ?_
  refine rhl_v 2 rfl (by kernel_rfl) rfl rfl rfl hS11 (fun _ hS => ov_nil rfl rfl) ?_
  refine rhl_v 3 rfl (by kernel_rfl) rfl rfl rfl hS11 (fun _ hS => ov_fieldS rfl Tryz.underlying100 rfl (fo := 3) rfl (by kernel_rfl) rfl) ?_
  refine rhl_v 4 rfl (by kernel_rfl) rfl rfl rfl hS11 (fun _ hS => ov_load rfl Tryz.underlying98 rfl rfl (by exact hS.cellL 0 rfl rfl)) ?_
  refine rhl_v 5 rfl (by kernel_rfl) rfl rfl rfl hS11 (fun _ hS => ov_move rfl rfl) ?_
  refine rhl_any1 6 (by kernel_rfl) ?_
  refine rcl_op rfl rfl (ow_call2 callable_72 rfl rfl rfl rfl rfl (ranks_any _ _ _ (f.ge k) _ (by have := hs.gl k hk0 h1; omega) (hO10.iatF (hcan k hk0 h1))) (by intro e w' hp; obtain ⟨bm, rfl, hOm⟩ := hp; exact ⟨_, rfl⟩)) ?_
  rintro _ w14 ⟨_, v12, he15, rfl, hp13⟩
  obtain ⟨bm, rfl, hOm⟩ := hp13
  injection he15 with he15; subst he15
  have hO16 := hO10.join hOm
  have hS17 : Own w.heap.size w w14 ([some (lch tb 100 [.slice ga f.n gc, .slice ba f.m bc, .slice qa f.m qc, v, .slice none 0 0])]) := by first | exact hO16.sub (.cons_cons _ (List.nil_sublist _)) | exact hO16.sub (.cons _ (.cons_cons _ (List.nil_sublist _))) | exact hO16.sub (.cons _ (.cons _ (.cons_cons _ (List.nil_sublist _))))
  refine ⟨hS17, ?_⟩
  refine rhl_any1 7 (by kernel_rfl) ?_
  refine rcl_op rfl rfl (ow_one rfl rfl rfl Tryz.underlying98 info_97 rfl hO16 rfl rfl) ?_
  rintro _ w18 ⟨b2, rfl, hO19, hs20⟩
  have hS21 : Own w.heap.size w w18 ([some (lch tb 100 [.slice ga f.n gc, .slice ba f.m bc, .slice qa f.m qc, v, .slice none 0 0])]) := by first | exact hO19.sub (.cons_cons _ (List.nil_sublist _)) | exact hO19.sub (.cons _ (.cons_cons _ (List.nil_sublist _))) | exact hO19.sub (.cons _ (.cons _ (.cons_cons _ (List.nil_sublist _))))
  refine ⟨hS21, ?_⟩
  refine rhl_any1 8 (by kernel_rfl) ?_
  refine rcl_op rfl rfl (ow_app1 rfl rfl rfl Tryz.underlying98 info_97 rfl hO19 3 hr rfl rfl rfl rfl ⟨by omega, by omega⟩) ?_
  rintro _ w22 ⟨v2, c2, rfl, hO23, hr2, hs24⟩
  have hS25 : Own w.heap.size w w22 ([some (lch tb 100 [.slice ga f.n gc, .slice ba f.m bc, .slice qa f.m qc, v, .slice none 0 0])]) := by first | exact hO23.sub (.cons_cons _ (List.nil_sublist _)) | exact hO23.sub (.cons _ (.cons_cons _ (List.nil_sublist _))) | exact hO23.sub (.cons _ (.cons _ (.cons_cons _ (List.nil_sublist _))))
  refine ⟨hS25, ?_⟩
  obtain ⟨ao2, cap2, rfl⟩ := Row.val hr2
  refine rhl_any1 9 (by kernel_rfl) ?_
  refine rcl_op rfl rfl (ow_v rfl rfl (ov_nil rfl rfl)) ?_
  rintro _ _ ⟨rfl, hw26⟩
  replace hw26 := hw26.symm; subst hw26
  refine ⟨hS25, ?_⟩
  refine rhl_v 10 rfl (by kernel_rfl) rfl rfl rfl hS25 (fun _ hS => ov_fieldS rfl Tryz.underlying100 rfl (fo := 3) rfl (by kernel_rfl) rfl) ?_
  refine rhl_any1 11 (by kernel_rfl) ?_
  refine rcl_last rfl rfl (ow_storeL rfl rfl (by kernel_rfl) hO23 1 rfl rfl rfl rfl rfl) ?_
  rintro _ w27 ⟨rfl, hO28, hs29⟩
  obtain ⟨q, rfl⟩ := Int.eq_ofNat_of_zero_le hk0
  refine rhl_done (by kernel_rfl) ?_
  refine run_inBlock <| run_region <| rl_v rfl rfl rfl (ov_add rfl rfl rfl (by omega)) ?_
  refine rl_v rfl rfl rfl (ov_move rfl rfl) <| rl_nil ?_
  refine Run.use (ih8 ((q : Int) + 1) (.slice ao2 ((q : Int).toNat + 1) cap2) (c2) (fun i => if i = q then bm else mb i) _ ?_ ?_) (And.intro (by exact slot_int rfl (by first | omega)) (And.intro rfl (And.intro rfl (And.intro rfl (And.intro rfl trivial)))))
  ·first | omega | (dsimp only; omega)
  ·exact ⟨by omega, by omega, hr2.congr (fun i i0 i1 => by unfold upd; by_cases e : i = q <;> simp [e] <;> omega), by rw [show ((q : Int) + 1).toNat = q + 1 by omega, maps_snoc (R := fun i => rkL (f.ge i) (f.gl i))]; exact hO28.perm perm_sink3⟩
 ·obtain ⟨ma, mc, rfl⟩ := Row.val hr
  have hkn : k = f.n := by omega
  subst hkn
  have hr1 := hr
  obtain ⟨M1, hM1⟩ : ∃ M1, M1 = c :: (List.range (f.n : Int).toNat).map (fun i : Nat => some (mch (mb i) (rkL (f.ge i) (f.gl i)))) := ⟨_, rfl⟩
  rw [← hM1] at hO
  refine run_exit rfl <| run_seq <| run_seq <| run_region <| rl_v rfl rfl rfl (ov_fieldS rfl Tryz.underlying27 rfl (fo := 1) rfl (by kernel_rfl) rfl) ?_
  refine rl_v rfl rfl rfl (ov_load rfl Tryz.underlying22 rfl rfl (by exact hO.cellL 1 rfl (off := 1) rfl)) ?_
  refine rl_v rfl rfl rfl (ov_len rfl Tryz.underlying22 rfl) <| rl_v rfl rfl rfl (ov_move rfl rfl) <| rl_nil <| run_block <| Run.keep [3, 31, 32, 33] (F' := [(3, _), (31, _), (32, _), (33, _)]) rfl <| run_loop4 (fun (k : Int) (v : Value) (c : Option Blk) (mb' : Nat → Nat) => [(33, .int .i64 k)]) [3, 31, 32] (fun (k : Int) (v : Value) (c : Option Blk) (mb' : Nat → Nat) (w30 : World) => 0 ≤ k ∧ k ≤ f.m ∧ IRow v 97 k.toNat (fun g => .map (some (mb' g.toNat))) c ∧ Own w.heap.size w w30 (some (lch tb 100 [.slice ga f.n gc, .slice ba f.m bc, .slice qa f.m qc, .slice ma (f.n : Int).toNat mc, v]) :: some (lch b1 27 [.slice ga f.n gc, .slice ba f.m bc, .slice qa f.m qc]) :: c :: ((List.range k.toNat).map (fun i : Nat => some (mch (mb' i) (rkL (f.be i) (f.bl i)))) ++ M1))) (fun (k : Int) (v : Value) (c : Option Blk) (mb' : Nat → Nat) => ((f.m : Int) - k).toNat) (0) (.slice none 0 0) (none) (fun _ => 0) ?_ (And.intro (by exact slot_int rfl (by first | omega)) (And.intro rfl (And.intro rfl (And.intro rfl trivial)))) ?_
  ·exact ⟨by omega, by omega, IRow.nil _ _, hO.nil_cons.perm perm_none3⟩
  intro k v c mb' w30 hIw30 ih31
  obtain ⟨hk0, hk1, hr, hO⟩ := hIw30
  show Run _ _ _ _ [(33, _), (3, _), (31, _), (32, _)] _ _
  refine run_seq <| run_region <| rl_v rfl rfl rfl (ov_lss rfl rfl rfl) <| rl_nil <| run_seq ?_
  first | refine run_cond_dec rfl (fun h1 => ?_) (fun h1 => ?_) | refine run_cond rfl (fun h1 => ?_) (fun h1 => ?_)
  ·refine run_skip <| run_seq <| run_block <| run_seq <| run_region <| rl_v rfl rfl rfl (ov_index1 rfl Tryz.underlying22 (by kernel_rfl) rfl rfl ⟨by omega, by omega⟩ (by exact hga' (by omega))) ?_
   refine rl_v rfl rfl rfl (ov_load rfl Tryz.underlying23 rfl rfl (by exact hrow' _ hO.below _ (by omega) (by omega))) ?_
   refine rl_v rfl rfl rfl (ov_assign rfl rfl) <| rl_nil <| run_late (fun w' => Own w.heap.size w w' ([some (lch tb 100 [.slice ga f.n gc, .slice ba f.m bc, .slice qa f.m qc, .slice ma (f.n : Int).toNat mc, v])])) 11 mixed ?_
   have hO33 := hO.drew
   generalize World.drew w30 = w32 at hO33 ⊢
   have hS34 : Own w.heap.size w w32 ([some (lch tb 100 [.slice ga f.n gc, .slice ba f.m bc, .slice qa f.m qc, .slice ma (f.n : Int).toNat mc, v])]) := by first | exact hO33.sub (.cons_cons _ (List.nil_sublist _)) | exact hO33.sub (.cons _ (.cons_cons _ (List.nil_sublist _))) | exact hO33.sub (.cons _ (.cons _ (.cons_cons _ (List.nil_sublist _))))
   refine rhl_v 0 rfl (by kernel_rfl) rfl rfl rfl hS34 (fun _ hS => ov_move rfl rfl) ?_
   refine rhl_v 1 rfl (by kernel_rfl) rfl rfl rfl hS34 (fun _ hS => ov_move rfl rfl) ?_
   refine rhl_v 2 rfl (by kernel_rfl) rfl rfl rfl hS34 (fun _ hS => ov_nil rfl rfl) ?_
   refine rhl_v 3 rfl (by kernel_rfl) rfl rfl rfl hS34 (fun _ hS => ov_fieldS rfl Tryz.underlying100 rfl (fo := 4) rfl (by kernel_rfl) rfl) ?_
   refine rhl_v 4 rfl (by kernel_rfl) rfl rfl rfl hS34 (fun _ hS => ov_load rfl Tryz.underlying98 rfl rfl (by exact hS.cellL 0 rfl rfl)) ?_
   refine rhl_v 5 rfl (by kernel_rfl) rfl rfl rfl hS34 (fun _ hS => ov_move rfl rfl) ?_
   refine rhl_any1 6 (by kernel_rfl) ?_
   refine rcl_op rfl rfl (ow_call2 callable_72 rfl rfl rfl rfl rfl (ranks_any _ _ _ (f.be k) _ (by have := hs.bl k hk0 h1; omega) (hO33.iatF (hcan' k hk0 h1))) (by intro e w' hp; obtain ⟨bm, rfl, hOm⟩ := hp; exact ⟨_, rfl⟩)) ?_
   rintro _ w37 ⟨_, v35, he38, rfl, hp36⟩
   obtain ⟨bm, rfl, hOm⟩ := hp36
   injection he38 with he38; subst he38
   have hO39 := hO33.join hOm
   have hS40 : Own w.heap.size w w37 ([some (lch tb 100 [.slice ga f.n gc, .slice ba f.m bc, .slice qa f.m qc, .slice ma (f.n : Int).toNat mc, v])]) := by first | exact hO39.sub (.cons_cons _ (List.nil_sublist _)) | exact hO39.sub (.cons _ (.cons_cons _ (List.nil_sublist _))) | exact hO39.sub (.cons _ (.cons _ (.cons_cons _ (List.nil_sublist _))))
   refine ⟨hS40, ?_⟩
   refine rhl_any1 7 (by kernel_rfl) ?_
   refine rcl_op rfl rfl (ow_one rfl rfl rfl Tryz.underlying98 info_97 rfl hO39 rfl rfl) ?_
   rintro _ w41 ⟨b2, rfl, hO42, hs43⟩
   have hS44 : Own w.heap.size w w41 ([some (lch tb 100 [.slice ga f.n gc, .slice ba f.m bc, .slice qa f.m qc, .slice ma (f.n : Int).toNat mc, v])]) := by first | exact hO42.sub (.cons_cons _ (List.nil_sublist _)) | exact hO42.sub (.cons _ (.cons_cons _ (List.nil_sublist _))) | exact hO42.sub (.cons _ (.cons _ (.cons_cons _ (List.nil_sublist _))))
   refine ⟨hS44, ?_⟩
   refine rhl_any1 8 (by kernel_rfl) ?_
   refine rcl_op rfl rfl (ow_app1 rfl rfl rfl Tryz.underlying98 info_97 rfl hO42 3 hr rfl rfl rfl rfl ⟨by omega, by omega⟩) ?_
   rintro _ w45 ⟨v2, c2, rfl, hO46, hr2, hs47⟩
   have hS48 : Own w.heap.size w w45 ([some (lch tb 100 [.slice ga f.n gc, .slice ba f.m bc, .slice qa f.m qc, .slice ma (f.n : Int).toNat mc, v])]) := by first | exact hO46.sub (.cons_cons _ (List.nil_sublist _)) | exact hO46.sub (.cons _ (.cons_cons _ (List.nil_sublist _))) | exact hO46.sub (.cons _ (.cons _ (.cons_cons _ (List.nil_sublist _))))
   refine ⟨hS48, ?_⟩
   obtain ⟨ao2, cap2, rfl⟩ := Row.val hr2
   refine rhl_any1 9 (by kernel_rfl) ?_
   refine rcl_op rfl rfl (ow_v rfl rfl (ov_nil rfl rfl)) ?_
   rintro _ _ ⟨rfl, hw49⟩
   replace hw49 := hw49.symm; subst hw49
   refine ⟨hS48, ?_⟩
   refine rhl_v 10 rfl (by kernel_rfl) rfl rfl rfl hS48 (fun _ hS => ov_fieldS rfl Tryz.underlying100 rfl (fo := 4) rfl (by kernel_rfl) rfl) ?_
   refine rhl_any1 11 (by kernel_rfl) ?_
   refine rcl_last rfl rfl (ow_storeL rfl rfl (by kernel_rfl) hO46 1 rfl rfl rfl rfl rfl) ?_
   rintro _ w50 ⟨rfl, hO51, hs52⟩
   obtain ⟨q, rfl⟩ := Int.eq_ofNat_of_zero_le hk0
   refine rhl_done (by kernel_rfl) ?_
   refine run_inBlock <| run_region <| rl_v rfl rfl rfl (ov_add rfl rfl rfl (by omega)) ?_
   refine rl_v rfl rfl rfl (ov_move rfl rfl) <| rl_nil ?_
   refine Run.use (ih31 ((q : Int) + 1) (.slice ao2 ((q : Int).toNat + 1) cap2) (c2) (fun i => if i = q then bm else mb' i) _ ?_ ?_) (And.intro (by exact slot_int rfl (by first | omega)) (And.intro rfl (And.intro rfl (And.intro rfl trivial))))
   ·first | omega | (dsimp only; omega)
   ·exact ⟨by omega, by omega, hr2.congr (fun i i0 i1 => by unfold upd; by_cases e : i = q <;> simp [e] <;> omega), by rw [show ((q : Int) + 1).toNat = q + 1 by omega, maps_snoc (R := fun i => rkL (f.be i) (f.bl i))]; exact hO51.perm perm_sink4⟩
  ·have hkn : k = f.m := by omega
   subst hkn
   obtain ⟨na, nc, rfl⟩ := Row.val hr
   refine run_exit rfl <| run_seq <| run_region <| rl_v rfl rfl rfl (ov_move rfl rfl) <| rl_v rfl rfl rfl (ov_assign rfl rfl) <| rl_nil <| run_ret Tryz.func40 (res1 Tryz.results40 rfl) ?_
   exact ⟨tb, _, rfl, hO, fun B w0 ww hO hF => ⟨ma, na, mc, nc, hO.readsL 0 rfl, hF, MAt.of hr1 hO (f.m + 3) (by rw [hM1]; simp [List.getElem?_append]) (fun i hi => by rw [hM1]; simp; grind), MAt.of hr hO 2 rfl (fun i hi => by simp; grind)⟩⟩
end Go.Proofs.YtlldeifbfpmbaaaGreat
set_option maxRecDepth 100000
namespace Go.Proofs.YtlldeifbfpmbaaaGreat
open Go.RowKit Go.Proofs
theorem val_split {M : Nat} {s : Int → Int} {q : Nat} : ∀ d : Nat, Dig M (q + d) s → val M s q * (M + 1) ^ d ≤ val M s (q + d) ∧ val M s (q + d) < (val M s q + 1) * (M + 1) ^ d
 | 0, _ => ⟨by rw [Nat.pow_zero, Nat.mul_one]; exact Nat.le_refl _, by rw [Nat.pow_zero, Nat.mul_one]; exact Nat.lt_succ_self _⟩
 | d + 1, h => by
  have ih := val_split (M := M) (s := s) (q := q) d fun i i0 i1 => h i i0 (by omega)
  have hd := h ((q + d : Nat) : Int) (by omega) (by omega)
  have e : val M s (q + (d + 1)) = val M s (q + d) * (M + 1) + (s ((q + d : Nat) : Int) + 1).toNat := rfl
  have hdig : (s ((q + d : Nat) : Int) + 1).toNat ≤ M := by omega
  rw [e, Nat.pow_succ, ← Nat.mul_assoc, ← Nat.mul_assoc]
  generalize (s ((q + d : Nat) : Int) + 1).toNat = x at hdig ⊢
  generalize val M s (q + d) = v at ih ⊢
  generalize val M s q * (M + 1) ^ d = a at ih ⊢
  generalize (val M s q + 1) * (M + 1) ^ d = b at ih ⊢
  refine ⟨Nat.le_trans (Nat.mul_le_mul_right _ ih.1) (Nat.le_add_right _ _), ?_⟩
  have h1 : (v + 1) * (M + 1) ≤ b * (M + 1) := Nat.mul_le_mul_right _ ih.2
  rw [Nat.add_mul] at h1
  omega
theorem val_between {M n q c c' : Nat} {l s : Int → Int} (hq : q < n) (hl : Dig M q l) (hs : Dig M n s) (hc : c' ≤ M + 1) (h1 : (val M l q * (M + 1) + c) * (M + 1) ^ (n - q - 1) ≤ val M s n) (h2 : val M s n < (val M l q * (M + 1) + c') * (M + 1) ^ (n - q - 1)) : (∀ i : Int, 0 ≤ i → i < q → l i = s i) ∧ (c : Int) ≤ s q + 1 ∧ s q + 1 < c' := by
 obtain ⟨d, hd⟩ : ∃ d, d = n - q - 1 := ⟨_, rfl⟩
 have hn : n = (q + 1) + d := by omega
 rw [← hd] at h1 h2
 have hsp := val_split (M := M) (s := s) (q := q + 1) d (by rw [← hn]; exact hs)
 rw [← hn] at hsp
 have hP : 0 < (M + 1) ^ d := Nat.pow_pos (by omega)
 have e : val M s (q + 1) = val M s q * (M + 1) + (s (q : Int) + 1).toNat := rfl
 have hdg := hs (q : Int) (by omega) (by omega)
 have a1 : val M l q * (M + 1) + c < val M s (q + 1) + 1 := Nat.lt_of_mul_lt_mul_right (Nat.lt_of_le_of_lt h1 hsp.2)
 have a2 : val M s (q + 1) < val M l q * (M + 1) + c' := Nat.lt_of_mul_lt_mul_right (Nat.lt_of_le_of_lt hsp.1 h2)
 rw [e] at a1 a2
 have hx : (s (q : Int) + 1).toNat ≤ M := by omega
 have hv : val M l q = val M s q := by
  rcases Nat.lt_trichotomy (val M l q) (val M s q) with h | h | h
  ·have := Nat.mul_le_mul_right (M + 1) (show val M l q + 1 ≤ val M s q from h)
   rw [Nat.add_mul] at this
   omega
  ·exact h
  ·have := Nat.mul_le_mul_right (M + 1) (show val M s q + 1 ≤ val M l q from h)
   rw [Nat.add_mul] at this
   omega
 rw [hv] at a1 a2
 exact ⟨val_inj hl (fun i i0 i1 => hs i i0 (by omega)) hv, by omega, by omega⟩
namespace Fair
theorem AllTo.jump {f : Fair} {N : Nat} {A : Nat → Int → Int} {V V' : Nat} (h : f.AllTo N A V) (hle : V ≤ V') (hno : ∀ s, f.Stab s → V ≤ val f.m s f.n → ¬ val f.m s f.n < V') : f.AllTo N A V' :=
 ⟨h.st, h.inc, fun j hj => Nat.lt_of_lt_of_le (h.lt j hj) hle, fun s hs hv => h.all s hs (Nat.lt_of_not_le fun hn => hno s hs hn hv), Nat.le_trans h.len hle⟩
theorem AllTo.digit {f : Fair} {N q c c' : Nat} {A : Nat → Int → Int} {l : Int → Int} (h : f.AllTo N A ((val f.m l q * (f.m + 1) + c) * (f.m + 1) ^ (f.n - q - 1))) (hq : q < f.n) (hl : Dig f.m q l) (hcc : c ≤ c') (hc : c' ≤ f.m + 1) (hno : ∀ s, f.Stab s → (∀ i : Int, 0 ≤ i → i < q → s i = l i) → (c : Int) ≤ s q + 1 → ¬ s q + 1 < c') : f.AllTo N A ((val f.m l q * (f.m + 1) + c') * (f.m + 1) ^ (f.n - q - 1)) :=
 h.jump (Nat.mul_le_mul_right _ (by omega)) fun s hs h1 h2 => by
  obtain ⟨e1, e2, e3⟩ := val_between hq hl hs.dig hc h1 h2
  exact hno s hs (fun i i0 i1 => (e1 i i0 i1).symm) e2 e3
theorem at_first {f : Fair} {q : Nat} {l : Int → Int} (hq : q < f.n) : val f.m l q * (f.m + 1) ^ (f.n - q) = (val f.m l q * (f.m + 1) + 0) * (f.m + 1) ^ (f.n - q - 1) := by
 obtain ⟨d, h1, h2⟩ : ∃ d, f.n - q = d + 1 ∧ f.n - q - 1 = d := ⟨f.n - q - 1, by omega, rfl⟩
 rw [h2, h1, Nat.add_zero (val f.m l q * (f.m + 1)), Nat.pow_succ, Nat.mul_comm ((f.m + 1) ^ d), ← Nat.mul_assoc]
theorem at_last {f : Fair} {q : Nat} {l : Int → Int} (hq : q < f.n) : (val f.m l q + 1) * (f.m + 1) ^ (f.n - q) = (val f.m l q * (f.m + 1) + (f.m + 1)) * (f.m + 1) ^ (f.n - q - 1) := by
 obtain ⟨d, h1, h2⟩ : ∃ d, f.n - q = d + 1 ∧ f.n - q - 1 = d := ⟨f.n - q - 1, by omega, rfl⟩
 rw [h2, h1, show val f.m l q * (f.m + 1) + (f.m + 1) = (val f.m l q + 1) * (f.m + 1) by rw [Nat.add_mul, Nat.one_mul], Nat.pow_succ, Nat.mul_comm ((f.m + 1) ^ d), ← Nat.mul_assoc]
theorem val_longer {f : Fair} {q : Nat} {l : Int → Int} {b : Int} : val f.m (upd l q b) (q + 1) = val f.m l q * (f.m + 1) + (b + 1).toNat := by
 show val f.m (upd l q b) q * (f.m + 1) + (upd l (q : Int) b (q : Int) + 1).toNat = _
 rw [upd_same, val_congr (l := upd l q b) (s := l) fun i i0 i1 => upd_ne _ _ (by omega)]
end Fair
end Go.Proofs.YtlldeifbfpmbaaaGreat
set_option maxRecDepth 100000
namespace Go.Proofs.YtlldeifbfpmbaaaGreat
open Go.RowKit Go.Proofs Go.MapKept
theorem IRow.pop {a : Option Addr} {n cap : Nat} {E : TypeId} {G : Int → Value} {c : Option Blk} (h : IRow (.slice a (n + 1) cap) E (n + 1) G c) : IRow (.slice a n cap) E n G c := by
 obtain ⟨b, G', rfl, h1, h2, rfl, h3⟩ := h.asV (by omega)
 exact IRow.ofV (by omega) h2 fun i i0 i1 => h3 i i0 (by omega)
theorem IAt.cellA {B : Nat} {w : World} {b n : Nat} {G : Int → Value} (h : IAt B w (some ⟨b, 0, none⟩) n G) {i : Int} (i0 : 0 ≤ i) (i1 : i < n) : w.cell? ⟨b, 0 + i.toNat, none⟩ = some (G i) := by
 obtain ⟨b', o', e, r⟩ := h.open
 cases e (by omega)
 exact r _ (Below.refl _ _) i i0 i1
abbrev Kp := Nat → (Nat → Int → Int) → List (Option Blk) → Prop
def YieldOk (l B : Nat) (w0 : World) (n most : Nat) (K : Kp) : Prop :=
 ∀ (N : Nat) (A : Nat → Int → Int) (KL T : List (Option Blk)) (w : World) (x : Value) (s : Int → Int) (c : Option Blk), K N A KL → N < most → IRow x 3 n (fun g => iv (s g)) c → Own B w0 w (c :: (KL ++ T)) →
  YieldAt (FW none) 0 Tryz.prog l #[x] w fun e w' => ∃ v, e = .returned v ∧ ∃ (A' : Nat → Int → Int) (KL' : List (Option Blk)), v = .bool (decide (N + 1 ≠ most)) ∧ K (N + 1) A' KL' ∧ (∀ j : Nat, j < N → A' j = A j) ∧ A' N = s ∧ Own B w0 w' (KL' ++ T)
def Found5 (f : Fair) (K : Kp) (most : Nat) (V1 : Nat) (b : Bool) (KL : List (Option Blk)) : Prop :=
 ∃ (N : Nat) (A : Nat → Int → Int), K N A KL ∧ (b = true → N < most ∧ f.AllTo N A V1) ∧ (b = false → N = most ∧ ∃ V, V ≤ V1 ∧ f.AllTo N A V)
theorem Found5.more {f : Fair} {K : Kp} {most V1 V2 : Nat} {KL : List (Option Blk)} (h : Found5 f K most V1 false KL) (hle : V1 ≤ V2) : Found5 f K most V2 false KL := by
 obtain ⟨N, A, h1, _, h3⟩ := h
 obtain ⟨h4, V, h5, h6⟩ := h3 rfl
 exact ⟨N, A, h1, fun e => Bool.noConfusion e, fun _ => ⟨h4, V, Nat.le_trans h5 hle, h6⟩⟩
end Go.Proofs.YtlldeifbfpmbaaaGreat
