import Derived.Test.YtlldeifbfpmbaaaGreatFoG
import Derived.Test.YtlldeifbfpmbaaaGreatFaC
set_option maxRecDepth 100000
namespace Go.Proofs.YtlldeifbfpmbaaaGreat
open Go.RowKit Go.Proofs Go.MapKept
set_option maxHeartbeats 1000000 in
theorem newTablesX_any (ga ba qa : Option Addr) (gc bc qc : Nat) (f : Fair) (w : World) (hs : f.Sm) (hF : FAt w.heap.size w ga ba qa f) :
  Calls Tryz.prog 40 #[.agg #[.slice ga f.n gc, .slice ba f.m bc, .slice qa f.m qc]] w fun e w' => ∃ tb H, e = .returned (ptr tb) ∧ Own w.heap.size w w' H ∧ ∀ (B : Nat) (w0 ww : World), Own B w0 ww H → FAt ww.heap.size ww ga ba qa f → PTX ww.heap.size ww tb f ga ba qa gc bc qc := by
 obtain ⟨A, C, RB, RO, gb, go, hga, hrow, hra, hel, hcan⟩ := hF.g.open
 obtain ⟨A', C', RB', RO', gb', go', hga', hrow', hra', hel', hcan'⟩ := hF.b.open
 have hn := hs.n
 have hm := hs.m
 refine calls_of_run (F := [(0, _)]) Tryz.func40 rfl Tryz.ntmps40 rfl rfl ?_
 have hO0 := Own.init w
 refine run_seq <| run_region <| rl_ow rfl (ow_box _ rfl rfl rfl rfl rfl hO0) ?_
 rintro _ w1 ⟨b1, rfl, hO2, hs3⟩
 refine rl_v rfl rfl rfl (ov_assign rfl rfl) <| rl_nil <| run_seq <| run_region <| rl_v rfl rfl rfl (ov_loadW rfl Tryz.underlying27 rfl (by kernel_rfl) rfl hO2 0 rfl) ?_
 refine rl_v rfl rfl rfl (ov_buildTables rfl rfl) <| rl_ow rfl (ow_box _ rfl rfl rfl rfl rfl hO2) ?_
 rintro _ w4 ⟨tb, rfl, hO5, hs6⟩
 refine rl_v rfl rfl rfl (ov_assign rfl rfl) <| rl_nil <| run_seq <| run_seq <| run_region <| rl_v rfl rfl rfl (ov_fieldS rfl Tryz.underlying27 rfl (fo := 0) rfl (by kernel_rfl) rfl) ?_
 refine rl_v rfl rfl rfl (ov_load rfl Tryz.underlying22 rfl rfl (by exact hO5.cellL 1 rfl (off := 0) rfl)) ?_
 refine rl_v rfl rfl rfl (ov_len rfl Tryz.underlying22 rfl) <| rl_v rfl rfl rfl (ov_move rfl rfl) <| rl_nil <| run_block <| Run.keep [1, 3, 12, 13, 14] (F' := [(1, _), (3, _), (12, _), (13, _), (14, _)]) rfl <| run_loop4 (fun (k : Int) (v : Value) (c : Option Blk) (mb : Nat → Nat) => [(14, .int .i64 k)]) [1, 3, 12, 13] (fun (k : Int) (v : Value) (c : Option Blk) (mb : Nat → Nat) (w7 : World) => 0 ≤ k ∧ k ≤ f.n ∧ IRow v 97 k.toNat (fun g => .map (some (mb g.toNat))) c ∧ Own w.heap.size w w7 (some (lch tb 100 [.slice ga f.n gc, .slice ba f.m bc, .slice qa f.m qc, v, .slice none 0 0]) :: some (lch b1 27 [.slice ga f.n gc, .slice ba f.m bc, .slice qa f.m qc]) :: c :: (List.range k.toNat).map (fun i : Nat => some (mch (mb i) (rkL (f.ge i) (f.gl i)))))) (fun (k : Int) (v : Value) (c : Option Blk) (mb : Nat → Nat) => ((f.n : Int) - k).toNat) (0) (.slice none 0 0) (none) (fun _ => 0) ?_ (And.intro (by exact slot_int rfl (by first | omega)) (And.intro rfl (And.intro rfl (And.intro rfl (And.intro rfl trivial))))) ?_
 ·exact ⟨by omega, by omega, IRow.nil _ _, hO5.nil_cons.perm (List.perm_append_comm (l₁ := [none]) (l₂ := [_, _]))⟩
 intro k v c mb w7 hIw7 ih8
 obtain ⟨hk0, hk1, hr, hO⟩ := hIw7
 show Run _ _ _ _ [(14, _), (1, _), (3, _), (12, _), (13, _)] _ _
 refine run_seq <| run_region <| rl_v rfl rfl rfl (ov_lss rfl rfl rfl) <| rl_nil <| run_seq ?_
 first | refine run_cond_dec rfl (fun h1 => ?_) (fun h1 => ?_) | refine run_cond rfl (fun h1 => ?_) (fun h1 => ?_)
 ·refine run_skip <| run_seq <| run_block <| run_seq <| run_region <| rl_v rfl rfl rfl (ov_index1 rfl Tryz.underlying22 (by kernel_rfl) rfl rfl ⟨by omega, by omega⟩ (by exact hga (by omega))) ?_
  refine rl_v rfl rfl rfl (ov_load rfl Tryz.underlying23 rfl rfl (by exact hrow _ hO.below _ (by omega) (by omega))) ?_
  refine rl_v rfl rfl rfl (ov_assign rfl rfl) <| rl_nil <| run_late (fun w' => Own w.heap.size w w' ([some (lch tb 100 [.slice ga f.n gc, .slice ba f.m bc, .slice qa f.m qc, v, .slice none 0 0])])) 11 mixed ?_
  have hO10 := hO.drew
  generalize World.drew w7 = w9 at hO10 ⊢
  have hS11 : Own w.heap.size w w9 ([some (lch tb 100 [.slice ga f.n gc, .slice ba f.m bc, .slice qa f.m qc, v, .slice none 0 0])]) := by first | exact hO10.sub (.cons_cons _ (List.nil_sublist _)) | exact hO10.sub (.cons _ (.cons_cons _ (List.nil_sublist _))) | exact hO10.sub (.cons _ (.cons _ (.cons_cons _ (List.nil_sublist _))))
  refine rhl_v 0 rfl (by kernel_rfl) rfl rfl rfl hS11 (fun _ hS => ov_move rfl rfl) ?_
  refine rhl_v 1 rfl (by kernel_rfl) rfl rfl rfl hS11 (fun _ hS => ov_move rfl rfl) ?_
  refine rhl_v 2 rfl (by kernel_rfl) rfl rfl rfl hS11 (fun _ hS => ov_nil rfl rfl) ?_
  refine rhl_v 3 rfl (by kernel_rfl) rfl rfl rfl hS11 (fun _ hS => ov_fieldS rfl Tryz.underlying100 rfl (fo := 3) rfl (by kernel_rfl) rfl) ?_
  refine rhl_v 4 rfl (by kernel_rfl) rfl rfl rfl hS11 (fun _ hS => ov_load rfl Tryz.underlying98 rfl rfl (by exact hS.cellL 0 rfl rfl)) ?_
  refine rhl_v 5 rfl (by kernel_rfl) rfl rfl rfl hS11 (fun _ hS => ov_move rfl rfl) ?_
  refine rhl_any1 6 (by kernel_rfl) ?_
  refine rcl_op rfl rfl (ow_call2 callable_72 rfl rfl rfl rfl rfl (ranks_any _ _ _ (f.ge k) _ (by have := hs.gl k hk0 h1; omega) (hO10.iatF (hcan k hk0 h1))) (by intro e w' hp; obtain ⟨bm, rfl, hOm⟩ := hp; exact ⟨_, rfl⟩)) ?_
  rintro _ w14 ⟨_, v12, he15, rfl, hp13⟩
  obtain ⟨bm, rfl, hOm⟩ := hp13
  injection he15 with he15; subst he15
  have hO16 := hO10.join hOm
  have hS17 : Own w.heap.size w w14 ([some (lch tb 100 [.slice ga f.n gc, .slice ba f.m bc, .slice qa f.m qc, v, .slice none 0 0])]) := by first | exact hO16.sub (.cons_cons _ (List.nil_sublist _)) | exact hO16.sub (.cons _ (.cons_cons _ (List.nil_sublist _))) | exact hO16.sub (.cons _ (.cons _ (.cons_cons _ (List.nil_sublist _))))
  refine ⟨hS17, ?_⟩
  refine rhl_any1 7 (by kernel_rfl) ?_
  refine rcl_op rfl rfl (ow_one rfl rfl rfl Tryz.underlying98 info_97 rfl hO16 rfl rfl) ?_
  rintro _ w18 ⟨b2, rfl, hO19, hs20⟩
  have hS21 : Own w.heap.size w w18 ([some (lch tb 100 [.slice ga f.n gc, .slice ba f.m bc, .slice qa f.m qc, v, .slice none 0 0])]) := by first | exact hO19.sub (.cons_cons _ (List.nil_sublist _)) | exact hO19.sub (.cons _ (.cons_cons _ (List.nil_sublist _))) | exact hO19.sub (.cons _ (.cons _ (.cons_cons _ (List.nil_sublist _))))
  refine ⟨hS21, ?_⟩
  refine rhl_any1 8 (by kernel_rfl) ?_
  refine rcl_op rfl rfl (ow_app1 rfl rfl rfl Tryz.underlying98 info_97 rfl hO19 3 hr rfl rfl rfl rfl ⟨by omega, by omega⟩) ?_
  rintro _ w22 ⟨v2, c2, rfl, hO23, hr2, hs24⟩
  have hS25 : Own w.heap.size w w22 ([some (lch tb 100 [.slice ga f.n gc, .slice ba f.m bc, .slice qa f.m qc, v, .slice none 0 0])]) := by first | exact hO23.sub (.cons_cons _ (List.nil_sublist _)) | exact hO23.sub (.cons _ (.cons_cons _ (List.nil_sublist _))) | exact hO23.sub (.cons _ (.cons _ (.cons_cons _ (List.nil_sublist _))))
  refine ⟨hS25, ?_⟩
  obtain ⟨ao2, cap2, rfl⟩ := Row.val hr2
  refine rhl_any1 9 (by kernel_rfl) ?_
  refine rcl_op rfl rfl (ow_v rfl rfl (ov_nil rfl rfl)) ?_
  rintro _ _ ⟨rfl, hw26⟩
  replace hw26 := hw26.symm; subst hw26
  refine ⟨hS25, ?_⟩
  refine rhl_v 10 rfl (by kernel_rfl) rfl rfl rfl hS25 (fun _ hS => ov_fieldS rfl Tryz.underlying100 rfl (fo := 3) rfl (by kernel_rfl) rfl) ?_
  refine rhl_any1 11 (by kernel_rfl) ?_
  refine rcl_last rfl rfl (ow_storeL rfl rfl (by kernel_rfl) hO23 1 rfl rfl rfl rfl rfl) ?_
  rintro _ w27 ⟨rfl, hO28, hs29⟩
  obtain ⟨q, rfl⟩ := Int.eq_ofNat_of_zero_le hk0
  refine rhl_done (by kernel_rfl) ?_
  refine run_inBlock <| run_region <| rl_v rfl rfl rfl (ov_add rfl rfl rfl (by omega)) ?_
  refine rl_v rfl rfl rfl (ov_move rfl rfl) <| rl_nil ?_
  refine Run.use (ih8 ((q : Int) + 1) (.slice ao2 ((q : Int).toNat + 1) cap2) (c2) (fun i => if i = q then bm else mb i) _ ?_ ?_) (And.intro (by exact slot_int rfl (by first | omega)) (And.intro rfl (And.intro rfl (And.intro rfl (And.intro rfl trivial)))))
  ·first | omega | (dsimp only; omega)
  ·exact ⟨by omega, by omega, hr2.congr (fun i i0 i1 => by unfold upd; by_cases e : i = q <;> simp [e] <;> omega), by rw [show ((q : Int) + 1).toNat = q + 1 by omega, maps_snoc (R := fun i => rkL (f.ge i) (f.gl i))]; exact hO28.perm perm_sink3⟩
 ·obtain ⟨ma, mc, rfl⟩ := Row.val hr
  have hkn : k = f.n := by omega
  subst hkn
  have hr1 := hr
  obtain ⟨M1, hM1⟩ : ∃ M1, M1 = c :: (List.range (f.n : Int).toNat).map (fun i : Nat => some (mch (mb i) (rkL (f.ge i) (f.gl i)))) := ⟨_, rfl⟩
  rw [← hM1] at hO
  refine run_exit rfl <| run_seq <| run_seq <| run_region <| rl_v rfl rfl rfl (ov_fieldS rfl Tryz.underlying27 rfl (fo := 1) rfl (by kernel_rfl) rfl) ?_
  refine rl_v rfl rfl rfl (ov_load rfl Tryz.underlying22 rfl rfl (by exact hO.cellL 1 rfl (off := 1) rfl)) ?_
  refine rl_v rfl rfl rfl (ov_len rfl Tryz.underlying22 rfl) <| rl_v rfl rfl rfl (ov_move rfl rfl) <| rl_nil <| run_block <| Run.keep [3, 31, 32, 33] (F' := [(3, _), (31, _), (32, _), (33, _)]) rfl <| run_loop4 (fun (k : Int) (v : Value) (c : Option Blk) (mb' : Nat → Nat) => [(33, .int .i64 k)]) [3, 31, 32] (fun (k : Int) (v : Value) (c : Option Blk) (mb' : Nat → Nat) (w30 : World) => 0 ≤ k ∧ k ≤ f.m ∧ IRow v 97 k.toNat (fun g => .map (some (mb' g.toNat))) c ∧ Own w.heap.size w w30 (some (lch tb 100 [.slice ga f.n gc, .slice ba f.m bc, .slice qa f.m qc, .slice ma (f.n : Int).toNat mc, v]) :: some (lch b1 27 [.slice ga f.n gc, .slice ba f.m bc, .slice qa f.m qc]) :: c :: ((List.range k.toNat).map (fun i : Nat => some (mch (mb' i) (rkL (f.be i) (f.bl i)))) ++ M1))) (fun (k : Int) (v : Value) (c : Option Blk) (mb' : Nat → Nat) => ((f.m : Int) - k).toNat) (0) (.slice none 0 0) (none) (fun _ => 0) ?_ (And.intro (by exact slot_int rfl (by first | omega)) (And.intro rfl (And.intro rfl (And.intro rfl trivial)))) ?_
  ·exact ⟨by omega, by omega, IRow.nil _ _, hO.nil_cons.perm perm_none3⟩
  intro k v c mb' w30 hIw30 ih31
  obtain ⟨hk0, hk1, hr, hO⟩ := hIw30
  show Run _ _ _ _ [(33, _), (3, _), (31, _), (32, _)] _ _
  refine run_seq <| run_region <| rl_v rfl rfl rfl (ov_lss rfl rfl rfl) <| rl_nil <| run_seq ?_
  first | refine run_cond_dec rfl (fun h1 => ?_) (fun h1 => ?_) | refine run_cond rfl (fun h1 => ?_) (fun h1 => ?_)
  ·refine run_skip <| run_seq <| run_block <| run_seq <| run_region <| rl_v rfl rfl rfl (ov_index1 rfl Tryz.underlying22 (by kernel_rfl) rfl rfl ⟨by omega, by omega⟩ (by exact hga' (by omega))) ?_
   refine rl_v rfl rfl rfl (ov_load rfl Tryz.underlying23 rfl rfl (by exact hrow' _ hO.below _ (by omega) (by omega))) ?_
   refine rl_v rfl rfl rfl (ov_assign rfl rfl) <| rl_nil <| run_late (fun w' => Own w.heap.size w w' ([some (lch tb 100 [.slice ga f.n gc, .slice ba f.m bc, .slice qa f.m qc, .slice ma (f.n : Int).toNat mc, v])])) 11 mixed ?_
   have hO33 := hO.drew
   generalize World.drew w30 = w32 at hO33 ⊢
   have hS34 : Own w.heap.size w w32 ([some (lch tb 100 [.slice ga f.n gc, .slice ba f.m bc, .slice qa f.m qc, .slice ma (f.n : Int).toNat mc, v])]) := by first | exact hO33.sub (.cons_cons _ (List.nil_sublist _)) | exact hO33.sub (.cons _ (.cons_cons _ (List.nil_sublist _))) | exact hO33.sub (.cons _ (.cons _ (.cons_cons _ (List.nil_sublist _))))
   refine rhl_v 0 rfl (by kernel_rfl) rfl rfl rfl hS34 (fun _ hS => ov_move rfl rfl) ?_
   refine rhl_v 1 rfl (by kernel_rfl) rfl rfl rfl hS34 (fun _ hS => ov_move rfl rfl) ?_
   refine rhl_v 2 rfl (by kernel_rfl) rfl rfl rfl hS34 (fun _ hS => ov_nil rfl rfl) ?_
   refine rhl_v 3 rfl (by kernel_rfl) rfl rfl rfl hS34 (fun _ hS => ov_fieldS rfl Tryz.underlying100 rfl (fo := 4) rfl (by kernel_rfl) rfl) ?_
   refine rhl_v 4 rfl (by kernel_rfl) rfl rfl rfl hS34 (fun _ hS => ov_load rfl Tryz.underlying98 rfl rfl (by exact hS.cellL 0 rfl rfl)) ?_
   refine rhl_v 5 rfl (by kernel_rfl) rfl rfl rfl hS34 (fun _ hS => ov_move rfl rfl) ?_
   refine rhl_any1 6 (by kernel_rfl) ?_
   refine rcl_op rfl rfl (ow_call2 callable_72 rfl rfl rfl rfl rfl (ranks_any _ _ _ (f.be k) _ (by have := hs.bl k hk0 h1; omega) (hO33.iatF (hcan' k hk0 h1))) (by intro e w' hp; obtain ⟨bm, rfl, hOm⟩ := hp; exact ⟨_, rfl⟩)) ?_
   rintro _ w37 ⟨_, v35, he38, rfl, hp36⟩
   obtain ⟨bm, rfl, hOm⟩ := hp36
   injection he38 with he38; subst he38
   have hO39 := hO33.join hOm
   have hS40 : Own w.heap.size w w37 ([some (lch tb 100 [.slice ga f.n gc, .slice ba f.m bc, .slice qa f.m qc, .slice ma (f.n : Int).toNat mc, v])]) := by first | exact hO39.sub (.cons_cons _ (List.nil_sublist _)) | exact hO39.sub (.cons _ (.cons_cons _ (List.nil_sublist _))) | exact hO39.sub (.cons _ (.cons _ (.cons_cons _ (List.nil_sublist _))))
   refine ⟨hS40, ?_⟩
   refine rhl_any1 7 (by kernel_rfl) ?_
   refine rcl_op rfl rfl (ow_one rfl rfl rfl Tryz.underlying98 info_97 rfl hO39 rfl rfl) ?_
   rintro _ w41 ⟨b2, rfl, hO42, hs43⟩
   have hS44 : Own w.heap.size w w41 ([some (lch tb 100 [.slice ga f.n gc, .slice ba f.m bc, .slice qa f.m qc, .slice ma (f.n : Int).toNat mc, v])]) := by first | exact hO42.sub (.cons_cons _ (List.nil_sublist _)) | exact hO42.sub (.cons _ (.cons_cons _ (List.nil_sublist _))) | exact hO42.sub (.cons _ (.cons _ (.cons_cons _ (List.nil_sublist _))))
   refine ⟨hS44, ?_⟩
   refine rhl_any1 8 (by kernel_rfl) ?_
   refine rcl_op rfl rfl (ow_app1 rfl rfl rfl Tryz.underlying98 info_97 rfl hO42 3 hr rfl rfl rfl rfl ⟨by omega, by omega⟩) ?_
   rintro _ w45 ⟨v2, c2, rfl, hO46, hr2, hs47⟩
   have hS48 : Own w.heap.size w w45 ([some (lch tb 100 [.slice ga f.n gc, .slice ba f.m bc, .slice qa f.m qc, .slice ma (f.n : Int).toNat mc, v])]) := by first | exact hO46.sub (.cons_cons _ (List.nil_sublist _)) | exact hO46.sub (.cons _ (.cons_cons _ (List.nil_sublist _))) | exact hO46.sub (.cons _ (.cons _ (.cons_cons _ (List.nil_sublist _))))
   refine ⟨hS48, ?_⟩
   obtain ⟨ao2, cap2, rfl⟩ := Row.val hr2
   refine rhl_any1 9 (by kernel_rfl) ?_
   refine rcl_op rfl rfl (ow_v rfl rfl (ov_nil rfl rfl)) ?_
   rintro _ _ ⟨rfl, hw49⟩
   replace hw49 := hw49.symm; subst hw49
   refine ⟨hS48, ?_⟩
   refine rhl_v 10 rfl (by kernel_rfl) rfl rfl rfl hS48 (fun _ hS => ov_fieldS rfl Tryz.underlying100 rfl (fo := 4) rfl (by kernel_rfl) rfl) ?_
   refine rhl_any1 11 (by kernel_rfl) ?_
   refine rcl_last rfl rfl (ow_storeL rfl rfl (by kernel_rfl) hO46 1 rfl rfl rfl rfl rfl) ?_
   rintro _ w50 ⟨rfl, hO51, hs52⟩
   obtain ⟨q, rfl⟩ := Int.eq_ofNat_of_zero_le hk0
   refine rhl_done (by kernel_rfl) ?_
   refine run_inBlock <| run_region <| rl_v rfl rfl rfl (ov_add rfl rfl rfl (by omega)) ?_
   refine rl_v rfl rfl rfl (ov_move rfl rfl) <| rl_nil ?_
   refine Run.use (ih31 ((q : Int) + 1) (.slice ao2 ((q : Int).toNat + 1) cap2) (c2) (fun i => if i = q then bm else mb' i) _ ?_ ?_) (And.intro (by exact slot_int rfl (by first | omega)) (And.intro rfl (And.intro rfl (And.intro rfl trivial))))
   ·first | omega | (dsimp only; omega)
   ·exact ⟨by omega, by omega, hr2.congr (fun i i0 i1 => by unfold upd; by_cases e : i = q <;> simp [e] <;> omega), by rw [show ((q : Int) + 1).toNat = q + 1 by omega, maps_snoc (R := fun i => rkL (f.be i) (f.bl i))]; exact hO51.perm perm_sink4⟩
  ·have hkn : k = f.m := by omega
   subst hkn
   obtain ⟨na, nc, rfl⟩ := Row.val hr
   refine run_exit rfl <| run_seq <| run_region <| rl_v rfl rfl rfl (ov_move rfl rfl) <| rl_v rfl rfl rfl (ov_assign rfl rfl) <| rl_nil <| run_ret Tryz.func40 (res1 Tryz.results40 rfl) ?_
   exact ⟨tb, _, rfl, hO, fun B w0 ww hO hF => ⟨ma, na, mc, nc, hO.readsL 0 rfl, hF, MAt.of hr1 hO (f.m + 3) (by rw [hM1]; simp [List.getElem?_append]) (fun i hi => by rw [hM1]; simp; grind), MAt.of hr hO 2 rfl (fun i hi => by simp; grind)⟩⟩
end Go.Proofs.YtlldeifbfpmbaaaGreat
set_option maxRecDepth 100000
namespace Go.Proofs.YtlldeifbfpmbaaaGreat
open Go.RowKit Go.Proofs
def val (M : Nat) (l : Int → Int) : Nat → Nat
 | 0 => 0
 | i + 1 => val M l i * (M + 1) + (l i + 1).toNat
theorem val_congr {M : Nat} {l s : Int → Int} : ∀ {n : Nat}, (∀ i : Int, 0 ≤ i → i < n → l i = s i) → val M l n = val M s n
 | 0, _ => rfl
 | n + 1, h => by
  show val M l n * (M + 1) + (l n + 1).toNat = val M s n * (M + 1) + (s n + 1).toNat
  rw [val_congr (n := n) fun i i0 i1 => h i i0 (by omega), h n (by omega) (by omega)]
def Dig (M n : Nat) (l : Int → Int) : Prop := ∀ i : Int, 0 ≤ i → i < n → -1 ≤ l i ∧ l i < M
theorem Dig.pred {M n : Nat} {l : Int → Int} (h : Dig M (n + 1) l) : Dig M n l := fun i i0 i1 => h i i0 (by omega)
theorem val_pow {M K : Nat} (hK : M + 1 ≤ K) {l : Int → Int} : ∀ {n : Nat}, Dig M n l → val M l n < K ^ n
 | 0, _ => by show 0 < 1; decide
 | n + 1, h => by
  have ih := val_pow hK (n := n) h.pred
  have h1 := h n (by omega) (by omega)
  show val M l n * (M + 1) + (l n + 1).toNat < K ^ n * K
  have h2 := Nat.mul_le_mul_left (val M l n) hK
  have h3 := Nat.mul_le_mul_right K (show val M l n + 1 ≤ K ^ n from ih)
  rw [Nat.succ_mul] at h3
  omega
theorem val_inj {M : Nat} {l s : Int → Int} : ∀ {n : Nat}, Dig M n l → Dig M n s → val M l n = val M s n → ∀ i : Int, 0 ≤ i → i < n → l i = s i
 | 0, _, _, _ => fun i i0 i1 => by omega
 | n + 1, hl, hs, e => fun i i0 i1 => by
  have h1 := hl n (by omega) (by omega)
  have h2 := hs n (by omega) (by omega)
  have e' : val M l n * (M + 1) + (l n + 1).toNat = val M s n * (M + 1) + (s n + 1).toNat := e
  have hv : val M l n = val M s n := by
   rcases Nat.lt_trichotomy (val M l n) (val M s n) with h | h | h
   ·have := Nat.mul_le_mul_right (M + 1) (show val M l n + 1 ≤ val M s n from h)
    rw [Nat.succ_mul] at this
    omega
   ·exact h
   ·have := Nat.mul_le_mul_right (M + 1) (show val M s n + 1 ≤ val M l n from h)
    rw [Nat.succ_mul] at this
    omega
  by_cases c : i = n
  ·rw [hv] at e'
   rw [c]
   omega
  ·exact val_inj hl.pred hs.pred hv i i0 (by omega)
namespace Fair
theorem Stab.dig {f : Fair} {s : Int → Int} (h : f.Stab s) : Dig f.m f.n s := fun i i0 i1 => by
 have := h.rng i i0 i1
 omega
structure AllTo (f : Fair) (N : Nat) (A : Nat → Int → Int) (k : Nat) : Prop where
 st : ∀ j : Nat, j < N → f.Stab (A j)
 inc : ∀ i j : Nat, i < j → j < N → val f.m (A i) f.n < val f.m (A j) f.n
 lt : ∀ j : Nat, j < N → val f.m (A j) f.n < k
 all : ∀ s, f.Stab s → val f.m s f.n < k → ∃ j : Nat, j < N ∧ ∀ g : Int, 0 ≤ g → g < f.n → A j g = s g
 len : N ≤ k
theorem AllTo.init (f : Fair) (A : Nat → Int → Int) : f.AllTo 0 A 0 := ⟨fun j h => by omega, fun i j h h' => by omega, fun j h => by omega, fun s _ h => by omega, Nat.le_refl _⟩
theorem AllTo.skip {f : Fair} {N : Nat} {A : Nat → Int → Int} {l : Int → Int} (h : f.AllTo N A (val f.m l f.n)) (hl : Dig f.m f.n l) (hn : ¬ f.Stab l) (hcg : ∀ s, f.Stab s → (∀ g : Int, 0 ≤ g → g < f.n → l g = s g) → f.Stab l) : f.AllTo N A (val f.m l f.n + 1) :=
 ⟨h.st, h.inc, fun j hj => by have := h.lt j hj; omega, fun s hs hv => by
  by_cases c : val f.m s f.n = val f.m l f.n
  ·exact absurd (hcg s hs (val_inj hl hs.dig c.symm)) hn
  ·exact h.all s hs (by omega), by have := h.len; omega⟩
theorem AllTo.take {f : Fair} {N : Nat} {A A' : Nat → Int → Int} {l : Int → Int} (h : f.AllTo N A (val f.m l f.n)) (hl : f.Stab l) (ho : ∀ j : Nat, j < N → A' j = A j) (hN : A' N = l) : f.AllTo (N + 1) A' (val f.m l f.n + 1) := by
 have hA : ∀ j : Nat, j < N + 1 → (j < N ∧ A' j = A j) ∨ (j = N ∧ A' j = l) := fun j hj => by
  by_cases c : j = N
  ·exact .inr ⟨c, by rw [c]; exact hN⟩
  ·exact .inl ⟨by omega, ho j (by omega)⟩
 refine ⟨fun j hj => ?_, fun i j hi hj => ?_, fun j hj => ?_, fun s hs hv => ?_, by have := h.len; omega⟩
 ·rcases hA j hj with ⟨c, e⟩ | ⟨c, e⟩
  ·rw [e]; exact h.st j c
  ·rw [e]; exact hl
 ·rcases hA i (by omega) with ⟨c, e⟩ | ⟨c, e⟩
  ·rcases hA j hj with ⟨c', e'⟩ | ⟨c', e'⟩
   ·rw [e, e']; exact h.inc i j hi c'
   ·rw [e, e']; exact h.lt i c
  ·omega
 ·rcases hA j hj with ⟨c, e⟩ | ⟨c, e⟩
  ·rw [e]; have := h.lt j c; omega
  ·rw [e]; omega
 ·by_cases c : val f.m s f.n = val f.m l f.n
  ·exact ⟨N, by omega, fun g g0 g1 => by rw [hN]; exact val_inj hl.dig hs.dig c.symm g g0 g1⟩
  ·obtain ⟨j, hj, e⟩ := h.all s hs (by omega)
   exact ⟨j, by omega, fun g g0 g1 => by rw [ho j hj]; exact e g g0 g1⟩
theorem share_any {f : Fair} (hf : f.Ok) {a b : Int → Int} (ha : f.Stab a) (hb : f.Stab b) : f.Share a b := by
 obtain ⟨l, hl⟩ := Best.exists hf
 have h1 := hl.share ha
 have h2 := hl.share hb
 exact ⟨fun g g0 g1 => (h1.who g g0 g1).symm.trans (h2.who g g0 g1), fun c c0 c1 => (h1.cnt c c0 c1).symm.trans (h2.cnt c c0 c1), fun c c0 c1 hlt g g0 g1 => by
  rw [← h1.cnt c c0 c1] at hlt
  exact (h1.low c c0 c1 hlt g g0 g1).symm.trans (h2.low c c0 c1 hlt g g0 g1)⟩
end Fair
end Go.Proofs.YtlldeifbfpmbaaaGreat
