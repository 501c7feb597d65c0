import Derived.Test.YtbepolognfdkeaaGreatGbB
import Derived.Test.YtbepolognfdkeaaGreatSri
import Derived.Test.YtbepolognfdkeaaGreatGaH
set_option maxRecDepth 100000
namespace Go.Proofs.YtbepolognfdkeaaGreat
open Go.RowKit Go.Proofs
theorem perm_psh {α : Type} {t5 t4 nb t3 lb t2 t1 wb c : α} {R : List α} : ([t5, t4, nb, t3, lb, t2, t1, wb, c] ++ R).Perm ([wb, c, t4, nb, t2, t1, t3, lb, t5] ++ R) := by
 classical
 rw [List.perm_iff_count]
 intro z
 simp only [List.count_append, List.count_cons, List.count_nil]
 omega
theorem perm_psh2 {α : Type} {t5 t4 nb t3 lb t2 t1 wb c : α} {R : List α} : ([wb, c, t4, nb, t2, t1, t3, lb, t5] ++ R).Perm ([t5, t4, nb, t3, lb, t2, t1, wb, c] ++ R) := perm_psh.symm
section
variable {B : Nat} {w0 : World} {G : Net} {R : List (Option Blk)} {oa la sa pa : Option Addr} {n lc m sc pc oc : Nat} {wb : Nat}
set_option maxHeartbeats 4000000 in
theorem fill_any (hG : G.Ok) (hs : G.Sm) (hT : TOwn R oa G.nn G.OL G.OE) (M : Int) (hM2 : M ≤ 1000000000000000) (hM : ∀ L fl, G.Flow L fl → fl ≤ M) (L : Int → Int) (fl : Int) (c : Option Blk) (w : World) (hF : G.Flow L fl) (f0 : 0 ≤ fl) (hr : SRow (.slice pa (2 * G.np) pc) 118 2 (2 * G.np) (pipF G L) c)
  (hO : Own B w0 w (some (lch wb 71 (wkL la n lc sa m sc pa (2 * G.np) pc oa G.nn oc fl)) :: c :: R)) :
  Calls Tryz.prog 56 #[ptr wb] w fun e w' => e = .returned (.tuple #[]) ∧ ∃ (L' : Int → Int) (fl' : Int) (c' : Option Blk) (LV : Int → Int), G.Flow L' fl' ∧ 0 ≤ fl' ∧ G.Lev L' LV ∧ LV (G.nn - 1) < 0 ∧ SRow (.slice pa (2 * G.np) pc) 118 2 (2 * G.np) (pipF G L') c' ∧ Own B w0 w' (some (lch wb 71 (wkL la n lc sa m sc pa (2 * G.np) pc oa G.nn oc fl')) :: c' :: R) := by
 have h2 := hG.n2
 have hnn := hs.nn
 have hnp := hs.np
 refine calls_of_run (F := [(0, _)]) Tryz.func56 rfl Tryz.ntmps56 rfl rfl <| run_seq <| run_region <| rl_ow rfl (ow_box _ rfl rfl rfl rfl rfl hO) ?_
 rintro _ w1 ⟨t1, rfl, hO2, hs3⟩
 refine rl_nil <| run_seq <| run_region <| rl_v rfl rfl rfl (ov_load rfl Tryz.underlying66 rfl rfl (by exact hO2.cellL 0 rfl (off := 0) rfl)) ?_
 refine rl_v rfl rfl rfl (ov_nil rfl rfl) <| rl_v rfl rfl rfl (ov_fieldS rfl Tryz.underlying71 rfl (fo := 3) rfl (by kernel_rfl) rfl) ?_
 refine rl_v rfl rfl rfl (ov_load rfl Tryz.underlying69 rfl rfl (by exact hO2.cellL 1 rfl (off := 3) rfl)) ?_
 refine rl_v rfl rfl rfl (ov_len rfl Tryz.underlying69 rfl) <| rl_v rfl rfl rfl (ov_sub rfl rfl rfl (by omega)) ?_
 refine rl_ow rfl (ow_alloc _ rfl rfl rfl zero_3 rfl hO2) ?_
 rintro _ w4 ⟨t2, rfl, hO5, hs6⟩
 refine rl_ow rfl (ow_storeL rfl rfl (by kernel_rfl) hO5 0 rfl rfl rfl rfl rfl) ?_
 rintro _ w7 ⟨rfl, hO8, hs9⟩
 refine rl_nil <| run_block <| Run.keep [1, 2] (F' := [(1, _), (2, _)]) rfl <| run_loop2 (fun (L1 : Int → Int) (fl1 : Int) => []) [1, 2] (fun (L1 : Int → Int) (fl1 : Int) (w10 : World) => ∃ c1 : Option Blk, G.Flow L1 fl1 ∧ 0 ≤ fl1 ∧ SRow (.slice pa (2 * G.np) pc) 118 2 (2 * G.np) (pipF G L1) c1 ∧ Own B w0 w10 ([some (lch t2 3 [iv ((G.nn : Int) - 1)]), some (lch t1 66 [ptr wb]), some (lch wb 71 (wkL la n lc sa m sc pa (2 * G.np) pc oa G.nn oc fl1)), c1] ++ R)) (fun (L1 : Int → Int) (fl1 : Int) => (M - fl1).toNat) (L) (fl) ?_ (And.intro rfl (And.intro rfl trivial)) ?_
 ·exact ⟨c, hF, f0, hr, hO8⟩
 intro L1 fl1 w10 hIw10 ih11
 obtain ⟨c1, hF1, hf1, hr1, hO1⟩ := hIw10
 show Run _ _ _ _ [(1, _), (2, _)] _ _
 refine run_block <| run_seq <| run_region <| rl_v rfl rfl rfl (ov_load rfl Tryz.underlying66 rfl rfl (by exact hO1.cellL 1 rfl (off := 0) rfl)) ?_
 refine rl_call callable_30 rfl rfl rfl rfl rfl rfl (reached_any wb G L1 la n lc sa m sc pa pc oa oc fl1 _ hG hs ⟨hO1.readsL 2 rfl, hr1.reads hO1 3 rfl, hT.itab (hO1.sub (List.sublist_append_right _ _))⟩) (fun e12 w13 hp14 => ?_)
 obtain ⟨lb, LV, rfl, hO2, hLV⟩ := hp14
 refine ⟨_, rfl, ?_⟩
 have hO15 := hO1.join hO2
 refine rl_ow rfl (ow_alloc _ rfl rfl rfl zero_36 rfl hO15) ?_
 rintro _ w16 ⟨t3, rfl, hO17, hs18⟩
 refine rl_ow rfl (ow_storeL rfl rfl (by kernel_rfl) hO17 0 rfl rfl rfl rfl rfl) ?_
 rintro _ w19 ⟨rfl, hO20, hs21⟩
 refine rl_nil <| run_seq <| run_seq <| run_region <| rl_v rfl rfl rfl (ov_load rfl Tryz.underlying36 rfl rfl (by exact hO20.cellL 0 rfl (off := 0) rfl)) ?_
 refine rl_v rfl rfl rfl (ov_load rfl Tryz.underlying3 rfl rfl (by exact hO20.cellL 2 rfl (off := 0) rfl)) ?_
 refine rl_v rfl rfl rfl (ov_index1 rfl Tryz.underlying36 (by kernel_rfl) rfl rfl ⟨by omega, by omega⟩ rfl) ?_
 refine rl_v rfl rfl rfl (ov_load rfl Tryz.underlying3 rfl rfl (by exact hO20.cellI 1 rfl ((G.nn : Int) - 1) (by omega) (by omega))) ?_
 refine rl_v rfl rfl rfl (ov_lss rfl rfl rfl) <| rl_nil ?_
 first | refine run_cond_dec rfl (fun c1' => ?_) (fun c1' => ?_) | refine run_cond rfl (fun c1' => ?_) (fun c1' => ?_)
 ·refine run_ret Tryz.func56 (res0 Tryz.results56) ?_
  exact ⟨rfl, L1, fl1, c1, LV, hF1, hf1, hLV, c1', hr1, hO20.sub (.cons _ (.cons _ (.cons _ (.cons _ (.refl _)))))⟩
 ·refine run_skip <| run_seq <| run_region <| rl_v rfl rfl rfl (ov_load rfl Tryz.underlying66 rfl rfl (by exact hO20.cellL 3 rfl (off := 0) rfl)) ?_
  refine rl_v rfl rfl rfl (ov_nil rfl rfl) <| rl_v rfl rfl rfl (ov_fieldS rfl Tryz.underlying71 rfl (fo := 3) rfl (by kernel_rfl) rfl) ?_
  refine rl_v rfl rfl rfl (ov_load rfl Tryz.underlying69 rfl rfl (by exact hO20.cellL 4 rfl (off := 3) rfl)) ?_
  refine rl_v rfl rfl rfl (ov_len rfl Tryz.underlying69 rfl) ?_
  refine rl_make (G.nn) rfl rfl rfl rfl Tryz.underlying36 info_3 rfl hO20 rfl rfl (by rfl) (by rfl) ⟨by omega, by omega⟩ (fun nb w22 hO23 hs24 => ?_)
  refine rl_ow rfl (ow_alloc _ rfl rfl rfl zero_36 rfl hO23) ?_
  rintro _ w25 ⟨t4, rfl, hO26, hs27⟩
  refine rl_ow rfl (ow_storeL rfl rfl (by kernel_rfl) hO26 0 rfl rfl rfl rfl rfl) ?_
  rintro _ w28 ⟨rfl, hO29, hs30⟩
  refine rl_nil <| run_seq <| run_region <| rl_ow rfl (ow_alloc _ rfl rfl rfl zero_85 rfl hO29) ?_
  rintro _ w31 ⟨t5, rfl, hO32, hs33⟩
  refine rl_nil <| run_seq <| run_region <| rl_v rfl rfl rfl (ov_func rfl rfl rfl) <| rl_ow rfl (ow_storeL rfl rfl (by kernel_rfl) hO32 0 rfl rfl rfl rfl rfl) ?_
  rintro _ w34 ⟨rfl, hO35, hs36⟩
  have hlv := hLV.rng
  have hOp := hO35.perm perm_psh
  refine rl_nil <| run_seq <| run_region <| rl_v rfl rfl rfl (ov_load rfl Tryz.underlying85 rfl rfl (by exact hOp.cellL 8 rfl (off := 0) rfl)) ?_
  refine rl_call callable_85 rfl rfl rfl rfl rfl rfl (push_any hG hs hT hlv _ 0 1152921504606846976 L1 (fun _ => 0) c1 _ rfl (by omega) (by omega) (by decide) (by decide) hF1.room (fun v v0 v1 => ⟨Int.le_refl _, by omega⟩) hr1 hOp) (fun e37 w38 hp39 => ?_)
  obtain ⟨got, L2, NX2, c2, rfl, hP, hr2, hO3⟩ := hp39
  refine ⟨_, rfl, ?_⟩
  have hg0 := hP.g0
  have hgp : 1 ≤ got := Classical.byContradiction fun hn => by
   obtain ⟨hL2, hD2, hN2, _⟩ := hP.none (by omega)
   exact c1' (Net.Dead.none hG hLV (hD2 (Net.Dead.init G L1 LV)) hN2)
  have hF2 := hF1.adds hP.room hP.adds
  refine rl_v rfl rfl rfl (ov_assign rfl rfl) <| rl_nil <| run_block <| Run.keep [1, 2, 5, 6] (F' := [(1, _), (2, _), (5, _), (6, _)]) rfl <| run_loop4 (fun (g3 : Int) (L3 : Int → Int) (fl3 : Int) (NX3 : Int → Int) => [(6, .int .i64 g3)]) [1, 2, 5] (fun (g3 : Int) (L3 : Int → Int) (fl3 : Int) (NX3 : Int → Int) (w40 : World) => ∃ c3 : Option Blk, G.Flow L3 (fl3 + g3) ∧ 0 ≤ g3 ∧ 0 ≤ fl3 ∧ fl1 + 1 ≤ fl3 + g3 ∧ (∀ v : Int, 0 ≤ v → v < G.nn → 0 ≤ NX3 v ∧ NX3 v ≤ G.OL v) ∧ SRow (.slice pa (2 * G.np) pc) 118 2 (2 * G.np) (pipF G L3) c3 ∧ Own B w0 w40 (pshL t2 t4 t1 t3 t5 nb lb wb c3 (wkL la n lc sa m sc pa (2 * G.np) pc oa G.nn oc fl3) G.nn NX3 LV ++ R)) (fun (g3 : Int) (L3 : Int → Int) (fl3 : Int) (NX3 : Int → Int) => (M - fl3).toNat) (got) (L2) (fl1) (NX2) ?_ (And.intro (by exact slot_int rfl (by first | omega)) (And.intro rfl (And.intro rfl (And.intro rfl trivial)))) ?_
  ·exact ⟨c2, hF2, hg0, hf1, by omega, hP.nx, hr2, hO3⟩
  intro g3 L3 fl3 NX3 w40 hIw40 ih41
  obtain ⟨c3, hF3, hg3, hf3, hpr, hnx3, hr3, hO4⟩ := hIw40
  show Run _ _ _ _ [(6, _), (1, _), (2, _), (5, _)] _ _
  have hMf := hM _ _ hF3
  refine run_seq <| run_seq <| run_region <| rl_v rfl rfl rfl (ov_move rfl rfl) <| rl_v rfl rfl rfl (ov_gtr rfl rfl rfl) <| rl_nil ?_
  first | refine run_cond_dec rfl (fun c2' => ?_) (fun c2' => ?_) | refine run_cond rfl (fun c2' => ?_) (fun c2' => ?_)
  ·refine run_skip <| run_seq <| run_block <| run_region <| rl_v rfl rfl rfl (ov_load rfl Tryz.underlying66 rfl rfl (by exact hO4.cellL 5 rfl (off := 0) rfl)) ?_
   refine rl_v rfl rfl rfl (ov_nil rfl rfl) <| rl_v rfl rfl rfl (ov_fieldS rfl Tryz.underlying71 rfl (fo := 4) rfl (by kernel_rfl) rfl) ?_
   refine rl_v rfl rfl rfl (ov_load rfl Tryz.underlying3 rfl rfl (by exact hO4.cellL 0 rfl (off := 4) rfl)) ?_
   refine rl_v rfl rfl rfl (ov_move rfl rfl) <| rl_v rfl rfl rfl (ov_add rfl rfl rfl (by omega)) ?_
   refine rl_v rfl rfl rfl (ov_nil rfl rfl) <| rl_v rfl rfl rfl (ov_fieldS rfl Tryz.underlying71 rfl (fo := 4) rfl (by kernel_rfl) rfl) ?_
   refine rl_ow rfl (ow_storeL rfl rfl (by kernel_rfl) hO4 0 rfl rfl rfl rfl rfl) ?_
   rintro _ w42 ⟨rfl, hO43, hs44⟩
   refine rl_nil <| run_inBlock <| run_region <| rl_v rfl rfl rfl (ov_load rfl Tryz.underlying85 rfl rfl (by exact hO43.cellL 8 rfl (off := 0) rfl)) ?_
   refine rl_call callable_85 rfl rfl rfl rfl rfl rfl (push_any hG hs hT hlv _ 0 1152921504606846976 L3 NX3 c3 _ rfl (by omega) (by omega) (by decide) (by decide) hF3.room hnx3 hr3 hO43) (fun e45 w46 hp47 => ?_)
   obtain ⟨got4, L4, NX4, c4, rfl, hP4, hr4, hO5⟩ := hp47
   refine ⟨_, rfl, ?_⟩
   refine rl_v rfl rfl rfl (ov_assign rfl rfl) <| rl_nil ?_
   refine Run.use (ih41 (got4) (L4) (fl3 + g3) (NX4) _ ?_ ?_) (And.intro (by exact slot_int rfl (by first | omega)) (And.intro rfl (And.intro rfl (And.intro rfl trivial))))
   ·first | omega | (dsimp only; omega)
   ·exact ⟨c4, hF3.adds hP4.room hP4.adds, hP4.g0, by omega, by have := hP4.g0; omega, hP4.nx, hr4, hO5⟩
  ·have hg30 : g3 = 0 := by omega
   subst hg30
   rw [Int.add_zero] at hF3
   refine run_exit rfl <| run_inBlock ?_
   refine Run.use (ih11 (L3) (fl3) _ ?_ ?_) (And.intro rfl (And.intro rfl trivial))
   ·(have := hM _ _ hF1; omega)
   ·exact ⟨c3, hF3, hf3, hr3, (hO4.perm perm_psh2).sub (.cons _ (.cons _ (.cons _ (.cons _ (.cons _ (.refl _))))))⟩
end
end Go.Proofs.YtbepolognfdkeaaGreat
set_option maxRecDepth 100000
namespace Go.Proofs.YtbepolognfdkeaaGreat
open Go.RowKit Go.Proofs Go.MapKept
theorem ov_buildA2 {P : Program} {N : Nat} {o : Oper} {F : Fr} {w : World} {T E : TypeId} {x y : Operand} {z a b : Value} (ho : o.op = .build T #[(0, x), (1, y)]) (hT : P.underlying T = some (.array 2 E)) (hz : (P.info? T).map (·.zero) = some (some z)) (hs : (P.info? E).map (·.size) = some 1)
  (hzc : z.cells.size = 2) (hx : Fr.ev F x = some a) (hy : Fr.ev F y = some b) (ha1 : a.oneCell' = true) (hb1 : b.oneCell' = true) : OpV P N o F w (.agg #[a, b]) := by
 intro ac hac
 obtain ⟨it, hit, hz0⟩ := Option.map_eq_some_iff.1 hz
 obtain ⟨ie, hie, hse⟩ := Option.map_eq_some_iff.1 hs
 obtain ⟨c0, c1, hc⟩ : ∃ c0 c1, z.cells = #[c0, c1] := by
  obtain ⟨l, hl⟩ : ∃ l, l = z.cells.toList := ⟨_, rfl⟩
  have hll : l.length = 2 := by rw [hl]; simpa using hzc
  match l, hll, hl with
  | [c0, c1], _, hl => exact ⟨c0, c1, by apply Array.ext'; rw [← hl]⟩
 have hca := cells_one ha1
 have hcb := cells_one hb1
 have h1 : (Instr.build T #[(0, a), (1, b)]).run P w = .ok (.agg #[a, b]) w := by
  unfold Instr.build
  simp [zeroValue, typeInfo, hit, hz0, run_underlying hT, sizeOf, hie, hse, Instr.fill, Result.andThen, hc, hca, hcb]
 unfold execOp
 rw [ho]
 simp [hac.ev hx, hac.ev hy, h1, Result.andThen]
theorem mput_mem : ∀ (L : List (Int × Value)) (k : Int) (v : Value) (x : Int), x ∈ (mput L k v).map (·.1) ↔ x = k ∨ x ∈ L.map (·.1)
 | [], k, v, x => by simp [mput]
 | (k0, v0) :: r, k, v, x => by
  unfold mput
  by_cases e : k = k0
  ·rw [if_pos e]; simp [e]
  ·rw [if_neg e]
   have ih := mput_mem r k v x
   rw [List.map_cons, List.mem_cons, ih, List.map_cons, List.mem_cons]
   constructor
   ·rintro (h | h | h)
    ·exact .inr (.inl h)
    ·exact .inl h
    ·exact .inr (.inr h)
   ·rintro (h | h | h)
    ·exact .inr (.inl h)
    ·exact .inl h
    ·exact .inr (.inr h)
theorem mput_lenM : ∀ (L : List (Int × Value)) (k : Int) (v : Value), (mput L k v).length ≤ L.length + 1
 | [], k, v => by simp [mput]
 | (k0, v0) :: r, k, v => by
  unfold mput
  split
  ·simp
  ·have := mput_lenM r k v
   simp only [List.length_cons]
   omega
def ldF (l : Lds) : Int → List Value := fun i => [iv (l.r i), iv (l.d i), iv (l.len i), iv (l.wo i)]
theorem keysB_any (bm : Nat) (w : World) : Calls Tryz.prog 69 #[.map (some bm)] w fun e w' => ∃ b1, e = .returned (.func (.func 119) #[] #[ptr b1]) ∧ Own w.heap.size w w' [some (lch b1 124 [.map (some bm)])] := by
 refine calls_of_run (F := [(0, _)]) Tryz.func69 rfl Tryz.ntmps69 rfl rfl ?_
 have hO0 := Own.init w
 refine run_seq <| run_region <| rl_ow rfl (ow_box _ rfl rfl rfl rfl rfl hO0) ?_
 rintro _ w1 ⟨b1, rfl, hO2, hs3⟩
 refine rl_v rfl rfl rfl (ov_assign rfl rfl) <| rl_nil <| run_seq <| run_region <| rl_v rfl rfl rfl (ov_func rfl rfl rfl) <| rl_v rfl rfl rfl (ov_assign rfl rfl) <| rl_nil <| run_ret Tryz.func69 (res1 Tryz.results69 rfl) ?_
 exact ⟨b1, rfl, hO2⟩
def spF (X : Int → Int) : Int → List Value := fun k => [iv (X k), iv (X (k + 1))]
set_option maxHeartbeats 2000000 in
theorem spans_any (la : Option Addr) (lc : Nat) (l : Lds) (w : World) (hn : l.n ≤ 100000) (hM : ∀ i : Int, 0 ≤ i → i < l.n → 0 ≤ l.r i ∧ l.d i ≤ 1000000000000000) (h : SAt w.heap.size w la 4 l.n (ldF l)) :
  Calls Tryz.prog 45 #[.slice la l.n lc] w fun e w' => ∃ (sa : Option Addr) (sc c : Nat) (X : Int → Int) (cb : Option Blk), e = .returned (.slice sa (c - 1) sc) ∧ Cuts l c X ∧ SRow (.slice sa (c - 1) sc) 79 2 (c - 1) (spF X) cb ∧ Own w.heap.size w w' [cb] := by
 obtain ⟨lb, lo, hla, hlr⟩ := h.open (by decide)
 refine calls_of_run (F := [(0, _)]) Tryz.func45 rfl Tryz.ntmps45 rfl rfl ?_
 have hO0 := Own.init w
 refine run_seq <| run_region <| rl_v rfl rfl rfl (ov_assign rfl rfl) <| rl_nil <| run_seq <| run_region <| rl_ow rfl (ow_makemap rfl rfl rfl hO0) ?_
 rintro _ w1 ⟨bm, rfl, hO2, hs3⟩
 refine rl_v rfl rfl rfl (ov_assign rfl rfl) <| rl_nil <| run_seq <| run_seq <| run_region <| rl_v rfl rfl rfl (ov_move rfl rfl) <| rl_v rfl rfl rfl (ov_len rfl Tryz.underlying24 rfl) <| rl_v rfl rfl rfl (ov_move rfl rfl) <| rl_nil <| run_block <| Run.keep [3, 10, 11, 12] (F' := [(3, _), (10, _), (11, _), (12, _)]) rfl <| run_loop1 (fun (i : Nat) => [(12, .int .i64 (i : Int))]) [3, 10, 11] (fun (i : Nat) (w4 : World) => i ≤ l.n ∧ ∃ L : List (Int × Value), (L.map (·.1)).Nodup ∧ (∀ t : Int, t ∈ L.map (·.1) ↔ ∃ j : Int, (0 ≤ j ∧ j < i) ∧ (t = l.r j ∨ t = l.d j)) ∧ L.length ≤ 2 * i ∧ Own w.heap.size w w4 [some (mch bm L)]) (fun (i : Nat) => l.n - i) (0) ?_ (And.intro (by exact slot_int rfl (by first | omega)) (And.intro rfl (And.intro rfl (And.intro rfl trivial)))) ?_
 ·exact ⟨Nat.zero_le _, [], List.nodup_nil, (fun t => by simp; intro x h1 h2; omega), Nat.le_refl _, hO2⟩
 intro i w4 hIw4 ih5
 obtain ⟨hi, L, hnd, hkm, hll, hO1⟩ := hIw4
 show Run _ _ _ _ [(12, _), (3, _), (10, _), (11, _)] _ _
 refine run_seq <| run_region <| rl_v rfl rfl rfl (ov_lss rfl rfl rfl) <| rl_nil <| run_seq ?_
 first | refine run_cond_dec rfl (fun c1 => ?_) (fun c1 => ?_) | refine run_cond rfl (fun c1 => ?_) (fun c1 => ?_)
 ·refine run_skip <| run_seq <| run_block <| run_seq <| run_region <| rl_v rfl rfl rfl (ov_index rfl Tryz.underlying24 (by kernel_rfl) (s := 4) rfl rfl ⟨by omega, by omega⟩ (by exact hla (by omega))) ?_
  refine rl_v rfl rfl rfl (ov_loadE rfl Tryz.underlying58 rfl (by kernel_rfl) rfl ⟨by omega, by omega⟩ rfl (hlr _ hO1.below)) ?_
  refine rl_ow rfl (ow_alloc _ rfl rfl rfl zero_58 rfl hO1) ?_
  rintro _ w6 ⟨b5, rfl, hO7, hs8⟩
  refine rl_ow rfl (ow_storeW rfl rfl (by kernel_rfl) hO7 0 rfl rfl (by rfl) rfl (by rfl)) ?_
  rintro _ w9 ⟨rfl, hO10, hs11⟩
  refine rl_nil <| run_held (fun w' => Own w.heap.size w w' ([some (lch b5 58 (ldF l i))])) mixed ?_
  have hO13 := hO10.drew
  generalize World.drew w9 = w12 at hO13 ⊢
  have hS14 : Own w.heap.size w w12 ([some (lch b5 58 (ldF l i))]) := by exact hO13.sub (.cons_cons _ (List.nil_sublist _))
  refine rh_v 0 rfl (by kernel_rfl) rfl rfl rfl hS14 (fun _ hS => ov_move rfl rfl) ?_
  refine rh_v 1 rfl (by kernel_rfl) rfl rfl rfl hS14 (fun _ hS => ov_fieldS rfl Tryz.underlying58 rfl (fo := 0) rfl (by kernel_rfl) rfl) ?_
  refine rh_v 2 rfl (by kernel_rfl) rfl rfl rfl hS14 (fun _ hS => ov_load rfl Tryz.underlying3 rfl rfl (by exact hS.cellL 0 rfl (off := 0) rfl)) ?_
  refine rh_v 3 rfl (by kernel_rfl) rfl rfl rfl hS14 (fun _ hS => ov_move rfl rfl) ?_
  refine rh_v 4 rfl (by kernel_rfl) rfl rfl rfl hS14 (fun _ hS => ov_fieldS rfl Tryz.underlying58 rfl (fo := 1) rfl (by kernel_rfl) rfl) ?_
  refine rh_v 5 rfl (by kernel_rfl) rfl rfl rfl hS14 (fun _ hS => ov_load rfl Tryz.underlying3 rfl rfl (by exact hS.cellL 0 rfl (off := 1) rfl)) ?_
  refine rh_any1 6 (by kernel_rfl) ?_
  refine rc_op rfl rfl (ow_mapput rfl rfl Tryz.underlying124 Tryz.underlying3 hO13 1 rfl rfl rfl rfl) ?_
  rintro _ w15 ⟨rfl, hO16, hs17⟩
  have hS18 : Own w.heap.size w w15 ([some (lch b5 58 (ldF l i))]) := by exact hO16.sub (.cons_cons _ (List.nil_sublist _))
  refine ⟨hS18, ?_⟩
  refine rh_any1 7 (by kernel_rfl) ?_
  refine rc_op rfl rfl (ow_mapput rfl rfl Tryz.underlying124 Tryz.underlying3 hO16 1 rfl rfl rfl rfl) ?_
  rintro _ w19 ⟨rfl, hO20, hs21⟩
  have hS22 : Own w.heap.size w w19 ([some (lch b5 58 (ldF l i))]) := by exact hO20.sub (.cons_cons _ (List.nil_sublist _))
  refine ⟨hS22, ?_⟩
  have hm2 : ∀ t : Int, t ∈ (mput (mput L (l.r i) (.bool true)) (l.d i) (.bool true)).map (·.1) ↔ ∃ j : Int, (0 ≤ j ∧ j < ((i + 1 : Nat) : Int)) ∧ (t = l.r j ∨ t = l.d j) := fun t => by
   rw [mput_mem, mput_mem, hkm t]
   constructor
   ·rintro (e | e | ⟨j, hj, e⟩)
    ·exact ⟨i, by omega, .inr e⟩
    ·exact ⟨i, by omega, .inl e⟩
    ·exact ⟨j, by omega, e⟩
   ·rintro ⟨j, hj, e⟩
    by_cases c : j = i
    ·rw [c] at e
     exact e.elim (fun e => .inr (.inl e)) .inl
    ·exact .inr (.inr ⟨j, by omega, e⟩)
  have hl2 := mput_lenM (mput L (l.r i) (.bool true)) (l.d i) (.bool true)
  have hl1 := mput_lenM L (l.r i) (.bool true)
  refine rh_done (by kernel_rfl) ?_
  refine run_inBlock <| run_region <| rl_v rfl rfl rfl (ov_add rfl rfl rfl (by omega)) ?_
  refine rl_v rfl rfl rfl (ov_move rfl rfl) <| rl_nil ?_
  refine Run.use (ih5 (i + 1) _ ?_ ?_) (And.intro (by exact slot_int rfl (by first | omega)) (And.intro rfl (And.intro rfl (And.intro rfl trivial))))
  ·first | omega | (dsimp only; omega)
  ·exact ⟨by omega, mput (mput L (l.r i) (.bool true)) (l.d i) (.bool true), mput_nodup _ _ (mput_nodup _ _ hnd), hm2, by omega, hO20.tail⟩
 ·refine run_exit rfl <| run_seq <| run_region <| rl_v rfl rfl rfl (ov_move rfl rfl) ?_
  refine rl_call callable_69 rfl rfl rfl rfl rfl rfl (keysB_any bm _) (fun e23 w24 hp25 => ?_)
  obtain ⟨b1, rfl, hO2⟩ := hp25
  refine ⟨_, rfl, ?_⟩
  have hO26 := hO1.join hO2
  refine rl_call callable_58 rfl rfl rfl rfl rfl rfl (sortedK_any 119 124 keysB_it callable_119 w.heap.size b1 bm w _ L [] hnd (by omega) hO26) (fun e27 w28 hp29 => ?_)
  obtain ⟨va, vc, c, X, cx, rfl, hv, hcl, hri, hmem, hO3⟩ := hp29
  refine ⟨_, rfl, ?_⟩
  have hC : Cuts l c X := ⟨hri.inc, fun t => by rw [hmem t, hkm t, show i = l.n by omega], by omega⟩
  have hO4 := hO3.sub (.cons_cons _ (List.nil_sublist _) : List.Sublist [cx] _)
  obtain ⟨vb, hva⟩ := hv.addr
  refine rl_v rfl rfl rfl (ov_assign rfl rfl) <| rl_nil <| run_seq <| run_region <| rl_v rfl rfl rfl (ov_assign rfl rfl) <| rl_nil <| run_seq <| run_seq <| run_region <| rl_v rfl rfl rfl (ov_assign rfl rfl) <| rl_nil <| run_block <| Run.keep [6, 7, 8] (F' := [(6, _), (7, _), (8, _)]) rfl <| run_loop2 (fun (k : Nat) (v : Value) => [(8, .int .i64 (k : Int)), (7, v)]) [6] (fun (k : Nat) (v : Value) (w30 : World) => k ≤ c - 1 ∧ ∃ cb : Option Blk, SRow v 79 2 k (spF X) cb ∧ Own w.heap.size w w30 [cb, cx]) (fun (k : Nat) (v : Value) => c - 1 - k) (0) (.slice none 0 0) ?_ (And.intro (by exact slot_int rfl (by first | omega)) (And.intro rfl (And.intro rfl trivial))) ?_
  ·exact ⟨Nat.zero_le _, none, SRow.nil _ _ _, hO4.nil_cons⟩
  intro k v w30 hIw30 ih31
  obtain ⟨hk, cb, hr, hO5⟩ := hIw30
  show Run _ _ _ _ [(8, _), (7, _), (6, _)] _ _
  refine run_seq <| run_seq <| run_region <| rl_v rfl rfl rfl (ov_move rfl rfl) <| rl_v rfl rfl rfl (ov_add rfl rfl rfl (by omega)) ?_
  refine rl_v rfl rfl rfl (ov_move rfl rfl) <| rl_v rfl rfl rfl (ov_len rfl Tryz.underlying36 rfl) <| rl_v rfl rfl rfl (ov_lss rfl rfl rfl) <| rl_nil ?_
  first | refine run_cond_dec rfl (fun c2 => ?_) (fun c2 => ?_) | refine run_cond rfl (fun c2 => ?_) (fun c2 => ?_)
  ·refine run_skip <| run_seq <| run_block <| run_held (fun w' => Own w.heap.size w w' ([cx])) mixed ?_
   have hO33 := hO5.drew
   generalize World.drew w30 = w32 at hO33 ⊢
   have hS34 : Own w.heap.size w w32 ([cx]) := by first | exact hO33.tail | exact hO33.tail.tail
   refine rh_v 0 rfl (by kernel_rfl) rfl rfl rfl hS34 (fun _ hS => ov_move rfl rfl) ?_
   refine rh_v 1 rfl (by kernel_rfl) rfl rfl rfl hS34 (fun _ hS => ov_move rfl rfl) ?_
   refine rh_v 2 rfl (by kernel_rfl) rfl rfl rfl hS34 (fun _ hS => ov_move rfl rfl) ?_
   refine rh_v 3 rfl (by kernel_rfl) rfl rfl rfl hS34 (fun _ hS => ov_index1 rfl Tryz.underlying36 (by kernel_rfl) rfl rfl ⟨by omega, by omega⟩ (by exact hva (by omega))) ?_
   refine rh_v 4 rfl (by kernel_rfl) rfl rfl rfl hS34 (fun _ hS => ov_load rfl Tryz.underlying3 rfl rfl (by exact hv.cellU hS 0 rfl (hva (by omega)) (i := k) (by omega) (by omega))) ?_
   refine rh_v 5 rfl (by kernel_rfl) rfl rfl rfl hS34 (fun _ hS => ov_move rfl rfl) ?_
   refine rh_v 6 rfl (by kernel_rfl) rfl rfl rfl hS34 (fun _ hS => ov_move rfl rfl) ?_
   refine rh_v 7 rfl (by kernel_rfl) rfl rfl rfl hS34 (fun _ hS => ov_add rfl rfl rfl (by omega)) ?_
   refine rh_v 8 rfl (by kernel_rfl) rfl rfl rfl hS34 (fun _ hS => ov_index1 rfl Tryz.underlying36 (by kernel_rfl) rfl rfl ⟨by omega, by omega⟩ (by exact hva (by omega))) ?_
   refine rh_v 9 rfl (by kernel_rfl) rfl rfl rfl hS34 (fun _ hS => ov_load rfl Tryz.underlying3 rfl rfl (by exact hv.cellU hS 0 rfl (hva (by omega)) (i := k + 1) (by omega) (by omega))) ?_
   refine rh_v 10 rfl (by kernel_rfl) rfl rfl rfl hS34 (fun _ hS => ov_buildA2 rfl Tryz.underlying79 zero_79 (by kernel_rfl) rfl rfl rfl rfl rfl) ?_
   refine rh_any1 11 (by kernel_rfl) ?_
   refine rc_op rfl rfl (ow_build [_] rfl rfl rfl rfl rfl Tryz.underlying37 info_79 (by decide) hO33 rfl rfl) ?_
   rintro _ w35 ⟨b44, rfl, hO36, hs37⟩
   have hS38 : Own w.heap.size w w35 ([cx]) := by first | exact hO36.tail | exact hO36.tail.tail
   refine ⟨hS38, ?_⟩
   refine rh_any1 12 (by kernel_rfl) ?_
   refine rc_op rfl rfl (ow_appR1 rfl rfl rfl Tryz.underlying37 info_79 rfl rfl hO36 0 hr rfl rfl rfl rfl rfl ⟨by omega, by omega⟩) ?_
   rintro _ w39 ⟨v5, c5, rfl, hO40, hr5, hs41⟩
   have hS42 : Own w.heap.size w w39 ([cx]) := by first | exact hO40.tail | exact hO40.tail.tail
   refine ⟨hS42, ?_⟩
   have hsp : ∀ j : Int, 0 ≤ j → j < ((k + 1 : Nat) : Int) → upd (spF X) k [iv (X k), iv (X (k + 1))] j = spF X j := fun j _ _ => by
    by_cases e : j = k
    ·rw [e, upd_same]; rfl
    ·rw [upd_ne _ _ e]
   refine rh_v 13 rfl (by kernel_rfl) rfl rfl rfl hS42 (fun _ hS => ov_assign rfl rfl) ?_
   refine rh_done (by kernel_rfl) ?_
   refine run_inBlock <| run_region <| rl_v rfl rfl rfl (ov_move rfl rfl) <| rl_v rfl rfl rfl (ov_add rfl rfl rfl (by omega)) ?_
   refine rl_v rfl rfl rfl (ov_assign rfl rfl) <| rl_nil ?_
   refine Run.use (ih31 (k + 1) (v5) _ ?_ ?_) (And.intro (by exact slot_int rfl (by first | omega)) (And.intro rfl (And.intro rfl trivial)))
   ·first | omega | (dsimp only; omega)
   ·exact ⟨by omega, c5, hr5.congr hsp, hO40⟩
  ·obtain ⟨sa, sc, rfl⟩ := Row.val hr
   have hkc : k = c - 1 := by omega
   subst hkc
   refine run_exit rfl <| run_seq <| run_region <| rl_v rfl rfl rfl (ov_move rfl rfl) <| rl_v rfl rfl rfl (ov_assign rfl rfl) <| rl_nil <| run_ret Tryz.func45 (res1 Tryz.results45 rfl) ?_
   exact ⟨sa, sc, c, X, cb, rfl, hC, hr, hO5.sub (.cons_cons _ (List.nil_sublist _))⟩
end Go.Proofs.YtbepolognfdkeaaGreat
