import Derived.Test.YtbepolognfdkeaaSri
import Derived.Test.YtbepolognfdkeaaGaG
set_option maxRecDepth 100000
namespace Go.Proofs.Ytbepolognfdkeaa
open Go.RowKit Go.Proofs Go.MapKept
theorem ov_buildA2 {P : Program} {N : Nat} {o : Oper} {F : Fr} {w : World} {T E : TypeId} {x y : Operand} {z a b : Value} (ho : o.op = .build T #[(0, x), (1, y)]) (hT : P.underlying T = some (.array 2 E)) (hz : (P.info? T).map (·.zero) = some (some z)) (hs : (P.info? E).map (·.size) = some 1)
  (hzc : z.cells.size = 2) (hx : Fr.ev F x = some a) (hy : Fr.ev F y = some b) (ha1 : a.oneCell' = true) (hb1 : b.oneCell' = true) : OpV P N o F w (.agg #[a, b]) := by
 intro ac hac
 obtain ⟨it, hit, hz0⟩ := Option.map_eq_some_iff.1 hz
 obtain ⟨ie, hie, hse⟩ := Option.map_eq_some_iff.1 hs
 obtain ⟨c0, c1, hc⟩ : ∃ c0 c1, z.cells = #[c0, c1] := by
  obtain ⟨l, hl⟩ : ∃ l, l = z.cells.toList := ⟨_, rfl⟩
  have hll : l.length = 2 := by rw [hl]; simpa using hzc
  match l, hll, hl with
  | [c0, c1], _, hl => exact ⟨c0, c1, by apply Array.ext'; rw [← hl]⟩
 have hca := cells_one ha1
 have hcb := cells_one hb1
 have h1 : (Instr.build T #[(0, a), (1, b)]).run P w = .ok (.agg #[a, b]) w := by
  unfold Instr.build
  simp [zeroValue, typeInfo, hit, hz0, run_underlying hT, sizeOf, hie, hse, Instr.fill, Result.andThen, hc, hca, hcb]
 unfold execOp
 rw [ho]
 simp [hac.ev hx, hac.ev hy, h1, Result.andThen]
theorem mput_mem : ∀ (L : List (Int × Value)) (k : Int) (v : Value) (x : Int), x ∈ (mput L k v).map (·.1) ↔ x = k ∨ x ∈ L.map (·.1)
 | [], k, v, x => by simp [mput]
 | (k0, v0) :: r, k, v, x => by
  unfold mput
  by_cases e : k = k0
  ·rw [if_pos e]; simp [e]
  ·rw [if_neg e]
   have ih := mput_mem r k v x
   rw [List.map_cons, List.mem_cons, ih, List.map_cons, List.mem_cons]
   constructor
   ·rintro (h | h | h)
    ·exact .inr (.inl h)
    ·exact .inl h
    ·exact .inr (.inr h)
   ·rintro (h | h | h)
    ·exact .inr (.inl h)
    ·exact .inl h
    ·exact .inr (.inr h)
theorem mput_lenM : ∀ (L : List (Int × Value)) (k : Int) (v : Value), (mput L k v).length ≤ L.length + 1
 | [], k, v => by simp [mput]
 | (k0, v0) :: r, k, v => by
  unfold mput
  split
  ·simp
  ·have := mput_lenM r k v
   simp only [List.length_cons]
   omega
def ldF (l : Lds) : Int → List Value := fun i => [iv (l.r i), iv (l.d i), iv (l.len i), iv (l.wo i)]
theorem keysB_any (bm : Nat) (w : World) : Calls Try.prog 67 #[.map (some bm)] w fun e w' => ∃ b1, e = .returned (.func (.func 82) #[] #[ptr b1]) ∧ Own w.heap.size w w' [some (lch b1 114 [.map (some bm)])] := by
 refine calls_of_run (F := [(0, _)]) Try.func67 rfl Try.ntmps67 rfl rfl ?_
 have hO0 := Own.init w
 refine run_seq <| run_region <| rl_ow rfl (ow_box _ rfl rfl rfl rfl rfl hO0) ?_
 rintro _ w1 ⟨b1, rfl, hO2, hs3⟩
 refine rl_v rfl rfl rfl (ov_assign rfl rfl) <| rl_nil <| run_seq <| run_region <| rl_v rfl rfl rfl (ov_func rfl rfl rfl) <| rl_v rfl rfl rfl (ov_assign rfl rfl) <| rl_nil <| run_ret Try.func67 (res1 Try.results67 rfl) ?_
 exact ⟨b1, rfl, hO2⟩
theorem keysI_any (bm : Nat) (w : World) : Calls Try.prog 73 #[.map (some bm)] w fun e w' => ∃ b1, e = .returned (.func (.func 94) #[] #[ptr b1]) ∧ Own w.heap.size w w' [some (lch b1 92 [.map (some bm)])] := by
 refine calls_of_run (F := [(0, _)]) Try.func73 rfl Try.ntmps73 rfl rfl ?_
 have hO0 := Own.init w
 refine run_seq <| run_region <| rl_ow rfl (ow_box _ rfl rfl rfl rfl rfl hO0) ?_
 rintro _ w1 ⟨b1, rfl, hO2, hs3⟩
 refine rl_v rfl rfl rfl (ov_assign rfl rfl) <| rl_nil <| run_seq <| run_region <| rl_v rfl rfl rfl (ov_func rfl rfl rfl) <| rl_v rfl rfl rfl (ov_assign rfl rfl) <| rl_nil <| run_ret Try.func73 (res1 Try.results73 rfl) ?_
 exact ⟨b1, rfl, hO2⟩
def spF (X : Int → Int) : Int → List Value := fun k => [iv (X k), iv (X (k + 1))]
set_option maxHeartbeats 2000000 in
theorem spans_any (la : Option Addr) (lc : Nat) (l : Lds) (w : World) (hn : l.n ≤ 100000) (hM : ∀ i : Int, 0 ≤ i → i < l.n → 0 ≤ l.r i ∧ l.d i ≤ 1000000000000000) (h : SAt w.heap.size w la 4 l.n (ldF l)) :
  Calls Try.prog 46 #[.slice la l.n lc] w fun e w' => ∃ (sa : Option Addr) (sc c : Nat) (X : Int → Int) (cb : Option Blk), e = .returned (.slice sa (c - 1) sc) ∧ Cuts l c X ∧ SRow (.slice sa (c - 1) sc) 89 2 (c - 1) (spF X) cb ∧ Own w.heap.size w w' [cb] := by
 obtain ⟨lb, lo, hla, hlr⟩ := h.open (by decide)
 refine calls_of_run (F := [(0, _)]) Try.func46 rfl Try.ntmps46 rfl rfl ?_
 have hO0 := Own.init w
 refine run_seq <| run_region <| rl_v rfl rfl rfl (ov_assign rfl rfl) <| rl_nil <| run_seq <| run_region <| rl_ow rfl (ow_makemap rfl rfl rfl hO0) ?_
 rintro _ w1 ⟨bm, rfl, hO2, hs3⟩
 refine rl_v rfl rfl rfl (ov_assign rfl rfl) <| rl_nil <| run_seq <| run_seq <| run_region <| rl_v rfl rfl rfl (ov_move rfl rfl) <| rl_v rfl rfl rfl (ov_len rfl Try.underlying27 rfl) <| rl_v rfl rfl rfl (ov_move rfl rfl) <| rl_nil <| run_block <| Run.keep [3, 10, 11, 12] (F' := [(3, _), (10, _), (11, _), (12, _)]) rfl <| run_loop1 (fun (i : Nat) => [(12, .int .i64 (i : Int))]) [3, 10, 11] (fun (i : Nat) (w4 : World) => i ≤ l.n ∧ ∃ L : List (Int × Value), (L.map (·.1)).Nodup ∧ (∀ t : Int, t ∈ L.map (·.1) ↔ ∃ j : Int, (0 ≤ j ∧ j < i) ∧ (t = l.r j ∨ t = l.d j)) ∧ L.length ≤ 2 * i ∧ Own w.heap.size w w4 [some (mch bm L)]) (fun (i : Nat) => l.n - i) (0) ?_ (And.intro (by exact slot_int rfl (by first | omega)) (And.intro rfl (And.intro rfl (And.intro rfl trivial)))) ?_
 ·exact ⟨Nat.zero_le _, [], List.nodup_nil, (fun t => by simp; intro x h1 h2; omega), Nat.le_refl _, hO2⟩
 intro i w4 hIw4 ih5
 obtain ⟨hi, L, hnd, hkm, hll, hO1⟩ := hIw4
 show Run _ _ _ _ [(12, _), (3, _), (10, _), (11, _)] _ _
 refine run_seq <| run_region <| rl_v rfl rfl rfl (ov_lss rfl rfl rfl) <| rl_nil <| run_seq ?_
 first | refine run_cond_dec rfl (fun c1 => ?_) (fun c1 => ?_) | refine run_cond rfl (fun c1 => ?_) (fun c1 => ?_)
 ·refine run_skip <| run_seq <| run_block <| run_seq <| run_region <| rl_v rfl rfl rfl (ov_index rfl Try.underlying27 (by kernel_rfl) (s := 4) rfl rfl ⟨by omega, by omega⟩ (by exact hla (by omega))) ?_
  refine rl_v rfl rfl rfl (ov_loadE rfl Try.underlying84 rfl (by kernel_rfl) rfl ⟨by omega, by omega⟩ rfl (hlr _ hO1.below)) ?_
  refine rl_ow rfl (ow_alloc _ rfl rfl rfl zero_84 rfl hO1) ?_
  rintro _ w6 ⟨b5, rfl, hO7, hs8⟩
  refine rl_ow rfl (ow_storeW rfl rfl (by kernel_rfl) hO7 0 rfl rfl (by rfl) rfl (by rfl)) ?_
  rintro _ w9 ⟨rfl, hO10, hs11⟩
  refine rl_nil <| run_held (fun w' => Own w.heap.size w w' ([some (lch b5 84 (ldF l i))])) mixed ?_
  have hO13 := hO10.drew
  generalize World.drew w9 = w12 at hO13 ⊢
  have hS14 : Own w.heap.size w w12 ([some (lch b5 84 (ldF l i))]) := by exact hO13.sub (.cons_cons _ (List.nil_sublist _))
  refine rh_v 0 rfl (by kernel_rfl) rfl rfl rfl hS14 (fun _ hS => ov_move rfl rfl) ?_
  refine rh_v 1 rfl (by kernel_rfl) rfl rfl rfl hS14 (fun _ hS => ov_fieldS rfl Try.underlying84 rfl (fo := 0) rfl (by kernel_rfl) rfl) ?_
  refine rh_v 2 rfl (by kernel_rfl) rfl rfl rfl hS14 (fun _ hS => ov_load rfl Try.underlying3 rfl rfl (by exact hS.cellL 0 rfl (off := 0) rfl)) ?_
  refine rh_v 3 rfl (by kernel_rfl) rfl rfl rfl hS14 (fun _ hS => ov_move rfl rfl) ?_
  refine rh_v 4 rfl (by kernel_rfl) rfl rfl rfl hS14 (fun _ hS => ov_fieldS rfl Try.underlying84 rfl (fo := 1) rfl (by kernel_rfl) rfl) ?_
  refine rh_v 5 rfl (by kernel_rfl) rfl rfl rfl hS14 (fun _ hS => ov_load rfl Try.underlying3 rfl rfl (by exact hS.cellL 0 rfl (off := 1) rfl)) ?_
  refine rh_any1 6 (by kernel_rfl) ?_
  refine rc_op rfl rfl (ow_mapput rfl rfl Try.underlying114 Try.underlying3 hO13 1 rfl rfl rfl rfl) ?_
  rintro _ w15 ⟨rfl, hO16, hs17⟩
  have hS18 : Own w.heap.size w w15 ([some (lch b5 84 (ldF l i))]) := by exact hO16.sub (.cons_cons _ (List.nil_sublist _))
  refine ⟨hS18, ?_⟩
  refine rh_any1 7 (by kernel_rfl) ?_
  refine rc_op rfl rfl (ow_mapput rfl rfl Try.underlying114 Try.underlying3 hO16 1 rfl rfl rfl rfl) ?_
  rintro _ w19 ⟨rfl, hO20, hs21⟩
  have hS22 : Own w.heap.size w w19 ([some (lch b5 84 (ldF l i))]) := by exact hO20.sub (.cons_cons _ (List.nil_sublist _))
  refine ⟨hS22, ?_⟩
  have hm2 : ∀ t : Int, t ∈ (mput (mput L (l.r i) (.bool true)) (l.d i) (.bool true)).map (·.1) ↔ ∃ j : Int, (0 ≤ j ∧ j < ((i + 1 : Nat) : Int)) ∧ (t = l.r j ∨ t = l.d j) := fun t => by
   rw [mput_mem, mput_mem, hkm t]
   constructor
   ·rintro (e | e | ⟨j, hj, e⟩)
    ·exact ⟨i, by omega, .inr e⟩
    ·exact ⟨i, by omega, .inl e⟩
    ·exact ⟨j, by omega, e⟩
   ·rintro ⟨j, hj, e⟩
    by_cases c : j = i
    ·rw [c] at e
     exact e.elim (fun e => .inr (.inl e)) .inl
    ·exact .inr (.inr ⟨j, by omega, e⟩)
  have hl2 := mput_lenM (mput L (l.r i) (.bool true)) (l.d i) (.bool true)
  have hl1 := mput_lenM L (l.r i) (.bool true)
  refine rh_done (by kernel_rfl) ?_
  refine run_inBlock <| run_region <| rl_v rfl rfl rfl (ov_add rfl rfl rfl (by omega)) ?_
  refine rl_v rfl rfl rfl (ov_move rfl rfl) <| rl_nil ?_
  refine Run.use (ih5 (i + 1) _ ?_ ?_) (And.intro (by exact slot_int rfl (by first | omega)) (And.intro rfl (And.intro rfl (And.intro rfl trivial))))
  ·first | omega | (dsimp only; omega)
  ·exact ⟨by omega, mput (mput L (l.r i) (.bool true)) (l.d i) (.bool true), mput_nodup _ _ (mput_nodup _ _ hnd), hm2, by omega, hO20.tail⟩
 ·refine run_exit rfl <| run_seq <| run_region <| rl_v rfl rfl rfl (ov_move rfl rfl) ?_
  refine rl_call callable_67 rfl rfl rfl rfl rfl rfl (keysB_any bm _) (fun e23 w24 hp25 => ?_)
  obtain ⟨b1, rfl, hO2⟩ := hp25
  refine ⟨_, rfl, ?_⟩
  have hO26 := hO1.join hO2
  refine rl_call callable_66 rfl rfl rfl rfl rfl rfl (sortedK_any 82 114 keysB_it callable_82 w.heap.size b1 bm w _ L [] hnd (by omega) hO26) (fun e27 w28 hp29 => ?_)
  obtain ⟨va, vc, c, X, cx, rfl, hv, hcl, hri, hmem, hO3⟩ := hp29
  refine ⟨_, rfl, ?_⟩
  have hC : Cuts l c X := ⟨hri.inc, fun t => by rw [hmem t, hkm t, show i = l.n by omega], by omega⟩
  have hO4 := hO3.sub (.cons_cons _ (List.nil_sublist _) : List.Sublist [cx] _)
  obtain ⟨vb, hva⟩ := hv.addr
  refine rl_v rfl rfl rfl (ov_assign rfl rfl) <| rl_nil <| run_seq <| run_region <| rl_v rfl rfl rfl (ov_assign rfl rfl) <| rl_nil <| run_seq <| run_seq <| run_region <| rl_v rfl rfl rfl (ov_assign rfl rfl) <| rl_nil <| run_block <| Run.keep [6, 7, 8] (F' := [(6, _), (7, _), (8, _)]) rfl <| run_loop2 (fun (k : Nat) (v : Value) => [(8, .int .i64 (k : Int)), (7, v)]) [6] (fun (k : Nat) (v : Value) (w30 : World) => k ≤ c - 1 ∧ ∃ cb : Option Blk, SRow v 89 2 k (spF X) cb ∧ Own w.heap.size w w30 [cb, cx]) (fun (k : Nat) (v : Value) => c - 1 - k) (0) (.slice none 0 0) ?_ (And.intro (by exact slot_int rfl (by first | omega)) (And.intro rfl (And.intro rfl trivial))) ?_
  ·exact ⟨Nat.zero_le _, none, SRow.nil _ _ _, hO4.nil_cons⟩
  intro k v w30 hIw30 ih31
  obtain ⟨hk, cb, hr, hO5⟩ := hIw30
  show Run _ _ _ _ [(8, _), (7, _), (6, _)] _ _
  refine run_seq <| run_seq <| run_region <| rl_v rfl rfl rfl (ov_move rfl rfl) <| rl_v rfl rfl rfl (ov_add rfl rfl rfl (by omega)) ?_
  refine rl_v rfl rfl rfl (ov_move rfl rfl) <| rl_v rfl rfl rfl (ov_len rfl Try.underlying47 rfl) <| rl_v rfl rfl rfl (ov_lss rfl rfl rfl) <| rl_nil ?_
  first | refine run_cond_dec rfl (fun c2 => ?_) (fun c2 => ?_) | refine run_cond rfl (fun c2 => ?_) (fun c2 => ?_)
  ·refine run_skip <| run_seq <| run_block <| run_held (fun w' => Own w.heap.size w w' ([cx])) mixed ?_
   have hO33 := hO5.drew
   generalize World.drew w30 = w32 at hO33 ⊢
   have hS34 : Own w.heap.size w w32 ([cx]) := by first | exact hO33.tail | exact hO33.tail.tail
   refine rh_v 0 rfl (by kernel_rfl) rfl rfl rfl hS34 (fun _ hS => ov_move rfl rfl) ?_
   refine rh_v 1 rfl (by kernel_rfl) rfl rfl rfl hS34 (fun _ hS => ov_move rfl rfl) ?_
   refine rh_v 2 rfl (by kernel_rfl) rfl rfl rfl hS34 (fun _ hS => ov_move rfl rfl) ?_
   refine rh_v 3 rfl (by kernel_rfl) rfl rfl rfl hS34 (fun _ hS => ov_index1 rfl Try.underlying47 (by kernel_rfl) rfl rfl ⟨by omega, by omega⟩ (by exact hva (by omega))) ?_
   refine rh_v 4 rfl (by kernel_rfl) rfl rfl rfl hS34 (fun _ hS => ov_load rfl Try.underlying3 rfl rfl (by exact hv.cellU hS 0 rfl (hva (by omega)) (i := k) (by omega) (by omega))) ?_
   refine rh_v 5 rfl (by kernel_rfl) rfl rfl rfl hS34 (fun _ hS => ov_move rfl rfl) ?_
   refine rh_v 6 rfl (by kernel_rfl) rfl rfl rfl hS34 (fun _ hS => ov_move rfl rfl) ?_
   refine rh_v 7 rfl (by kernel_rfl) rfl rfl rfl hS34 (fun _ hS => ov_add rfl rfl rfl (by omega)) ?_
   refine rh_v 8 rfl (by kernel_rfl) rfl rfl rfl hS34 (fun _ hS => ov_index1 rfl Try.underlying47 (by kernel_rfl) rfl rfl ⟨by omega, by omega⟩ (by exact hva (by omega))) ?_
   refine rh_v 9 rfl (by kernel_rfl) rfl rfl rfl hS34 (fun _ hS => ov_load rfl Try.underlying3 rfl rfl (by exact hv.cellU hS 0 rfl (hva (by omega)) (i := k + 1) (by omega) (by omega))) ?_
   refine rh_v 10 rfl (by kernel_rfl) rfl rfl rfl hS34 (fun _ hS => ov_buildA2 rfl Try.underlying89 zero_89 (by kernel_rfl) rfl rfl rfl rfl rfl) ?_
   refine rh_any1 11 (by kernel_rfl) ?_
   refine rc_op rfl rfl (ow_build [_] rfl rfl rfl rfl rfl Try.underlying48 info_89 (by decide) hO33 rfl rfl) ?_
   rintro _ w35 ⟨b44, rfl, hO36, hs37⟩
   have hS38 : Own w.heap.size w w35 ([cx]) := by first | exact hO36.tail | exact hO36.tail.tail
   refine ⟨hS38, ?_⟩
   refine rh_any1 12 (by kernel_rfl) ?_
   refine rc_op rfl rfl (ow_appR1 rfl rfl rfl Try.underlying48 info_89 rfl rfl hO36 0 hr rfl rfl rfl rfl rfl ⟨by omega, by omega⟩) ?_
   rintro _ w39 ⟨v5, c5, rfl, hO40, hr5, hs41⟩
   have hS42 : Own w.heap.size w w39 ([cx]) := by first | exact hO40.tail | exact hO40.tail.tail
   refine ⟨hS42, ?_⟩
   have hsp : ∀ j : Int, 0 ≤ j → j < ((k + 1 : Nat) : Int) → upd (spF X) k [iv (X k), iv (X (k + 1))] j = spF X j := fun j _ _ => by
    by_cases e : j = k
    ·rw [e, upd_same]; rfl
    ·rw [upd_ne _ _ e]
   refine rh_v 13 rfl (by kernel_rfl) rfl rfl rfl hS42 (fun _ hS => ov_assign rfl rfl) ?_
   refine rh_done (by kernel_rfl) ?_
   refine run_inBlock <| run_region <| rl_v rfl rfl rfl (ov_move rfl rfl) <| rl_v rfl rfl rfl (ov_add rfl rfl rfl (by omega)) ?_
   refine rl_v rfl rfl rfl (ov_assign rfl rfl) <| rl_nil ?_
   refine Run.use (ih31 (k + 1) (v5) _ ?_ ?_) (And.intro (by exact slot_int rfl (by first | omega)) (And.intro rfl (And.intro rfl trivial)))
   ·first | omega | (dsimp only; omega)
   ·exact ⟨by omega, c5, hr5.congr hsp, hO40⟩
  ·obtain ⟨sa, sc, rfl⟩ := Row.val hr
   have hkc : k = c - 1 := by omega
   subst hkc
   refine run_exit rfl <| run_seq <| run_region <| rl_v rfl rfl rfl (ov_move rfl rfl) <| rl_v rfl rfl rfl (ov_assign rfl rfl) <| rl_nil <| run_ret Try.func46 (res1 Try.results46 rfl) ?_
   exact ⟨sa, sc, c, X, cb, rfl, hC, hr, hO5.sub (.cons_cons _ (List.nil_sublist _))⟩
end Go.Proofs.Ytbepolognfdkeaa
