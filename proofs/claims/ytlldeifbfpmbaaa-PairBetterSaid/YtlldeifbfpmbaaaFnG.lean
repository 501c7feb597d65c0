import Derived.Test.YtlldeifbfpmbaaaFnG1
set_option maxRecDepth 100000
namespace Go.Proofs.Ytlldeifbfpmbaaa
open Go.RowKit Go.Proofs Go.MapKept
theorem p213 {α : Type} {a b c : α} {R : List α} : (a :: b :: c :: R).Perm (b :: a :: c :: R) := List.Perm.swap _ _ _
theorem p132 {α : Type} {a b c : α} {R : List α} : (a :: b :: c :: R).Perm (a :: c :: b :: R) := (List.Perm.swap _ _ _).cons _
theorem p231 {α : Type} {a b c : α} {R : List α} : (a :: b :: c :: R).Perm (b :: c :: a :: R) := p213.trans p132
theorem p312 {α : Type} {a b c : α} {R : List α} : (a :: b :: c :: R).Perm (c :: a :: b :: R) := p132.trans p213
theorem p321 {α : Type} {a b c : α} {R : List α} : (a :: b :: c :: R).Perm (c :: b :: a :: R) := p231.trans p213
theorem p5 {α : Type} {x a b c d : α} {R : List α} : (x :: a :: b :: c :: d :: R).Perm (a :: b :: c :: d :: x :: R) := (List.perm_middle (l₁ := [a, b, c, d])).symm
structure Fines (W : Wish) (l : Int → Int) (T : List (Option Blk)) (k : Int) (rf rm : Int → Value) : Prop where
 f : ∀ r : Int, 0 ≤ r → r < k → RdR T (rf r) (fnL W l r) (fnE W l r)
 m : ∀ r : Int, 0 ≤ r → r < k → RdR T (rm r) (mrL W l r) (W.e r)
theorem Fines.step {W : Wish} {l : Int → Int} {T T' : List (Option Blk)} {k : Nat} {rf rm : Int → Value} {vf vm : Value} (h : Fines W l T k rf rm) (hT : ∀ (v : Value) (n : Nat) (X : Int → Int), RdR T v n X → RdR T' v n X) (hf : RdR T' vf (fnL W l k) (fnE W l k)) (hm : RdR T' vm (mrL W l k) (W.e k)) : Fines W l T' (k + 1) (upd rf (k : Int) vf) (upd rm (k : Int) vm) := by
 refine ⟨fun r r0 r1 => ?_, fun r r0 r1 => ?_⟩
 ·by_cases e : r = k
  ·rw [e, upd_same]; exact hf
  ·rw [upd_ne _ _ e]; exact hT _ _ _ (h.f r r0 (by omega))
 ·by_cases e : r = k
  ·rw [e, upd_same]; exact hm
  ·rw [upd_ne _ _ e]; exact hT _ _ _ (h.m r r0 (by omega))
abbrev fineR (tc fb gb b1 n gc : Nat) (ga : Option Addr) (rf rm : Int → Value) (T : List (Option Blk)) : List (Option Blk) :=
 some (lch tc 89 [.slice (some ⟨fb, 0, none⟩) n n, .slice (some ⟨gb, 0, none⟩) n n]) :: some (vch fb 23 n rf) :: some (vch gb 23 n rm) :: some (lch b1 49 [.slice ga n gc]) :: T
theorem rdr_drop4 {a b c d : Option Blk} {T : List (Option Blk)} {B : Nat} {w0 w : World} (h : Own B w0 w (a :: b :: c :: d :: T)) : Own B w0 w T := h.tail.tail.tail.tail
theorem Fines.dealM {W : Wish} {l : Int → Int} {T H : List (Option Blk)} {n mn fb gb : Nat} {rf rm : Int → Value} {U : TypeId} {M : Int → Int} {ma : Option Addr} {B : Nat} {w0 w : World} (h : Fines W l T n rf rm) (hWn : W.n = n) (hn : n ≤ 12) (hl : ∀ i : Int, 0 ≤ i → i < n → W.l i ≤ 900) (k1 k2 : Nat) (hO : Own B w0 w H) (hf : H[k1]? = some (some (vch fb U n rf))) (hg : H[k2]? = some (some (vch gb U n rm))) (hT : Own B w0 w T) (hm : IAt w.heap.size w ma mn (fun i => iv (M i))) (hM : Memb n mn M) :
  DealM w.heap.size w ma (some ⟨fb, 0, none⟩) (some ⟨gb, 0, none⟩) mn n M (fnL W l) (mrL W l) (fnE W l) W.e := by
 refine ⟨hm, RdR.rtab h.f k1 hO hf hT, RdR.rtab h.m k2 hO hg hT, by omega, fun i i0 i1 => ?_, fun i i0 i1 => ?_, hM⟩
 ·have h1 := rk_rng (W.e i) (l i) (W.l i)
  have h2 := hl i i0 i1
  change 0 ≤ W.rk i (l i) ∧ W.rk i (l i) ≤ W.l i at h1
  unfold fnL
  split
  ·omega
  ·omega
 ·have h1 := rk_rng (W.e i) (l i) (W.l i)
  have h2 := hl i i0 i1
  change 0 ≤ W.rk i (l i) ∧ W.rk i (l i) ≤ W.l i at h1
  unfold mrL
  omega
set_option maxHeartbeats 8000000 in
theorem better5_any (ga la : Option Addr) (n gc lc : Nat) (L : Int → Nat) (E : Int → Int → Int) (l : Int → Int) (w : World) (hn : n ≤ 12) (hv : SwapOk n L E) (h : RTab w.heap.size w ga n L E) (hlr : IAt w.heap.size w la n (fun i => iv (l i))) (hl : IsL n l n) :
  Calls Try.prog 27 #[.agg #[.slice ga n gc], .slice la n lc] w fun e w' => (∃ (t : Nat) (ma : Option Addr) (mc : Nat) (c : Option Blk), (1 ≤ t ∧ t < 2 ^ n) ∧ e = .returned (.tuple #[.slice ma (membL t n).length mc, .bool true]) ∧ IRow (.slice ma (membL t n).length mc) 3 (membL t n).length (fun j => iv (enL (membL t n) j)) c ∧ Own w.heap.size w w' [c] ∧ Coal (lik5 L E) l (InI (enL (membL t n)) (membL t n).length)) ∨
   (e = .returned (.tuple #[.slice none 0 0, .bool false]) ∧ ¬ AnyCoal n (lik5 L E) l) ∧ Below w.heap.size w w' := by
 have hL : ∀ i : Int, 0 ≤ i → i < n → L i ≤ n := fun i i0 i1 => pigeon (hv i i0 i1).1 (hv i i0 i1).2
 have h0 := chkS_0.2 ⟨by omega, hv⟩
 have hWl : ∀ i : Int, 0 ≤ i → i < n → (wishOf n L E).l i ≤ 900 := fun i i0 i1 => by have := wl_le n L E i; have := hL i i0 i1; omega
 obtain ⟨W, hWd⟩ : ∃ W, W = wishOf n L E := ⟨_, rfl⟩
 have hWn : W.n = n := by rw [hWd]; rfl
 rw [← hWd] at hWl
 have hp1 : (2 : Nat) ^ n ≤ 2 ^ 12 := Nat.pow_le_pow_right (by decide) hn
 have hp2 : (2 : Nat) ^ 12 = 4096 := by decide
 have hp0 := Nat.two_pow_pos n
 obtain ⟨lb, lo, hla, hlrow⟩ := hlr.open
 refine calls_of_run (F := [(0, _), (1, _)]) Try.func27 rfl Try.ntmps27 rfl rfl ?_
 have hO0 := Own.init w
 refine run_seq <| run_region <| rl_ow rfl (ow_box _ rfl rfl rfl rfl rfl hO0) ?_
 rintro _ w1 ⟨b1, rfl, hO2, hs3⟩
 refine rl_v rfl rfl rfl (ov_assign rfl rfl) <| rl_v rfl rfl rfl (ov_assign rfl rfl) <| rl_nil <| run_seq <| run_region <| rl_v rfl rfl rfl (ov_fieldS rfl Try.underlying49 rfl (fo := 0) rfl (by kernel_rfl) rfl) ?_
 refine rl_v rfl rfl rfl (ov_load rfl Try.underlying22 rfl rfl (by exact hO2.cellL 0 rfl (off := 0) rfl)) ?_
 refine rl_v rfl rfl rfl (ov_len rfl Try.underlying22 rfl) <| rl_v rfl rfl rfl (ov_assign rfl rfl) <| rl_nil <| run_seq <| run_seq <| run_region <| rl_v rfl rfl rfl (ov_loadW rfl Try.underlying49 rfl (by kernel_rfl) rfl hO2 0 rfl) ?_
 refine rl_call callable_36 rfl rfl rfl rfl rfl rfl (checkSwap_any ga n gc L E _ (by omega) (fun r r0 r1 => by have := hL r r0 r1; omega) (hO2.rtab h).tab) (fun e4 w5 hp6 => ?_)
 obtain ⟨rfl, hbl⟩ := hp6
 refine ⟨_, rfl, ?_⟩
 have hO7 := hO2.past hbl
 refine rl_v rfl rfl rfl (ov_neq rfl rfl rfl) <| rl_v rfl rfl rfl (ov_move rfl rfl) ?_
 first | refine rl_noD 21 rfl ((fun hbad => hbad h0)) ?_ | refine rl_no 21 rfl ((fun hbad => hbad h0)) ?_
 refine rl_gv rfl rfl rfl rfl rfl (ov_move rfl rfl) <| rl_gv rfl rfl rfl rfl rfl (ov_len rfl Try.underlying23 rfl) <| rl_gv rfl rfl rfl rfl rfl (ov_move rfl rfl) <| rl_gv rfl rfl rfl rfl rfl (ov_neq rfl rfl rfl) <| rl_v rfl rfl rfl (ov_pick_f rfl rfl rfl) <| rl_v rfl rfl rfl (ov_move rfl rfl) ?_
 first | refine rl_noD 27 rfl ((by omega)) ?_ | refine rl_no 27 rfl ((by omega)) ?_
 refine rl_gv rfl rfl rfl rfl rfl (ov_move rfl rfl) <| rl_gv rfl rfl rfl rfl rfl (ov_gtr rfl rfl rfl) <| rl_v rfl rfl rfl (ov_pick_f rfl rfl rfl) <| rl_v rfl rfl rfl (ov_move rfl rfl) ?_
 first | refine rl_noD 31 rfl ((by omega)) ?_ | refine rl_no 31 rfl ((by omega)) ?_
 refine rl_gv rfl rfl rfl rfl rfl (ov_move rfl rfl) <| rl_gv rfl rfl rfl rfl rfl (ov_move rfl rfl) ?_
 refine rl_gcall callable_56 rfl rfl rfl rfl rfl rfl rfl rfl (isList_any la n lc n l _ (by omega) (by omega) (hO7.iatF hlr)) (fun e8 w9 hp10 => ?_)
 obtain ⟨⟨b, rfl, hbb⟩, hb1⟩ := hp10
 refine ⟨_, rfl, ?_⟩
 have hO11 := hO7.past hb1
 obtain rfl : b = true := hbb.2 hl
 refine rl_gv rfl rfl rfl rfl rfl (ov_not rfl rfl) <| rl_v rfl rfl rfl (ov_pick_f rfl rfl rfl) <| rl_nil ?_
 first | refine run_cond_dec rfl (fun bad => ?_) (fun bad => ?_) | refine run_cond rfl (fun bad => ?_) (fun bad => ?_)
 ·exfalso; exact Bool.noConfusion bad
 ·refine run_skip <| run_seq <| Run.keep [1, 2, 6] (F' := [(1, _), (2, _), (6, _)]) rfl <| run_join3 (fun (tc : Nat) (fb : Nat) (gb : Nat) => [(7, ptr tc)]) [1, 2, 6] (fun (tc : Nat) (fb : Nat) (gb : Nat) (w12 : World) => Own w.heap.size w w12 (fineR tc fb gb b1 n gc ga (fun _ => .slice none 0 0) (fun _ => .slice none 0 0) [])) (fun hk13 => ?_) ?_
  ·refine run_late (fun w' => Own w.heap.size w w' ([some (lch b1 49 [.slice ga n gc])])) 6 mixed ?_
   have hO15 := hO11.drew
   generalize World.drew w9 = w14 at hO15 ⊢
   have hS16 : Own w.heap.size w w14 ([some (lch b1 49 [.slice ga n gc])]) := by first | exact hO15 | exact hO15.tail | exact hO15.tail.tail | exact hO15.tail.tail.tail
   refine rhl_v 0 rfl (by kernel_rfl) rfl rfl rfl hS16 (fun _ hS => ov_move rfl rfl) ?_
   refine rhl_v 2 rfl (by kernel_rfl) rfl rfl rfl hS16 (fun _ hS => ov_move rfl rfl) ?_
   refine rhl_any3 1 3 5 (by kernel_rfl) ?_ ?_ ?_
   ·refine rcl_op rfl rfl (ow_make (n) rfl rfl rfl Try.underlying22 info_23 rfl hO15 rfl rfl (by rfl) (by rfl) ⟨by omega, by omega⟩) ?_
    rintro _ w17 ⟨fb, rfl, hO18, hs19⟩
    have hS20 : Own w.heap.size w w17 ([some (lch b1 49 [.slice ga n gc])]) := by first | exact hO18 | exact hO18.tail | exact hO18.tail.tail | exact hO18.tail.tail.tail
    refine ⟨hS20, ?_⟩
    refine rhl_any2 3 5 (by kernel_rfl) ?_ ?_
    ·refine rcl_op rfl rfl (ow_make (n) rfl rfl rfl Try.underlying22 info_23 rfl hO18 rfl rfl (by rfl) (by rfl) ⟨by omega, by omega⟩) ?_
     rintro _ w21 ⟨gb, rfl, hO22, hs23⟩
     have hS24 : Own w.heap.size w w21 ([some (lch b1 49 [.slice ga n gc])]) := by first | exact hO22 | exact hO22.tail | exact hO22.tail.tail | exact hO22.tail.tail.tail
     refine ⟨hS24, ?_⟩
     refine rhl_v 4 rfl (by kernel_rfl) rfl rfl rfl hS24 (fun _ hS => ov_buildL rfl lay_89 rfl (us := [_, _]) rfl) ?_
     refine rhl_any1 5 (by kernel_rfl) ?_
     refine rcl_op rfl rfl (ow_alloc _ rfl rfl rfl zero_89 rfl hO22) ?_
     rintro _ w25 ⟨tc, rfl, hO26, hs27⟩
     have hS28 : Own w.heap.size w w25 ([some (lch b1 49 [.slice ga n gc])]) := by first | exact hO26 | exact hO26.tail | exact hO26.tail.tail | exact hO26.tail.tail.tail
     refine ⟨hS28, ?_⟩
     refine rhl_any1 6 (by kernel_rfl) ?_
     refine rcl_last rfl rfl (ow_storeW rfl rfl (by kernel_rfl) hO26 0 rfl rfl (by rfl) rfl (by rfl)) ?_
     rintro _ w29 ⟨rfl, hO30, hs31⟩
     refine rhl_done (by kernel_rfl) ?_
     refine Run.use (hk13 (tc) (fb) (gb) _ ?_) (And.intro rfl (And.intro rfl (And.intro rfl (And.intro rfl trivial))))
     exact hO30.perm p132
    ·refine rcl_op rfl rfl (ow_alloc _ rfl rfl rfl zero_89 rfl hO18) ?_
     rintro _ w32 ⟨tc, rfl, hO33, hs34⟩
     have hS35 : Own w.heap.size w w32 ([some (lch b1 49 [.slice ga n gc])]) := by first | exact hO33 | exact hO33.tail | exact hO33.tail.tail | exact hO33.tail.tail.tail
     refine ⟨hS35, ?_⟩
     refine rhl_any1 3 (by kernel_rfl) ?_
     refine rcl_op rfl rfl (ow_make (n) rfl rfl rfl Try.underlying22 info_23 rfl hO33 rfl rfl (by rfl) (by rfl) ⟨by omega, by omega⟩) ?_
     rintro _ w36 ⟨gb, rfl, hO37, hs38⟩
     have hS39 : Own w.heap.size w w36 ([some (lch b1 49 [.slice ga n gc])]) := by first | exact hO37 | exact hO37.tail | exact hO37.tail.tail | exact hO37.tail.tail.tail
     refine ⟨hS39, ?_⟩
     refine rhl_v 4 rfl (by kernel_rfl) rfl rfl rfl hS39 (fun _ hS => ov_buildL rfl lay_89 rfl (us := [_, _]) rfl) ?_
     refine rhl_any1 6 (by kernel_rfl) ?_
     refine rcl_last rfl rfl (ow_storeW rfl rfl (by kernel_rfl) hO37 1 rfl rfl (by rfl) rfl (by rfl)) ?_
     rintro _ w40 ⟨rfl, hO41, hs42⟩
     refine rhl_done (by kernel_rfl) ?_
     refine Run.use (hk13 (tc) (fb) (gb) _ ?_) (And.intro rfl (And.intro rfl (And.intro rfl (And.intro rfl trivial))))
     exact hO41.perm p231
   ·refine rcl_op rfl rfl (ow_make (n) rfl rfl rfl Try.underlying22 info_23 rfl hO15 rfl rfl (by rfl) (by rfl) ⟨by omega, by omega⟩) ?_
    rintro _ w43 ⟨gb, rfl, hO44, hs45⟩
    have hS46 : Own w.heap.size w w43 ([some (lch b1 49 [.slice ga n gc])]) := by first | exact hO44 | exact hO44.tail | exact hO44.tail.tail | exact hO44.tail.tail.tail
    refine ⟨hS46, ?_⟩
    refine rhl_any2 1 5 (by kernel_rfl) ?_ ?_
    ·refine rcl_op rfl rfl (ow_make (n) rfl rfl rfl Try.underlying22 info_23 rfl hO44 rfl rfl (by rfl) (by rfl) ⟨by omega, by omega⟩) ?_
     rintro _ w47 ⟨fb, rfl, hO48, hs49⟩
     have hS50 : Own w.heap.size w w47 ([some (lch b1 49 [.slice ga n gc])]) := by first | exact hO48 | exact hO48.tail | exact hO48.tail.tail | exact hO48.tail.tail.tail
     refine ⟨hS50, ?_⟩
     refine rhl_v 4 rfl (by kernel_rfl) rfl rfl rfl hS50 (fun _ hS => ov_buildL rfl lay_89 rfl (us := [_, _]) rfl) ?_
     refine rhl_any1 5 (by kernel_rfl) ?_
     refine rcl_op rfl rfl (ow_alloc _ rfl rfl rfl zero_89 rfl hO48) ?_
     rintro _ w51 ⟨tc, rfl, hO52, hs53⟩
     have hS54 : Own w.heap.size w w51 ([some (lch b1 49 [.slice ga n gc])]) := by first | exact hO52 | exact hO52.tail | exact hO52.tail.tail | exact hO52.tail.tail.tail
     refine ⟨hS54, ?_⟩
     refine rhl_any1 6 (by kernel_rfl) ?_
     refine rcl_last rfl rfl (ow_storeW rfl rfl (by kernel_rfl) hO52 0 rfl rfl (by rfl) rfl (by rfl)) ?_
     rintro _ w55 ⟨rfl, hO56, hs57⟩
     refine rhl_done (by kernel_rfl) ?_
     refine Run.use (hk13 (tc) (fb) (gb) _ ?_) (And.intro rfl (And.intro rfl (And.intro rfl (And.intro rfl trivial))))
     exact hO56
    ·refine rcl_op rfl rfl (ow_alloc _ rfl rfl rfl zero_89 rfl hO44) ?_
     rintro _ w58 ⟨tc, rfl, hO59, hs60⟩
     have hS61 : Own w.heap.size w w58 ([some (lch b1 49 [.slice ga n gc])]) := by first | exact hO59 | exact hO59.tail | exact hO59.tail.tail | exact hO59.tail.tail.tail
     refine ⟨hS61, ?_⟩
     refine rhl_any1 1 (by kernel_rfl) ?_
     refine rcl_op rfl rfl (ow_make (n) rfl rfl rfl Try.underlying22 info_23 rfl hO59 rfl rfl (by rfl) (by rfl) ⟨by omega, by omega⟩) ?_
     rintro _ w62 ⟨fb, rfl, hO63, hs64⟩
     have hS65 : Own w.heap.size w w62 ([some (lch b1 49 [.slice ga n gc])]) := by first | exact hO63 | exact hO63.tail | exact hO63.tail.tail | exact hO63.tail.tail.tail
     refine ⟨hS65, ?_⟩
     refine rhl_v 4 rfl (by kernel_rfl) rfl rfl rfl hS65 (fun _ hS => ov_buildL rfl lay_89 rfl (us := [_, _]) rfl) ?_
     refine rhl_any1 6 (by kernel_rfl) ?_
     refine rcl_last rfl rfl (ow_storeW rfl rfl (by kernel_rfl) hO63 1 rfl rfl (by rfl) rfl (by rfl)) ?_
     rintro _ w66 ⟨rfl, hO67, hs68⟩
     refine rhl_done (by kernel_rfl) ?_
     refine Run.use (hk13 (tc) (fb) (gb) _ ?_) (And.intro rfl (And.intro rfl (And.intro rfl (And.intro rfl trivial))))
     exact hO67.perm p213
   ·refine rcl_op rfl rfl (ow_alloc _ rfl rfl rfl zero_89 rfl hO15) ?_
    rintro _ w69 ⟨tc, rfl, hO70, hs71⟩
    have hS72 : Own w.heap.size w w69 ([some (lch b1 49 [.slice ga n gc])]) := by first | exact hO70 | exact hO70.tail | exact hO70.tail.tail | exact hO70.tail.tail.tail
    refine ⟨hS72, ?_⟩
    refine rhl_any2 1 3 (by kernel_rfl) ?_ ?_
    ·refine rcl_op rfl rfl (ow_make (n) rfl rfl rfl Try.underlying22 info_23 rfl hO70 rfl rfl (by rfl) (by rfl) ⟨by omega, by omega⟩) ?_
     rintro _ w73 ⟨fb, rfl, hO74, hs75⟩
     have hS76 : Own w.heap.size w w73 ([some (lch b1 49 [.slice ga n gc])]) := by first | exact hO74 | exact hO74.tail | exact hO74.tail.tail | exact hO74.tail.tail.tail
     refine ⟨hS76, ?_⟩
     refine rhl_any1 3 (by kernel_rfl) ?_
     refine rcl_op rfl rfl (ow_make (n) rfl rfl rfl Try.underlying22 info_23 rfl hO74 rfl rfl (by rfl) (by rfl) ⟨by omega, by omega⟩) ?_
     rintro _ w77 ⟨gb, rfl, hO78, hs79⟩
     have hS80 : Own w.heap.size w w77 ([some (lch b1 49 [.slice ga n gc])]) := by first | exact hO78 | exact hO78.tail | exact hO78.tail.tail | exact hO78.tail.tail.tail
     refine ⟨hS80, ?_⟩
     refine rhl_v 4 rfl (by kernel_rfl) rfl rfl rfl hS80 (fun _ hS => ov_buildL rfl lay_89 rfl (us := [_, _]) rfl) ?_
     refine rhl_any1 6 (by kernel_rfl) ?_
     refine rcl_last rfl rfl (ow_storeW rfl rfl (by kernel_rfl) hO78 2 rfl rfl (by rfl) rfl (by rfl)) ?_
     rintro _ w81 ⟨rfl, hO82, hs83⟩
     refine rhl_done (by kernel_rfl) ?_
     refine Run.use (hk13 (tc) (fb) (gb) _ ?_) (And.intro rfl (And.intro rfl (And.intro rfl (And.intro rfl trivial))))
     exact hO82.perm p321
    ·refine rcl_op rfl rfl (ow_make (n) rfl rfl rfl Try.underlying22 info_23 rfl hO70 rfl rfl (by rfl) (by rfl) ⟨by omega, by omega⟩) ?_
     rintro _ w84 ⟨gb, rfl, hO85, hs86⟩
     have hS87 : Own w.heap.size w w84 ([some (lch b1 49 [.slice ga n gc])]) := by first | exact hO85 | exact hO85.tail | exact hO85.tail.tail | exact hO85.tail.tail.tail
     refine ⟨hS87, ?_⟩
     refine rhl_any1 1 (by kernel_rfl) ?_
     refine rcl_op rfl rfl (ow_make (n) rfl rfl rfl Try.underlying22 info_23 rfl hO85 rfl rfl (by rfl) (by rfl) ⟨by omega, by omega⟩) ?_
     rintro _ w88 ⟨fb, rfl, hO89, hs90⟩
     have hS91 : Own w.heap.size w w88 ([some (lch b1 49 [.slice ga n gc])]) := by first | exact hO89 | exact hO89.tail | exact hO89.tail.tail | exact hO89.tail.tail.tail
     refine ⟨hS91, ?_⟩
     refine rhl_v 4 rfl (by kernel_rfl) rfl rfl rfl hS91 (fun _ hS => ov_buildL rfl lay_89 rfl (us := [_, _]) rfl) ?_
     refine rhl_any1 6 (by kernel_rfl) ?_
     refine rcl_last rfl rfl (ow_storeW rfl rfl (by kernel_rfl) hO89 2 rfl rfl (by rfl) rfl (by rfl)) ?_
     rintro _ w92 ⟨rfl, hO93, hs94⟩
     refine rhl_done (by kernel_rfl) ?_
     refine Run.use (hk13 (tc) (fb) (gb) _ ?_) (And.intro rfl (And.intro rfl (And.intro rfl (And.intro rfl trivial))))
     exact hO93.perm p312
  ·intro tc fb gb w12 hJw12
   have hOj := hJw12
   show Run _ _ _ _ [(7, _), (1, _), (2, _), (6, _)] _ _
   refine run_seq <| run_seq <| run_region <| rl_v rfl rfl rfl (ov_move rfl rfl) <| rl_v rfl rfl rfl (ov_move rfl rfl) <| rl_nil <| run_block <| Run.keep [1, 2, 6, 7, 42, 43] (F' := [(1, _), (2, _), (6, _), (7, _), (42, _), (43, _)]) rfl <| run_loop1 (fun (k : Nat) => [(43, .int .i64 (k : Int))]) [1, 2, 6, 7, 42] (fun (k : Nat) (w95 : World) => k ≤ n ∧ ∃ (T : List (Option Blk)) (rf rm : Int → Value), (∀ r : Int, k ≤ r → rf r = .slice none 0 0) ∧ Fines W l T k rf rm ∧ Own w.heap.size w w95 (fineR tc fb gb b1 n gc ga rf rm T)) (fun (k : Nat) => n - k) (0) ?_ (And.intro (by exact slot_int rfl (by first | omega)) (And.intro rfl (And.intro rfl (And.intro rfl (And.intro rfl (And.intro rfl trivial)))))) ?_
   ·exact ⟨Nat.zero_le _, [], _, _, fun r _ => rfl, ⟨fun r r0 r1 => by omega, fun r r0 r1 => by omega⟩, hOj⟩
   intro k w95 hIw95 ih96
   obtain ⟨hk, T, rf, rm, hz, hF, hO⟩ := hIw95
   show Run _ _ _ _ [(43, _), (1, _), (2, _), (6, _), (7, _), (42, _)] _ _
   refine run_seq <| run_region <| rl_v rfl rfl rfl (ov_lss rfl rfl rfl) <| rl_nil <| run_seq ?_
   first | refine run_cond_dec rfl (fun c1 => ?_) (fun c1 => ?_) | refine run_cond rfl (fun c1 => ?_) (fun c1 => ?_)
   ·have hk' : k < n := by omega
    refine run_skip <| run_seq <| run_block <| run_seq <| run_region <| rl_v rfl rfl rfl (ov_move rfl rfl) <| rl_v rfl rfl rfl (ov_assign rfl rfl) <| rl_nil <| run_seq <| run_region <| rl_v rfl rfl rfl (ov_loadW rfl Try.underlying49 rfl (by kernel_rfl) rfl hO 3 rfl) ?_
    refine rl_v rfl rfl rfl (ov_move rfl rfl) ?_
    refine rl_call callable_57 rfl rfl rfl rfl rfl rfl (wishes_any ga n gc L E k _ (by omega) c1 (by omega) (by have := hL k (by omega) c1; omega) (hO.rtab h)) (fun e97 w98 hp99 => ?_)
    obtain ⟨v, c, rfl, hrv, hOw⟩ := hp99
    refine ⟨_, rfl, ?_⟩
    have hO100 := hO.join hOw
    rw [← hWd] at hrv
    obtain ⟨wa, wc, rfl⟩ := Row.val hrv
    have hcap := hrv.capF
    have hwl := hWl k (by omega) c1
    obtain ⟨ix, hix⟩ : ∃ a : Int, a = if W.rk k (l k) < W.l k then W.rk k (l k) else -1 := ⟨_, rfl⟩
    refine rl_v rfl rfl rfl (ov_assign rfl rfl) <| rl_nil <| run_seq <| run_region <| rl_v rfl rfl rfl (ov_move rfl rfl) <| rl_v rfl rfl rfl (ov_move rfl rfl) <| rl_v rfl rfl rfl (ov_move rfl rfl) <| rl_v rfl rfl rfl (ov_index1 rfl Try.underlying23 (by kernel_rfl) rfl rfl ⟨by omega, by omega⟩ (by exact hla (by omega))) ?_
    refine rl_v rfl rfl rfl (ov_load rfl Try.underlying3 rfl rfl (by exact hlrow _ hO100.below _ (by omega) (by omega))) ?_
    refine rl_call callable_58 rfl rfl rfl rfl rfl rfl (index5_w wa (W.l k) wc (W.e k) (l k) ix _ (by omega) hix (hrv.reads hO100 0 rfl)) (fun e101 w102 hp103 => ?_)
    obtain ⟨rfl, hb2⟩ := hp103
    refine ⟨_, rfl, ?_⟩
    have hO104 := hO100.past hb2
    have hOy := hO104.perm p5
    have hrk : 0 ≤ W.rk k (l k) ∧ W.rk k (l k) ≤ W.l k := rk_rng (W.e k) (l k) (W.l k)
    have hcF : ix < 0 ∧ ¬ W.rk k (l k) < W.l k ∨ ix = W.rk k (l k) ∧ W.rk k (l k) < W.l k := by
     by_cases c : W.rk k (l k) < W.l k
     ·rw [if_pos c] at hix; exact .inr ⟨hix, c⟩
     ·rw [if_neg c] at hix; exact .inl ⟨by omega, c⟩
    refine rl_v rfl rfl rfl (ov_assign rfl rfl) <| rl_nil <| run_seq <| run_seq <| run_region <| rl_v rfl rfl rfl (ov_move rfl rfl) <| rl_v rfl rfl rfl (ov_lss rfl rfl rfl) <| rl_nil ?_
    first | refine run_cond_dec rfl (fun c2 => ?_) (fun c2 => ?_) | refine run_cond rfl (fun c2 => ?_) (fun c2 => ?_)
    ·have hnot : ¬ W.rk k (l k) < W.l k := hcF.elim (fun h => h.2) fun h => by omega
     have hOz := (hOy.nil_cons.perm p5).congrI 1 rfl (G' := upd rf (k : Int) (.slice none 0 0)) fun r r0 r1 => by
      by_cases e : r = k
      ·rw [e, upd_same]; exact hz k (Int.le_refl _)
      ·rw [upd_ne _ _ e]
     refine run_seq <| run_seq <| run_region <| rl_v rfl rfl rfl (ov_move rfl rfl) <| rl_v rfl rfl rfl (ov_move rfl rfl) <| rl_nil <| run_block <| Run.keep [1, 2, 6, 7, 8, 9, 42, 43, 57, 58] (F' := [(1, _), (2, _), (6, _), (7, _), (8, _), (9, _), (42, _), (43, _), (57, _), (58, _)]) rfl <| run_loop1 (fun (j : Nat) => [(58, .int .i64 (j : Int))]) [1, 2, 6, 7, 8, 9, 42, 43, 57] (fun (j : Nat) (w105 : World) => j ≤ n ∧ ∃ (vf : Value) (cf : Option Blk), IRow vf 3 j (fun i => iv i) cf ∧ Own w.heap.size w w105 (fineR tc fb gb b1 n gc ga (upd rf (k : Int) vf) rm (cf :: c :: T))) (fun (j : Nat) => n - j) (0) ?_ (And.intro (by exact slot_int rfl (by first | omega)) (And.intro rfl (And.intro rfl (And.intro rfl (And.intro rfl (And.intro rfl (And.intro rfl (And.intro rfl (And.intro rfl (And.intro rfl trivial)))))))))) ?_
     ·exact ⟨Nat.zero_le _, .slice none 0 0, none, IRow.nil _ _, hOz⟩
     intro j w105 hIw105 ih106
     obtain ⟨hj, vf, cf, hrf, hO⟩ := hIw105
     show Run _ _ _ _ [(58, _), (1, _), (2, _), (6, _), (7, _), (8, _), (9, _), (42, _), (43, _), (57, _)] _ _
     refine run_seq <| run_region <| rl_v rfl rfl rfl (ov_lss rfl rfl rfl) <| rl_nil <| run_seq ?_
     first | refine run_cond_dec rfl (fun c3 => ?_) (fun c3 => ?_) | refine run_cond rfl (fun c3 => ?_) (fun c3 => ?_)
     ·refine run_skip <| run_seq <| run_block <| run_seq <| run_region <| rl_v rfl rfl rfl (ov_move rfl rfl) <| rl_v rfl rfl rfl (ov_assign rfl rfl) <| rl_nil <| run_late (fun w' => Own w.heap.size w w' ([some (lch tc 89 [.slice (some ⟨fb, 0, none⟩) n n, .slice (some ⟨gb, 0, none⟩) n n]), some (vch fb 23 n (upd rf (k : Int) vf))])) 12 mixed ?_
      have hO108 := hO.drew
      generalize World.drew w105 = w107 at hO108 ⊢
      have hS109 : Own w.heap.size w w107 ([some (lch tc 89 [.slice (some ⟨fb, 0, none⟩) n n, .slice (some ⟨gb, 0, none⟩) n n]), some (vch fb 23 n (upd rf (k : Int) vf))]) := by first | exact hO108.sub (.cons_cons _ (.cons_cons _ (List.nil_sublist _))) | exact hO108.sub (.cons _ (.cons_cons _ (.cons_cons _ (List.nil_sublist _))))
      refine rhl_v 0 rfl (by kernel_rfl) rfl rfl rfl hS109 (fun _ hS => ov_fieldS rfl Try.underlying89 rfl (fo := 0) rfl (by kernel_rfl) rfl) ?_
      refine rhl_v 1 rfl (by kernel_rfl) rfl rfl rfl hS109 (fun _ hS => ov_load rfl Try.underlying22 rfl rfl (by exact hS.cellL 0 rfl (off := 0) rfl)) ?_
      refine rhl_v 2 rfl (by kernel_rfl) rfl rfl rfl hS109 (fun _ hS => ov_move rfl rfl) ?_
      refine rhl_v 3 rfl (by kernel_rfl) rfl rfl rfl hS109 (fun _ hS => ov_fieldS rfl Try.underlying89 rfl (fo := 0) rfl (by kernel_rfl) rfl) ?_
      refine rhl_v 4 rfl (by kernel_rfl) rfl rfl rfl hS109 (fun _ hS => ov_load rfl Try.underlying22 rfl rfl (by exact hS.cellL 0 rfl (off := 0) rfl)) ?_
      refine rhl_v 5 rfl (by kernel_rfl) rfl rfl rfl hS109 (fun _ hS => ov_move rfl rfl) ?_
      refine rhl_v 6 rfl (by kernel_rfl) rfl rfl rfl hS109 (fun _ hS => ov_index1 rfl Try.underlying22 (by kernel_rfl) rfl rfl ⟨by omega, by omega⟩ (by rfl)) ?_
      refine rhl_v 7 rfl (by kernel_rfl) rfl rfl rfl hS109 (fun _ hS => ov_load rfl Try.underlying23 rfl rfl (by exact (hS.cellI 1 rfl k (by omega) c1).trans (congrArg some (upd_same _ _ _)))) ?_
      refine rhl_v 8 rfl (by kernel_rfl) rfl rfl rfl hS109 (fun _ hS => ov_move rfl rfl) ?_
      refine rhl_any1 9 (by kernel_rfl) ?_
      refine rcl_op rfl rfl (ow_one rfl rfl rfl Try.underlying23 info_3 rfl hO108 rfl rfl) ?_
      rintro _ w110 ⟨bx, rfl, hO111, hs112⟩
      have hS113 : Own w.heap.size w w110 ([some (lch tc 89 [.slice (some ⟨fb, 0, none⟩) n n, .slice (some ⟨gb, 0, none⟩) n n]), some (vch fb 23 n (upd rf (k : Int) vf))]) := by first | exact hO111.sub (.cons_cons _ (.cons_cons _ (List.nil_sublist _))) | exact hO111.sub (.cons _ (.cons_cons _ (.cons_cons _ (List.nil_sublist _))))
      refine ⟨hS113, ?_⟩
      refine rhl_any1 10 (by kernel_rfl) ?_
      refine rcl_op rfl rfl (ow_app1 rfl rfl rfl Try.underlying23 info_3 rfl hO111 4 hrf rfl rfl rfl rfl ⟨by omega, by omega⟩) ?_
      rintro _ w114 ⟨v2, c2b, rfl, hO115, hr2, hs116⟩
      have hS117 : Own w.heap.size w w114 ([some (lch tc 89 [.slice (some ⟨fb, 0, none⟩) n n, .slice (some ⟨gb, 0, none⟩) n n]), some (vch fb 23 n (upd rf (k : Int) vf))]) := by first | exact hO115.sub (.cons_cons _ (.cons_cons _ (List.nil_sublist _))) | exact hO115.sub (.cons _ (.cons_cons _ (.cons_cons _ (List.nil_sublist _))))
      refine ⟨hS117, ?_⟩
      obtain ⟨a2, cp2, rfl⟩ := Row.val hr2
      refine rhl_v 11 rfl (by kernel_rfl) rfl rfl rfl hS117 (fun _ hS => ov_index1 rfl Try.underlying22 (by kernel_rfl) rfl rfl ⟨by omega, by omega⟩ (by rfl)) ?_
      refine rhl_any1 12 (by kernel_rfl) ?_
      refine rcl_last rfl rfl (ow_store rfl rfl (by kernel_rfl) hO115 1 rfl rfl ⟨by omega, by omega⟩ rfl rfl) ?_
      rintro _ w118 ⟨rfl, hO119, hs120⟩
      refine rhl_done (by kernel_rfl) ?_
      refine run_inBlock <| run_region <| rl_v rfl rfl rfl (ov_add rfl rfl rfl (by omega)) ?_
      refine rl_v rfl rfl rfl (ov_move rfl rfl) <| rl_nil ?_
      refine Run.use (ih106 (j + 1) _ ?_ ?_) (And.intro (by exact slot_int rfl (by first | omega)) (And.intro rfl (And.intro rfl (And.intro rfl (And.intro rfl (And.intro rfl (And.intro rfl (And.intro rfl (And.intro rfl (And.intro rfl trivial))))))))))
      ·first | omega | (dsimp only; omega)
      ·exact ⟨by omega, .slice a2 (j + 1) cp2, c2b, hr2.congr (fun i _ _ => by unfold upd; split; (rename_i e; rw [e]); rfl), hO119.congrI 1 rfl fun r r0 r1 => by unfold upd; split <;> rfl⟩
     ·obtain rfl : j = n := by omega
      obtain ⟨a3, cp3, rfl⟩ := Row.val hrf
      refine run_exit rfl <| run_seq <| run_region <| rl_v rfl rfl rfl (ov_fieldS rfl Try.underlying89 rfl (fo := 1) rfl (by kernel_rfl) rfl) ?_
      refine rl_v rfl rfl rfl (ov_load rfl Try.underlying22 rfl rfl (by exact hO.cellL 0 rfl (off := 1) rfl)) ?_
      refine rl_v rfl rfl rfl (ov_move rfl rfl) <| rl_v rfl rfl rfl (ov_move rfl rfl) <| rl_v rfl rfl rfl (ov_index1 rfl Try.underlying22 (by kernel_rfl) rfl rfl ⟨by omega, by omega⟩ (by rfl)) ?_
      refine rl_ow rfl (ow_store rfl rfl (by kernel_rfl) hO 2 rfl rfl ⟨by omega, by omega⟩ rfl rfl) ?_
      rintro _ w121 ⟨rfl, hO122, hs123⟩
      have hfl : fnL W l k = j := by unfold fnL; rw [if_neg hnot, hWn]
      have hml : mrL W l k = W.l k := by unfold mrL; omega
      refine rl_nil <| run_exit rfl <| run_region <| rl_v rfl rfl rfl (ov_add rfl rfl rfl (by omega)) ?_
      refine rl_v rfl rfl rfl (ov_move rfl rfl) <| rl_nil ?_
      refine Run.use (ih96 (k + 1) _ ?_ ?_) (And.intro (by exact slot_int rfl (by first | omega)) (And.intro rfl (And.intro rfl (And.intro rfl (And.intro rfl (And.intro rfl trivial))))))
      ·first | omega | (dsimp only; omega)
      ·exact ⟨by omega, cf :: c :: T, upd rf (k : Int) (.slice a3 j cp3), upd rm (k : Int) (.slice wa (W.l k) wc), fun r hr => (by rw [upd_ne _ _ (by omega)]; exact hz r (by omega)), hF.step (fun v n X h => (h.cons _).cons _) (by rw [hfl]; exact RdR.of hrf 0 rfl (Nat.le_refl _) fun i _ _ => if_neg hnot) (by rw [hml]; exact RdR.of hrv 1 rfl (Nat.le_refl _) fun _ _ _ => rfl), hO122⟩
    ·obtain ⟨q, rfl⟩ := Int.eq_ofNat_of_zero_le (show 0 ≤ ix by omega)
     obtain ⟨hq1, hq2⟩ : (q : Int) = W.rk k (l k) ∧ W.rk k (l k) < W.l k := hcF.elim (fun h => by omega) id
     refine run_skip <| run_late (fun w' => Own w.heap.size w w' ([some (lch tc 89 [.slice (some ⟨fb, 0, none⟩) n n, .slice (some ⟨gb, 0, none⟩) n n])])) 16 mixed ?_
     have hO125 := hOy.drew
     generalize World.drew w102 = w124 at hO125 ⊢
     have hS126 : Own w.heap.size w w124 ([some (lch tc 89 [.slice (some ⟨fb, 0, none⟩) n n, .slice (some ⟨gb, 0, none⟩) n n])]) := by first | exact hO125.sub (.cons_cons _ (List.nil_sublist _))
     refine rhl_v 0 rfl (by kernel_rfl) rfl rfl rfl hS126 (fun _ hS => ov_fieldS rfl Try.underlying89 rfl (fo := 0) rfl (by kernel_rfl) rfl) ?_
     refine rhl_v 1 rfl (by kernel_rfl) rfl rfl rfl hS126 (fun _ hS => ov_load rfl Try.underlying22 rfl rfl (by exact hS.cellL 0 rfl (off := 0) rfl)) ?_
     refine rhl_v 2 rfl (by kernel_rfl) rfl rfl rfl hS126 (fun _ hS => ov_move rfl rfl) ?_
     refine rhl_v 3 rfl (by kernel_rfl) rfl rfl rfl hS126 (fun _ hS => ov_fieldS rfl Try.underlying89 rfl (fo := 1) rfl (by kernel_rfl) rfl) ?_
     refine rhl_v 4 rfl (by kernel_rfl) rfl rfl rfl hS126 (fun _ hS => ov_load rfl Try.underlying22 rfl rfl (by exact hS.cellL 0 rfl (off := 1) rfl)) ?_
     refine rhl_v 5 rfl (by kernel_rfl) rfl rfl rfl hS126 (fun _ hS => ov_move rfl rfl) ?_
     refine rhl_v 6 rfl (by kernel_rfl) rfl rfl rfl hS126 (fun _ hS => ov_move rfl rfl) ?_
     refine rhl_v 7 rfl (by kernel_rfl) rfl rfl rfl hS126 (fun _ hS => ov_move rfl rfl) ?_
     refine rhl_v 8 rfl (by kernel_rfl) rfl rfl rfl hS126 (fun _ hS => ov_add rfl rfl rfl (by omega)) ?_
     refine rhl_v 9 rfl (by kernel_rfl) rfl rfl rfl hS126 (fun _ hS => ov_sliceH (q + 1) (s := 1) rfl Try.underlying23 (by kernel_rfl) rfl rfl (by rfl) (by omega)) ?_
     refine rhl_v 10 rfl (by kernel_rfl) rfl rfl rfl hS126 (fun _ hS => ov_move rfl rfl) ?_
     refine rhl_v 11 rfl (by kernel_rfl) rfl rfl rfl hS126 (fun _ hS => ov_move rfl rfl) ?_
     refine rhl_v 12 rfl (by kernel_rfl) rfl rfl rfl hS126 (fun _ hS => ov_sliceH (q) (s := 1) rfl Try.underlying23 (by kernel_rfl) rfl rfl (by rfl) (by omega)) ?_
     refine rhl_v 13 rfl (by kernel_rfl) rfl rfl rfl hS126 (fun _ hS => ov_index1 rfl Try.underlying22 (by kernel_rfl) rfl rfl ⟨by omega, by omega⟩ (by rfl)) ?_
     refine rhl_any1 14 (by kernel_rfl) ?_
     refine rcl_op rfl rfl (ow_store rfl rfl (by kernel_rfl) hO125 1 rfl rfl ⟨by omega, by omega⟩ rfl rfl) ?_
     rintro _ w127 ⟨rfl, hO128, hs129⟩
     have hS130 : Own w.heap.size w w127 ([some (lch tc 89 [.slice (some ⟨fb, 0, none⟩) n n, .slice (some ⟨gb, 0, none⟩) n n])]) := by first | exact hO128.sub (.cons_cons _ (List.nil_sublist _))
     refine ⟨hS130, ?_⟩
     refine rhl_v 15 rfl (by kernel_rfl) rfl rfl rfl hS130 (fun _ hS => ov_index1 rfl Try.underlying22 (by kernel_rfl) rfl rfl ⟨by omega, by omega⟩ (by rfl)) ?_
     refine rhl_any1 16 (by kernel_rfl) ?_
     refine rcl_last rfl rfl (ow_store rfl rfl (by kernel_rfl) hO128 2 rfl rfl ⟨by omega, by omega⟩ rfl rfl) ?_
     rintro _ w131 ⟨rfl, hO132, hs133⟩
     have hfl : fnL W l k = q + 1 := by unfold fnL; rw [if_pos hq2]; omega
     have hml : mrL W l k = q := by unfold mrL; omega
     refine rhl_done (by kernel_rfl) ?_
     refine run_inBlock <| run_region <| rl_v rfl rfl rfl (ov_add rfl rfl rfl (by omega)) ?_
     refine rl_v rfl rfl rfl (ov_move rfl rfl) <| rl_nil ?_
     refine Run.use (ih96 (k + 1) _ ?_ ?_) (And.intro (by exact slot_int rfl (by first | omega)) (And.intro rfl (And.intro rfl (And.intro rfl (And.intro rfl (And.intro rfl trivial))))))
     ·first | omega | (dsimp only; omega)
     ·exact ⟨by omega, c :: T, upd rf (k : Int) (.slice wa (q + 1) wc), upd rm (k : Int) (.slice wa q wc), fun r hr => (by rw [upd_ne _ _ (by omega)]; exact hz r (by omega)), hF.step (fun v n X h => h.cons _) (by rw [hfl]; exact RdR.of hrv 0 rfl (by omega) fun i _ _ => if_pos hq2) (by rw [hml]; exact RdR.of hrv 0 rfl (by omega) fun _ _ _ => rfl), hO132⟩
   ·obtain rfl : k = n := by omega
    refine run_exit rfl <| run_seq <| run_seq <| run_region <| rl_v rfl rfl rfl (ov_assign rfl rfl) <| rl_nil <| run_block <| Run.keep [6, 7, 12] (F' := [(6, _), (7, _), (12, _)]) rfl <| run_loop1 (fun (t : Nat) => [(12, .int .i64 (t : Int))]) [6, 7] (fun (t : Nat) (w134 : World) => 1 ≤ t ∧ t ≤ 2 ^ k ∧ (∀ s : Nat, 1 ≤ s → s < t → ¬ Coal (lik5 L E) l (InI (enL (membL s k)) (membL s k).length)) ∧ Own w.heap.size w w134 (fineR tc fb gb b1 k gc ga rf rm T)) (fun (t : Nat) => 2 ^ k - t) (1) ?_ (And.intro (by exact slot_int rfl (by first | omega)) (And.intro rfl (And.intro rfl trivial))) ?_
    ·exact ⟨Nat.le_refl _, hp0, fun s h1 h2 => by omega, hO⟩
    intro t w134 hIw134 ih135
    obtain ⟨ht1, ht2, hno, hO⟩ := hIw134
    show Run _ _ _ _ [(12, _), (6, _), (7, _)] _ _
    have ht4 : t ≤ 4096 := Nat.le_trans ht2 (hp2 ▸ hp1)
    refine run_seq <| run_seq <| run_region <| rl_v rfl rfl rfl (ov_move rfl rfl) <| rl_v rfl rfl rfl (ov_move rfl rfl) <| rl_v rfl rfl rfl (ov_convTo ((show IntKind.u64.wrap (k : Int) = (k : Int) from IntWalk.u64_in _ (by omega))) rfl Try.underlying3 Try.underlying37 rfl) ?_
    refine rl_v rfl rfl rfl (ov_shl1 rfl rfl rfl (by omega)) ?_
    refine rl_v rfl rfl rfl (ov_lss rfl rfl rfl) <| rl_nil ?_
    first | refine run_cond_dec rfl (fun c1 => ?_) (fun c1 => ?_) | refine run_cond rfl (fun c1 => ?_) (fun c1 => ?_)
    ·have ht3 : t < 2 ^ k := by
      generalize 2 ^ k = q at c1 ⊢
      omega
     have hOn := hO.nil_cons
     refine run_skip <| run_seq <| run_block <| run_seq <| run_region <| rl_v rfl rfl rfl (ov_assign rfl rfl) <| rl_nil <| run_seq <| run_seq <| run_region <| rl_v rfl rfl rfl (ov_move rfl rfl) <| rl_v rfl rfl rfl (ov_move rfl rfl) <| rl_nil <| run_block <| Run.keep [6, 7, 12, 13, 102, 103] (F' := [(6, _), (7, _), (12, _), (13, _), (102, _), (103, _)]) rfl <| run_loop3 (fun (i : Nat) (ma : Option Addr) (mc : Nat) => [(103, .int .i64 (i : Int)), (13, .slice ma (membL t i).length mc)]) [6, 7, 12, 102] (fun (i : Nat) (ma : Option Addr) (mc : Nat) (w136 : World) => ∃ c : Option Blk, i ≤ k ∧ IRow (.slice ma (membL t i).length mc) 3 (membL t i).length (fun j => iv (enL (membL t i) j)) c ∧ Own w.heap.size w w136 (c :: fineR tc fb gb b1 k gc ga rf rm T)) (fun (i : Nat) (ma : Option Addr) (mc : Nat) => k - i) (0) (none) (0) ?_ (And.intro (by exact slot_int rfl (by first | omega)) (And.intro rfl (And.intro rfl (And.intro rfl (And.intro rfl (And.intro rfl trivial)))))) ?_
     ·exact ⟨none, Nat.zero_le _, IRow.nil _ _, hOn⟩
     intro i ma mc w136 hIw136 ih137
     obtain ⟨c, hi, hr, hO⟩ := hIw136
     show Run _ _ _ _ [(103, _), (13, _), (6, _), (7, _), (12, _), (102, _)] _ _
     have hlen := membL_len t i
     have hsm : ((t / 2 ^ i : Nat) : Int) < 4611686018427387904 := by
      have := Nat.div_le_self t (2 ^ i)
      generalize t / 2 ^ i = q at *
      omega
     refine run_seq <| run_region <| rl_v rfl rfl rfl (ov_lss rfl rfl rfl) <| rl_nil <| run_seq ?_
     first | refine run_cond_dec rfl (fun c2 => ?_) (fun c2 => ?_) | refine run_cond rfl (fun c2 => ?_) (fun c2 => ?_)
     ·refine run_skip <| run_seq <| run_block <| run_seq <| run_region <| rl_v rfl rfl rfl (ov_move rfl rfl) <| rl_v rfl rfl rfl (ov_assign rfl rfl) <| rl_nil <| run_seq <| run_region <| rl_v rfl rfl rfl (ov_move rfl rfl) <| rl_v rfl rfl rfl (ov_move rfl rfl) <| rl_v rfl rfl rfl (ov_convTo ((show IntKind.u64.wrap (i : Int) = (i : Int) from IntWalk.u64_in _ (by omega))) rfl Try.underlying3 Try.underlying37 rfl) ?_
      refine rl_v rfl rfl rfl (ov_shrI rfl rfl rfl (by omega)) ?_
      refine rl_v rfl rfl rfl (ov_and1 rfl rfl rfl ⟨Int.natCast_nonneg _, hsm⟩) <| rl_v rfl rfl rfl (ov_eql rfl rfl rfl) <| rl_nil ?_
      first | refine run_cond_dec rfl (fun c3 => ?_) (fun c3 => ?_) | refine run_cond rfl (fun c3 => ?_) (fun c3 => ?_)
      ·have hb : t / 2 ^ i % 2 = 1 := bit_of.1 c3
       refine run_region <| rl_v rfl rfl rfl (ov_move rfl rfl) <| rl_v rfl rfl rfl (ov_move rfl rfl) ?_
       refine rl_appI rfl rfl rfl rfl rfl rfl rfl rfl Try.underlying23 info_3 rfl hO 0 hr rfl rfl rfl ⟨by omega, by omega⟩ (fun v5 c5 w138 hO139 hr5 hs140 => ?_)
       obtain ⟨a5, cp5, rfl⟩ := Row.val hr5
       have hsn := membL_yes hb
       have hln : (membL t (i + 1)).length = (membL t i).length + 1 := by rw [hsn, List.length_append]; rfl
       rw [← hln]
       refine rl_v rfl rfl rfl (ov_assign rfl rfl) <| rl_nil <| run_inBlock <| run_region <| rl_v rfl rfl rfl (ov_add rfl rfl rfl (by omega)) ?_
       refine rl_v rfl rfl rfl (ov_move rfl rfl) <| rl_nil ?_
       refine Run.use (ih137 (i + 1) (a5) (cp5) _ ?_ ?_) (And.intro (by exact slot_int rfl (by first | omega)) (And.intro rfl (And.intro rfl (And.intro rfl (And.intro rfl (And.intro rfl trivial))))))
       ·first | omega | (dsimp only; omega)
       ·exact ⟨c5, by omega, by rw [hln] at *; rw [hsn]; exact hr5.congr fun k k0 k1 => congrArg iv (enL_snoc _ _ k k0 k1), hO139⟩
      ·have hb : ¬ t / 2 ^ i % 2 = 1 := fun h => c3 (bit_of.2 h)
       have hsn := membL_no hb
       rw [show (membL t i).length = (membL t (i + 1)).length from by rw [hsn]]
       refine run_skip <| run_inBlock <| run_region <| rl_v rfl rfl rfl (ov_add rfl rfl rfl (by omega)) ?_
       refine rl_v rfl rfl rfl (ov_move rfl rfl) <| rl_nil ?_
       refine Run.use (ih137 (i + 1) (ma) (mc) _ ?_ ?_) (And.intro (by exact slot_int rfl (by first | omega)) (And.intro rfl (And.intro rfl (And.intro rfl (And.intro rfl (And.intro rfl trivial))))))
       ·first | omega | (dsimp only; omega)
       ·exact ⟨c, by omega, by rw [hsn]; exact hr, hO⟩
     ·have hin : i = k := by omega
      subst hin
      refine run_exit rfl <| run_seq <| run_region <| rl_v rfl rfl rfl (ov_loadW rfl Try.underlying89 rfl (by kernel_rfl) rfl hO 1 rfl) ?_
      refine rl_v rfl rfl rfl (ov_move rfl rfl) ?_
      refine rl_call callable_59 rfl rfl rfl rfl rfl rfl (deal_any ma (some ⟨fb, 0, none⟩) (some ⟨gb, 0, none⟩) (membL t i).length mc i i i (enL (membL t i)) (fnL W l) (mrL W l) (fnE W l) W.e _ (hF.dealM hWn hn hWl 2 3 hO rfl rfl (rdr_drop4 hO.tail) (hr.reads hO 0 rfl) (membL_memb t i))) (fun e141 w142 hp143 => ?_)
      obtain ⟨rfl, hb1⟩ := hp143
      refine ⟨_, rfl, ?_⟩
      have hO144 := hO.past hb1
      refine rl_nil ?_
      first | refine run_cond_dec rfl (fun c4 => ?_) (fun c4 => ?_) | refine run_cond rfl (fun c4 => ?_) (fun c4 => ?_)
      ·have hcoal := (deal_coal hWd (membL_memb t i)).1 c4
       refine run_seq <| run_region <| rl_v rfl rfl rfl (ov_move rfl rfl) <| rl_v rfl rfl rfl (ov_assign rfl rfl) <| rl_v rfl rfl rfl (ov_assign rfl rfl) <| rl_nil <| run_ret Try.func27 (res2 Try.results27 rfl rfl) ?_
       exact Or.inl ⟨t, ma, mc, c, ⟨ht1, ht3⟩, rfl, hr, hO144.sub (.cons_cons _ (List.nil_sublist _)), hcoal⟩
      ·have hncoal : ¬ Coal (lik5 L E) l (InI (enL (membL t i)) (membL t i).length) := fun h => c4 ((deal_coal hWd (membL_memb t i)).2 h)
       refine run_skip <| run_inBlock <| run_region <| rl_v rfl rfl rfl (ov_move rfl rfl) <| rl_v rfl rfl rfl (ov_add rfl rfl rfl (by omega)) ?_
       refine rl_v rfl rfl rfl (ov_assign rfl rfl) <| rl_nil ?_
       refine Run.use (ih135 (t + 1) _ ?_ ?_) (And.intro (by exact slot_int rfl (by first | omega)) (And.intro rfl (And.intro rfl trivial)))
       ·first | omega | (dsimp only; omega)
       ·exact ⟨by omega, ht3, fun s h1 h2 => by by_cases e : s = t; (rw [e]; exact hncoal); (exact hno s h1 (by omega)), hO144.tail⟩
    ·have hte : 2 ^ k ≤ t := by
      generalize 2 ^ k = q at c1 ⊢
      omega
     refine run_exit rfl <| run_seq <| run_region <| rl_v rfl rfl rfl (ov_assign rfl rfl) <| rl_v rfl rfl rfl (ov_assign rfl rfl) <| rl_nil <| run_ret Try.func27 (res2 Try.results27 rfl rfl) ?_
     exact Or.inr ⟨⟨rfl, fun ⟨s, hs, hc⟩ => hno s hs.1 (Nat.lt_of_lt_of_le hs.2 hte) hc⟩, hO.below⟩
end Go.Proofs.Ytlldeifbfpmbaaa
