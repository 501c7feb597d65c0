import Derived.Test.YtbepolognfdkeaaGreatGcB
import Derived.Test.YtbepolognfdkeaaGreatGaT
set_option maxRecDepth 100000
namespace Go.Proofs.YtbepolognfdkeaaGreat
open Go.RowKit Go.Proofs Go.MapKept
theorem sortStableR7_any (gf : Nat) (hcl : Callable Tryz.prog gf) (caps : Array Value) (f Y : Int → Int) (va : Option Addr) (vc n B : Nat) (c : Option Blk) (H : List (Option Blk)) (w0 w : World) (hr : IRow (.slice va n vc) 3 n (fun j => iv (Y j)) c) (hO : Own B w0 w (c :: H)) (hcmp : ∀ x, CmpS gf caps f Y n B w0 (x :: H))
  (hn : n ≤ 20) (hY : ∀ a b : Int, 0 ≤ a → a < b → b < n → Y a < Y b) :
  Calls Tryz.prog 36 #[.slice va n vc, .func (.func gf) #[] caps] w fun e w' => e = .returned (.tuple #[]) ∧ ∃ (Z : Int → Int) (c' : Option Blk), IRow (.slice va n vc) 3 n (fun j => iv (Z j)) c' ∧ SrtS f Y n Z n ∧ Own B w0 w' (c' :: H) := by
 by_cases h0 : n = 0
 ·subst h0
  refine (sortNone7_any (.func (.func gf) #[] caps) va vc w).mono fun e w' ⟨he, hO2⟩ => ⟨he, Y, c, hr, ⟨fun v => Iff.rfl, fun a b _ _ _ _ => by omega, fun a _ _ => rfl, fun a b _ _ _ => by omega⟩, hO.join hO2⟩
 ·obtain ⟨b, G, rfl, h1, h2, rfl, h3⟩ := hr.asV (by omega)
  refine (sortStable7_any gf hcl caps f Y b vc n B G H w0 w hO (fun G => hcmp _) (by omega) h1 h3 hY).mono fun e w' ⟨he, G', g', hG', hs, hO'⟩ => ⟨he, g', _, IRow.ofV h1 h2 fun i i0 i1 => hG' i i0 i1, hs, hO'⟩
theorem early1_any (la : Option Addr) (lc tb B : Nat) (l : Lds) (Y : Int → Int) (q : Nat) (w0 : World) (H : List (Option Blk)) (x : Option Blk) (hV : l.Valid) (hl : SAt B w0 la 4 l.n (ldF l)) (hY : ∀ i : Int, 0 ≤ i → i < q → 0 ≤ Y i ∧ Y i < l.n) :
  CmpS 65 #[ptr tb] l.d Y q B w0 (x :: some (lch tb 24 [.slice la l.n lc]) :: H) := fun a b w ⟨i, hi, ei⟩ ⟨j, hj, ej⟩ hO => by
 have ha := hY i hi.1 hi.2
 have hb := hY j hj.1 hj.2
 rw [ei] at ha
 rw [ej] at hb
 have hva := hV a ha.1 ha.2
 have hvb := hV b hb.1 hb.2
 unfold Lds.Val at hva hvb
 have hll := (hO.readsL 1 rfl).open
 obtain ⟨lb, lo, hla, hlr⟩ := (hO.satU hl).open (by decide)
 refine calls_of_run (F := [(0, _), (1, _), (2, _)]) Tryz.func65 rfl Tryz.ntmps65 rfl rfl ?_
 have hO0 := Own.init w
 refine run_seq <| run_region <| rl_v rfl rfl rfl (ov_assign rfl rfl) <| rl_nil <| run_seq <| run_quiet mixed (by kernel_rfl) ?_
 refine rq_v rfl rfl rfl (fun _ => ov_load rfl Tryz.underlying24 rfl rfl (by show World.cell? w _ = _; first | exact hll _ hO0.below rfl | exact hO0.cellI 0 rfl _ (by omega) (by omega) | exact hO0.cellL 0 rfl rfl | exact hO0.cellI 1 rfl _ (by omega) (by omega) | exact hO0.cellL 1 rfl rfl | exact hO0.cellI 2 rfl _ (by omega) (by omega) | exact hO0.cellL 2 rfl rfl | exact hO0.cellI 3 rfl _ (by omega) (by omega) | exact hO0.cellL 3 rfl rfl | exact hO0.cellI 4 rfl _ (by omega) (by omega) | exact hO0.cellL 4 rfl rfl | exact hO0.cellI 5 rfl _ (by omega) (by omega) | exact hO0.cellL 5 rfl rfl)) ?_
 refine rq_v rfl rfl rfl (fun _ => ov_move rfl rfl) ?_
 refine rq_v rfl rfl rfl (fun _ => ov_index rfl Tryz.underlying24 (by kernel_rfl) (s := 4) rfl rfl ⟨by omega, by omega⟩ (by exact hla (by omega))) ?_
 refine rq_v rfl rfl rfl (fun _ => ov_fieldS rfl Tryz.underlying58 rfl (fo := 1) rfl (by kernel_rfl) rfl) ?_
 refine rq_v rfl rfl rfl (fun _ => ov_load rfl Tryz.underlying3 rfl rfl (by show World.cell? w _ = _; first | exact hlr _ hO0.below a ha.1 ha.2 1 (by decide))) ?_
 refine rq_v rfl rfl rfl (fun _ => ov_load rfl Tryz.underlying24 rfl rfl (by show World.cell? w _ = _; first | exact hll _ hO0.below rfl | exact hO0.cellI 0 rfl _ (by omega) (by omega) | exact hO0.cellL 0 rfl rfl | exact hO0.cellI 1 rfl _ (by omega) (by omega) | exact hO0.cellL 1 rfl rfl | exact hO0.cellI 2 rfl _ (by omega) (by omega) | exact hO0.cellL 2 rfl rfl | exact hO0.cellI 3 rfl _ (by omega) (by omega) | exact hO0.cellL 3 rfl rfl | exact hO0.cellI 4 rfl _ (by omega) (by omega) | exact hO0.cellL 4 rfl rfl | exact hO0.cellI 5 rfl _ (by omega) (by omega) | exact hO0.cellL 5 rfl rfl)) ?_
 refine rq_v rfl rfl rfl (fun _ => ov_move rfl rfl) ?_
 refine rq_v rfl rfl rfl (fun _ => ov_index rfl Tryz.underlying24 (by kernel_rfl) (s := 4) rfl rfl ⟨by omega, by omega⟩ (by exact hla (by omega))) ?_
 refine rq_v rfl rfl rfl (fun _ => ov_fieldS rfl Tryz.underlying58 rfl (fo := 1) rfl (by kernel_rfl) rfl) ?_
 refine rq_v rfl rfl rfl (fun _ => ov_load rfl Tryz.underlying3 rfl rfl (by show World.cell? w _ = _; first | exact hlr _ hO0.below b hb.1 hb.2 1 (by decide))) ?_
 refine rq_v rfl rfl rfl (fun _ => ov_sub rfl rfl rfl (by omega)) ?_
 refine rq_v rfl rfl rfl (fun _ => ov_assign rfl rfl) ?_
 refine rq_nil (fun n1 => ?_)
 have hO3 := hO0.drewN n1
 generalize World.drewN w n1 = w2 at hO3 ⊢
 refine run_ret Tryz.func65 (res1 Tryz.results65 rfl) ?_
 exact ⟨rfl, hO3⟩
set_option maxHeartbeats 8000000 in
theorem early_any (la : Option Addr) (lc : Nat) (l : Lds) (k : Int) (w : World) (hn : l.n ≤ 20) (hV : l.Valid) (hk : 1 ≤ k ∧ k ≤ 64) (hl : SAt w.heap.size w la 4 l.n (ldF l)) :
  Calls Tryz.prog 35 #[.slice la l.n lc, iv k] w fun e w' => ∃ (oa : Option Addr) (on oc : Nat) (out : Int → Int) (co : Option Blk), e = .returned (.tuple #[.slice oa on oc, .bool (decide (CanM l k fun _ => True))]) ∧ IRow (.slice oa on oc) 3 on (fun i => iv (out i)) co ∧ (CanM l k (fun _ => True) → on = l.n ∧ EdF l k (fun _ => True) out) ∧ (¬ CanM l k (fun _ => True) → on = 0) ∧ Own w.heap.size w w' [co] := by
 obtain ⟨lb, lo, hla, hlr⟩ := hl.open (by decide)
 refine calls_of_run (F := [(0, _), (1, _)]) Tryz.func35 rfl Tryz.ntmps35 rfl rfl ?_
 have hO0 := Own.init w
 refine run_seq <| run_region <| rl_ow rfl (ow_box _ rfl rfl rfl rfl rfl hO0) ?_
 rintro _ w1 ⟨tb, rfl, hO2, hs3⟩
 refine rl_v rfl rfl rfl (ov_assign rfl rfl) <| rl_v rfl rfl rfl (ov_assign rfl rfl) <| rl_nil <| run_seq <| run_region <| rl_ow rfl (ow_one rfl rfl rfl Tryz.underlying36 info_3 rfl hO2 rfl rfl) ?_
 rintro _ w4 ⟨b15, rfl, hO5, hs6⟩
 refine rl_v rfl rfl rfl (ov_load rfl Tryz.underlying24 rfl rfl (by exact hO5.cellL 1 rfl (off := 0) rfl)) ?_
 refine rl_v rfl rfl rfl (ov_len rfl Tryz.underlying24 rfl) ?_
 refine rl_call callable_62 rfl rfl rfl rfl rfl rfl (repeatR'_any _ _ l.n (-1) _ (by omega) (hO5.readsI 0 rfl)) (fun e7 w8 hp9 => ?_)
 obtain ⟨ob, rfl, hOa⟩ := hp9
 refine ⟨_, rfl, ?_⟩
 have hO10 := hO5.join hOa
 refine rl_v rfl rfl rfl (ov_assign rfl rfl) <| rl_nil <| run_seq <| run_region <| rl_v rfl rfl rfl (ov_load rfl Tryz.underlying24 rfl rfl (by exact hO10.cellL 2 rfl (off := 0) rfl)) ?_
 refine rl_v rfl rfl rfl (ov_len rfl Tryz.underlying24 rfl) <| rl_v rfl rfl rfl (ov_assign rfl rfl) <| rl_nil <| run_seq <| run_seq <| run_region <| rl_v rfl rfl rfl (ov_assign rfl rfl) <| rl_nil <| run_block ?_
 have hOb := hO10.sub (.cons_cons _ (.cons _ (.cons_cons _ (List.nil_sublist _))) : List.Sublist [some (vch ob 3 l.n (fun _ => iv (-1))), some (lch tb 24 [.slice la l.n lc])] _)
 have hw0 := wt7_all (l := l)
 refine Run.keep [1, 2, 6, 7, 8] (F' := [(1, _), (2, _), (6, _), (7, _), (8, _)]) rfl <| run_loop3 (fun (h : Int) (out : Int → Int) (W : Int) => [(8, .int .i64 h), (7, .int .i64 W)]) [1, 2, 6] (fun (h : Int) (out : Int → Int) (W : Int) (w11 : World) => 0 ≤ h ∧ h ≤ 1000000 ∧ Ed l k (fun _ => True) h out ∧ W = wt7 l (fun _ => True) out ∧ Own w.heap.size w w11 [some (vch ob 3 l.n (fun i => iv (out i))), some (lch tb 24 [.slice la l.n lc])]) (fun (h : Int) (out : Int → Int) (W : Int) => (1000001 - h).toNat) (0) ((fun _ => -1)) (l.n) ?_ (And.intro (by exact slot_int rfl (by first | omega)) (And.intro (by exact slot_int rfl (by first | omega)) (And.intro rfl (And.intro rfl (And.intro rfl trivial))))) ?_
 ·exact ⟨Int.le_refl _, by decide, Ed.init (by omega), hw0.symm, hOb⟩
 intro h out W w11 hIw11 ih12
 obtain ⟨h0, h1, hE, hW, hOc⟩ := hIw11
 show Run _ _ _ _ [(8, _), (7, _), (1, _), (2, _), (6, _)] _ _
 refine run_seq <| run_seq <| run_region <| rl_v rfl rfl rfl (ov_move rfl rfl) <| rl_v rfl rfl rfl (ov_gtr rfl rfl rfl) <| rl_nil ?_
 first | refine run_cond_dec rfl (fun c1 => ?_) (fun c1 => ?_) | refine run_cond rfl (fun c1 => ?_) (fun c1 => ?_)
 ·refine run_skip <| run_seq <| run_block <| run_seq <| run_region <| rl_v rfl rfl rfl (ov_assign rfl rfl) <| rl_nil <| run_seq <| run_region <| rl_v rfl rfl rfl (ov_assign rfl rfl) <| rl_nil <| run_seq <| run_seq <| run_region <| rl_v rfl rfl rfl (ov_load rfl Tryz.underlying24 rfl rfl (by exact hOc.cellL 1 rfl (off := 0) rfl)) ?_
  refine rl_v rfl rfl rfl (ov_len rfl Tryz.underlying24 rfl) <| rl_v rfl rfl rfl (ov_move rfl rfl) <| rl_nil <| run_block ?_
  have hOd := hOc.nil_cons.perm ((List.Perm.swap _ _ []).cons _)
  refine Run.keep [1, 2, 6, 7, 8, 9, 10, 25, 26, 27] (F' := [(1, _), (2, _), (6, _), (7, _), (8, _), (9, _), (10, _), (25, _), (26, _), (27, _)]) rfl <| run_loop3 (fun (j : Nat) (e : Int) (v : Value) => [(27, .int .i64 (j : Int)), (10, .int .i64 e), (9, v)]) [1, 2, 6, 7, 8, 25, 26] (fun (j : Nat) (e : Int) (v : Value) (w13 : World) => j ≤ l.n ∧ ∃ (q : Nat) (Y : Int → Int) (cY : Option Blk), Pick (fun i => out i = -1 ∧ l.r i ≤ h) j q Y ∧ e ≤ 1000000 ∧ (∀ i : Int, 0 ≤ i → i < j → out i = -1 → h < l.r i → e ≤ l.r i) ∧ (e = 1000000 ∨ ∃ i : Int, (0 ≤ i ∧ i < j) ∧ h < l.r i ∧ e = l.r i) ∧ IRow v 3 q (fun i => iv (Y i)) cY ∧ Own w.heap.size w w13 [cY, some (lch tb 24 [.slice la l.n lc]), some (vch ob 3 l.n (fun i => iv (out i)))]) (fun (j : Nat) (e : Int) (v : Value) => l.n - j) (0) (1000000) (.slice none 0 0) ?_ (And.intro (by exact slot_int rfl (by first | omega)) (And.intro (by exact slot_int rfl (by first | omega)) (And.intro rfl (And.intro rfl (And.intro rfl (And.intro rfl (And.intro rfl (And.intro rfl (And.intro rfl (And.intro rfl trivial)))))))))) ?_
  ·exact ⟨Nat.zero_le _, 0, fun _ => 0, none, Pick.nil _ _, Int.le_refl _, fun i a b => by omega, .inl rfl, IRow.nil _ _, hOd⟩
  intro j e v w13 hIw13 ih14
  obtain ⟨hj, q, Y, cY, hP, he, hev, hex, hr, hOe⟩ := hIw13
  show Run _ _ _ _ [(27, _), (10, _), (9, _), (1, _), (2, _), (6, _), (7, _), (8, _), (25, _), (26, _)] _ _
  have hqj := hP.le
  refine run_seq <| run_region <| rl_v rfl rfl rfl (ov_lss rfl rfl rfl) <| rl_nil <| run_seq ?_
  first | refine run_cond_dec rfl (fun c2 => ?_) (fun c2 => ?_) | refine run_cond rfl (fun c2 => ?_) (fun c2 => ?_)
  ·have hneg := hE.neg hV (i := j) (by omega) c2 trivial
   have hv := hV j (by omega) c2
   unfold Lds.Val at hv
   refine run_skip <| run_seq <| run_block <| run_seq <| run_region <| rl_v rfl rfl rfl (ov_move rfl rfl) <| rl_v rfl rfl rfl (ov_index rfl Tryz.underlying24 (by kernel_rfl) (s := 4) rfl rfl ⟨by omega, by omega⟩ (by exact hla (by omega))) ?_
   refine rl_v rfl rfl rfl (ov_loadE rfl Tryz.underlying58 rfl (by kernel_rfl) rfl ⟨by omega, by omega⟩ rfl (hlr _ hOe.below)) ?_
   refine rl_ow rfl (ow_alloc _ rfl rfl rfl zero_58 rfl hOe) ?_
   rintro _ w15 ⟨t12, rfl, hO16, hs17⟩
   refine rl_v rfl rfl rfl (ov_assign rfl rfl) <| rl_ow rfl (ow_storeW rfl rfl (by kernel_rfl) hO16 0 rfl rfl (by rfl) rfl (by rfl)) ?_
   rintro _ w18 ⟨rfl, hO19, hs20⟩
   refine rl_nil <| run_block <| run_seq <| run_region <| rl_v rfl rfl rfl (ov_move rfl rfl) <| rl_v rfl rfl rfl (ov_move rfl rfl) <| rl_v rfl rfl rfl (ov_index1 rfl Tryz.underlying36 (by kernel_rfl) rfl rfl ⟨by omega, by omega⟩ (by rfl)) ?_
   refine rl_v rfl rfl rfl (ov_load rfl Tryz.underlying3 rfl rfl (by exact hO19.cellI 3 rfl j (by omega) c2)) ?_
   refine rl_v rfl rfl rfl (ov_geq rfl rfl rfl) <| rl_v rfl rfl rfl (ov_assign rfl rfl) <| rl_nil ?_
   first | refine run_cond_dec rfl (fun c3 => ?_) (fun c3 => ?_) | refine run_cond rfl (fun c3 => ?_) (fun c3 => ?_)
   ·have hno : ¬ (out j = -1 ∧ l.r j ≤ h) := fun h => by omega
    have hev2 : ∀ i : Int, 0 ≤ i → i < ((j + 1 : Nat) : Int) → out i = -1 → h < l.r i → e ≤ l.r i := fun i a b c d => by
     by_cases e9 : i = (j : Int)
     ·rw [e9] at c; omega
     ·exact hev i a (by omega) c d
    have hex2 : e = 1000000 ∨ ∃ i : Int, (0 ≤ i ∧ i < ((j + 1 : Nat) : Int)) ∧ h < l.r i ∧ e = l.r i := hex.imp id fun ⟨i, hi, a⟩ => ⟨i, by omega, a⟩
    refine run_skip <| run_inBlock <| run_inBlock <| run_region <| rl_v rfl rfl rfl (ov_add rfl rfl rfl (by omega)) ?_
    refine rl_v rfl rfl rfl (ov_move rfl rfl) <| rl_nil ?_
    refine Run.use (ih14 (j + 1) (e) (v) _ ?_ ?_) (And.intro (by exact slot_int rfl (by first | omega)) (And.intro (by exact slot_int rfl (by first | omega)) (And.intro rfl (And.intro rfl (And.intro rfl (And.intro rfl (And.intro rfl (And.intro rfl (And.intro rfl (And.intro rfl trivial))))))))))
    ·first | omega | (dsimp only; omega)
    ·exact ⟨by omega, q, Y, cY, hP.no hno, he, hev2, hex2, hr, hO19.tail⟩
   ·have hm1 : out j = -1 := by omega
    refine run_seq <| run_region <| rl_v rfl rfl rfl (ov_fieldS rfl Tryz.underlying58 rfl (fo := 0) rfl (by kernel_rfl) rfl) ?_
    refine rl_v rfl rfl rfl (ov_load rfl Tryz.underlying3 rfl rfl (by exact hO19.cellL 0 rfl (off := 0) rfl)) ?_
    refine rl_v rfl rfl rfl (ov_move rfl rfl) <| rl_v rfl rfl rfl (ov_leq rfl rfl rfl) <| rl_v rfl rfl rfl (ov_assign rfl rfl) <| rl_nil ?_
    first | refine run_cond_dec rfl (fun c4 => ?_) (fun c4 => ?_) | refine run_cond rfl (fun c4 => ?_) (fun c4 => ?_)
    ·have hev2 : ∀ i : Int, 0 ≤ i → i < ((j + 1 : Nat) : Int) → out i = -1 → h < l.r i → e ≤ l.r i := fun i a b c d => by
      by_cases e9 : i = (j : Int)
      ·rw [e9] at d; omega
      ·exact hev i a (by omega) c d
     have hex2 : e = 1000000 ∨ ∃ i : Int, (0 ≤ i ∧ i < ((j + 1 : Nat) : Int)) ∧ h < l.r i ∧ e = l.r i := hex.imp id fun ⟨i, hi, a⟩ => ⟨i, by omega, a⟩
     refine run_region <| rl_v rfl rfl rfl (ov_move rfl rfl) <| rl_v rfl rfl rfl (ov_move rfl rfl) <| rl_ow rfl (ow_one rfl rfl rfl Tryz.underlying36 info_3 rfl hO19 rfl rfl) ?_
     rintro _ w21 ⟨b49, rfl, hO22, hs23⟩
     refine rl_ow rfl (ow_app1 rfl rfl rfl Tryz.underlying36 info_3 rfl hO22 1 hr rfl rfl rfl rfl ⟨by omega, by omega⟩) ?_
     rintro _ w24 ⟨v50, c50, rfl, hO25, hr50, hs26⟩
     have hr51 : IRow v50 3 (q + 1) (fun i => iv (upd Y q j i)) c50 := hr50.congr fun i _ _ => by unfold upd; split <;> rfl
     refine rl_v rfl rfl rfl (ov_assign rfl rfl) <| rl_nil <| run_inBlock <| run_inBlock <| run_region <| rl_v rfl rfl rfl (ov_add rfl rfl rfl (by omega)) ?_
     refine rl_v rfl rfl rfl (ov_move rfl rfl) <| rl_nil ?_
     refine Run.use (ih14 (j + 1) (e) (v50) _ ?_ ?_) (And.intro (by exact slot_int rfl (by first | omega)) (And.intro (by exact slot_int rfl (by first | omega)) (And.intro rfl (And.intro rfl (And.intro rfl (And.intro rfl (And.intro rfl (And.intro rfl (And.intro rfl (And.intro rfl trivial))))))))))
     ·first | omega | (dsimp only; omega)
     ·exact ⟨by omega, q + 1, upd Y q j, c50, hP.yes ⟨hm1, c4⟩, he, hev2, hex2, hr51, hO25.tail⟩
    ·have hno : ¬ (out j = -1 ∧ l.r j ≤ h) := fun h => by omega
     have hev2 : ∀ i : Int, 0 ≤ i → i < ((j + 1 : Nat) : Int) → out i = -1 → h < l.r i → min e (l.r j) ≤ l.r i := fun i a b c d => by
      by_cases e9 : i = (j : Int)
      ·rw [e9]; omega
      ·have := hev i a (by omega) c d; omega
     have hex2 : min e (l.r j) = 1000000 ∨ ∃ i : Int, (0 ≤ i ∧ i < ((j + 1 : Nat) : Int)) ∧ h < l.r i ∧ min e (l.r j) = l.r i := by
      by_cases e9 : e ≤ l.r j
      ·rw [show min e (l.r j) = e by omega]
       exact hex.imp id fun ⟨i, hi, a⟩ => ⟨i, by omega, a⟩
      ·exact .inr ⟨j, by omega, by omega, by omega⟩
     refine run_region <| rl_v rfl rfl rfl (ov_move rfl rfl) <| rl_v rfl rfl rfl (ov_fieldS rfl Tryz.underlying58 rfl (fo := 0) rfl (by kernel_rfl) rfl) ?_
     refine rl_v rfl rfl rfl (ov_load rfl Tryz.underlying3 rfl rfl (by exact hO19.cellL 0 rfl (off := 0) rfl)) ?_
     refine rl_v rfl rfl rfl (ov_min rfl rfl rfl) <| rl_v rfl rfl rfl (ov_assign rfl rfl) <| rl_nil <| run_inBlock <| run_inBlock <| run_region <| rl_v rfl rfl rfl (ov_add rfl rfl rfl (by omega)) ?_
     refine rl_v rfl rfl rfl (ov_move rfl rfl) <| rl_nil ?_
     refine Run.use (ih14 (j + 1) (min e (l.r j)) (v) _ ?_ ?_) (And.intro (by exact slot_int rfl (by first | omega)) (And.intro (by exact slot_int rfl (by first | omega)) (And.intro rfl (And.intro rfl (And.intro rfl (And.intro rfl (And.intro rfl (And.intro rfl (And.intro rfl (And.intro rfl trivial))))))))))
     ·first | omega | (dsimp only; omega)
     ·exact ⟨by omega, q, Y, cY, hP.no hno, by omega, hev2, hex2, hr, hO19.tail⟩
  ·have hjn : j = l.n := by omega
   rw [hjn] at hP hev hex
   obtain ⟨va, vc, rfl⟩ := Row.val hr
   obtain ⟨i9, hi9, _, ho9⟩ := wt7_some (l := l) (S := fun _ => True) (out := out) (by omega)
   have hv9 := hV i9 hi9.1 hi9.2
   unfold Lds.Val at hv9
   refine run_exit rfl <| run_seq <| run_seq <| run_region <| rl_v rfl rfl rfl (ov_move rfl rfl) <| rl_v rfl rfl rfl (ov_len rfl Tryz.underlying36 rfl) <| rl_v rfl rfl rfl (ov_eql rfl rfl rfl) <| rl_nil ?_
   first | refine run_cond_dec rfl (fun c5 => ?_) (fun c5 => ?_) | refine run_cond rfl (fun c5 => ?_) (fun c5 => ?_)
   ·have hq0 : q = 0 := by omega
    have hnone : ∀ i : Int, 0 ≤ i → i < l.n → True → out i = -1 → e ≤ l.r i := fun i i0 i1 _ ho => by
     refine hev i i0 i1 ho (Classical.byContradiction fun hn => ?_)
     obtain ⟨a, ha, _⟩ := (hP.mem i).2 ⟨⟨i0, i1⟩, ho, by omega⟩
     omega
    have h9 := hnone i9 hi9.1 hi9.2 trivial ho9
    have hgt : h < e := by
     rcases hex with a | ⟨i, hi, a, b⟩
     ·refine Classical.byContradiction fun hn => ?_
      obtain ⟨a, ha, _⟩ := (hP.mem i9).2 ⟨hi9, ho9, by omega⟩
      omega
     ·omega
    have hE2 := hE.skip (Int.le_of_lt hgt) hnone
    have hOz := hOe.tail.perm (List.Perm.swap _ _ [])
    refine run_seq <| run_region <| rl_v rfl rfl rfl (ov_move rfl rfl) <| rl_v rfl rfl rfl (ov_sub rfl rfl rfl (by omega)) ?_
    refine rl_v rfl rfl rfl (ov_assign rfl rfl) <| rl_nil <| run_exit rfl <| run_region <| rl_v rfl rfl rfl (ov_move rfl rfl) <| rl_v rfl rfl rfl (ov_add rfl rfl rfl (by omega)) ?_
    refine rl_v rfl rfl rfl (ov_assign rfl rfl) <| rl_nil ?_
    refine Run.use (ih12 (e - 1 + 1) (out) (W) _ ?_ ?_) (And.intro (by exact slot_int rfl (by first | omega)) (And.intro (by exact slot_int rfl (by first | omega)) (And.intro rfl (And.intro rfl (And.intro rfl trivial)))))
    ·first | omega | (dsimp only; omega)
    ·exact ⟨by omega, by omega, by rw [show e - 1 + 1 = e by omega]; exact hE2, hW, hOz⟩
   ·have hYr : ∀ i : Int, 0 ≤ i → i < q → 0 ≤ Y i ∧ Y i < l.n := fun i i0 i1 => ((hP.mem (Y i)).1 ⟨i, ⟨i0, i1⟩, rfl⟩).1
    refine run_skip <| run_seq <| run_region <| rl_v rfl rfl rfl (ov_move rfl rfl) <| rl_v rfl rfl rfl (ov_func rfl rfl rfl) ?_
    refine rl_call callable_36 rfl rfl rfl rfl rfl rfl (sortStableR7_any 65 callable_65 #[ptr tb] l.d Y va vc q w.heap.size cY _ w _ hr hOe (fun x => early1_any la lc tb _ l Y q w _ x hV hl hYr) (by omega) hP.inc.inc) (fun e27 w28 hp29 => ?_)
    obtain ⟨rfl, Z, cZ, hrZ, hZ, hOf⟩ := hp29
    refine ⟨_, rfl, ?_⟩
    obtain ⟨M, hM⟩ : ∃ M : Nat, (M : Int) = min k (q : Int) := ⟨(min k (q : Int)).toNat, by omega⟩
    have hqv := hrZ.capU
    obtain ⟨vb, hvb⟩ := hrZ.addr
    have hav0 : ∀ i : Int, 0 ≤ i → i < l.n → ((out i = -1 ∧ l.r i ≤ h) ↔ ∃ p : Int, (0 ≤ p ∧ p < q) ∧ Z p = i) := fun i i0 i1 => by
     rw [hZ.same i]
     exact ⟨fun a => (hP.mem i).2 ⟨⟨i0, i1⟩, a⟩, fun a => ((hP.mem i).1 a).2⟩
    have hZr : ∀ p : Int, 0 ≤ p → p < q → 0 ≤ Z p ∧ Z p < l.n := fun p p0 p1 => by
     obtain ⟨a, ha, e9⟩ := (hZ.same (Z p)).1 ⟨p, ⟨p0, p1⟩, rfl⟩
     rw [← e9]; exact hYr a ha.1 ha.2
    refine rl_nil <| run_seq <| run_region <| rl_v rfl rfl rfl (ov_move rfl rfl) <| rl_v rfl rfl rfl (ov_move rfl rfl) <| rl_v rfl rfl rfl (ov_move rfl rfl) <| rl_v rfl rfl rfl (ov_len rfl Tryz.underlying36 rfl) <| rl_v rfl rfl rfl (ov_min rfl rfl rfl) <| rl_v rfl rfl rfl (ov_sliceH (M) (s := 1) rfl Tryz.underlying36 (by kernel_rfl) rfl rfl (by omega) (by omega)) ?_
    refine rl_v rfl rfl rfl (ov_len rfl Tryz.underlying36 rfl) <| rl_v rfl rfl rfl (ov_move rfl rfl) <| rl_nil <| run_block <| Run.keep [1, 2, 6, 7, 8, 65, 66, 67] (F' := [(1, _), (2, _), (6, _), (7, _), (8, _), (65, _), (66, _), (67, _)]) rfl <| run_loop3 (fun (p : Nat) (out2 : Int → Int) (W2 : Int) => [(67, .int .i64 (p : Int)), (7, .int .i64 W2)]) [1, 2, 6, 8, 65, 66] (fun (p : Nat) (out2 : Int → Int) (W2 : Int) (w30 : World) => p ≤ M ∧ (0 < p → h < 1000000) ∧ EdI l k (fun _ => True) h p out2 ∧ (∀ i : Int, 0 ≤ i → i < l.n → ((out2 i = -1 ∧ l.r i ≤ h) ↔ ∃ a : Int, ((p : Int) ≤ a ∧ a < q) ∧ Z a = i)) ∧ W2 = wt7 l (fun _ => True) out2 ∧ Own w.heap.size w w30 [cZ, some (lch tb 24 [.slice la l.n lc]), some (vch ob 3 l.n (fun i => iv (out2 i)))]) (fun (p : Nat) (out2 : Int → Int) (W2 : Int) => M - p) (0) (out) (W) ?_ (And.intro (by exact slot_int rfl (by first | omega)) (And.intro (by exact slot_int rfl (by first | omega)) (And.intro rfl (And.intro rfl (And.intro rfl (And.intro rfl (And.intro rfl (And.intro rfl trivial)))))))) ?_
    ·exact ⟨Nat.zero_le _, fun a => by omega, hE.start h0 (by omega), hav0, hW, hOf⟩
    intro p out2 W2 w30 hIw30 ih31
    obtain ⟨hp, hpp, hI, hav, hW2, hOg⟩ := hIw30
    show Run _ _ _ _ [(67, _), (7, _), (1, _), (2, _), (6, _), (8, _), (65, _), (66, _)] _ _
    refine run_seq <| run_region <| rl_v rfl rfl rfl (ov_lss rfl rfl rfl) <| rl_nil <| run_seq ?_
    first | refine run_cond_dec rfl (fun c6 => ?_) (fun c6 => ?_) | refine run_cond rfl (fun c6 => ?_) (fun c6 => ?_)
    ·obtain ⟨b, hb⟩ : ∃ b, b = Z p := ⟨_, rfl⟩
     have hbr := hZr p (by omega) (by omega)
     rw [← hb] at hbr
     have hba := (hav b hbr.1 hbr.2).2 ⟨p, by omega, hb.symm⟩
     have hvb9 := hV b hbr.1 hbr.2
     unfold Lds.Val at hvb9
     have hWr := wt7_rng (l := l) (S := fun _ => True) (out := out2)
     have hWp : 0 < wt7 l (fun _ => True) out2 := Classical.byContradiction fun hn => wt7_none (l := l) (S := fun _ => True) (out := out2) (by omega) b hbr.1 hbr.2 trivial hba.1
     refine run_skip <| run_seq <| run_block <| run_seq <| run_region <| rl_v rfl rfl rfl (ov_index1 rfl Tryz.underlying36 (by kernel_rfl) rfl rfl ⟨by omega, by omega⟩ (by exact hvb (by omega))) ?_
     refine rl_v rfl rfl rfl (ov_load rfl Tryz.underlying3 rfl rfl (by exact (hrZ.cellU hOg 0 rfl (hvb (by omega)) (i := p) (by omega) (by omega)).trans (congrArg (fun z => some (iv z)) hb.symm))) ?_
     refine rl_v rfl rfl rfl (ov_assign rfl rfl) <| rl_nil <| run_seq <| run_seq <| run_region <| rl_v rfl rfl rfl (ov_move rfl rfl) <| rl_v rfl rfl rfl (ov_load rfl Tryz.underlying24 rfl rfl (by exact hOg.cellL 1 rfl (off := 0) rfl)) ?_
     refine rl_v rfl rfl rfl (ov_move rfl rfl) <| rl_v rfl rfl rfl (ov_index rfl Tryz.underlying24 (by kernel_rfl) (s := 4) rfl rfl ⟨by omega, by omega⟩ (by exact hla (by omega))) ?_
     refine rl_v rfl rfl rfl (ov_fieldS rfl Tryz.underlying58 rfl (fo := 1) rfl (by kernel_rfl) rfl) ?_
     refine rl_v rfl rfl rfl (ov_load rfl Tryz.underlying3 rfl rfl (by exact hlr _ hOg.below b hbr.1 hbr.2 1 (by decide))) ?_
     refine rl_v rfl rfl rfl (ov_geq rfl rfl rfl) <| rl_nil ?_
     first | refine run_cond_dec rfl (fun c7 => ?_) (fun c7 => ?_) | refine run_cond rfl (fun c7 => ?_) (fun c7 => ?_)
     ·have hno := hI.late hV hbr.1 hbr.2 trivial hba.1 c7
      refine run_seq <| run_region <| rl_v rfl rfl rfl (ov_assign rfl rfl) <| rl_v rfl rfl rfl (ov_assign rfl rfl) <| rl_nil <| run_ret Tryz.func35 (res2 Tryz.results35 rfl rfl) ?_
      exact ⟨none, 0, 0, fun _ => 0, none, by rw [decide_eq_false hno], IRow.nil _ _, fun hc => absurd hc hno, fun _ => rfl, (hOg.sub (List.nil_sublist _)).nil_cons⟩
     ·refine run_skip <| run_seq <| run_region <| rl_v rfl rfl rfl (ov_move rfl rfl) <| rl_v rfl rfl rfl (ov_move rfl rfl) <| rl_v rfl rfl rfl (ov_move rfl rfl) <| rl_v rfl rfl rfl (ov_index1 rfl Tryz.underlying36 (by kernel_rfl) rfl rfl ⟨by omega, by omega⟩ (by rfl)) ?_
      first | refine rl_storeI rfl rfl rfl (by kernel_rfl) hOg 2 rfl rfl ⟨by omega, by omega⟩ rfl (fun w32 hO33 hs34 => ?_)
      have hlt7 : h < l.d b := by omega
      have hI1 := hI.pick (b := b) hbr.1 hbr.2 trivial hba.1 h0 hba.2 hlt7 (by omega) fun i i0 i1 _ ho hr9 hne => by
       obtain ⟨a, ha, e9⟩ := (hav i i0 i1).1 ⟨ho, hr9⟩
       have hpa : (p : Int) ≠ a := fun e8 => hne (by rw [← e9, ← e8, hb])
       rw [hb, ← e9]
       exact hZ.srt p a (by omega) (by omega) ha.2
      have hI2 : EdI l k (fun _ => True) h ((p + 1 : Nat) : Int) (upd out2 b h) := by
       rw [show ((p + 1 : Nat) : Int) = (p : Int) + 1 by omega]; exact hI1
      have hav2 : ∀ i : Int, 0 ≤ i → i < l.n → ((upd out2 b h i = -1 ∧ l.r i ≤ h) ↔ ∃ a : Int, (((p + 1 : Nat) : Int) ≤ a ∧ a < q) ∧ Z a = i) := fun i i0 i1 => by
       by_cases e9 : i = b
       ·rw [e9, upd_same]
        refine ⟨fun a => by omega, fun ⟨a, ha, e8⟩ => ?_⟩
        rw [hb] at e8
        have := hZ.srt p a (by omega) (by omega) ha.2
        rw [e8] at this
        exact (lex_irr this).elim
       ·rw [upd_ne _ _ e9, hav i i0 i1]
        refine ⟨fun ⟨a, ha, e8⟩ => ⟨a, ⟨?_, ha.2⟩, e8⟩, fun ⟨a, ha, e8⟩ => ⟨a, by omega, e8⟩⟩
        by_cases e7 : a = (p : Int)
        ·rw [e7, ← hb] at e8; exact absurd e8.symm e9
        ·omega
      have hW3 : W2 - 1 = wt7 l (fun _ => True) (upd out2 b h) := by rw [wt7_upd (t := h) hbr.1 hbr.2 trivial hba.1 (by omega), hW2]
      have hOx := hO33.congrI 2 rfl (G' := fun i => iv (upd out2 b h i)) (fun v _ _ => by unfold upd; split <;> rfl)
      refine rl_nil <| run_region <| rl_v rfl rfl rfl (ov_move rfl rfl) <| rl_v rfl rfl rfl (ov_sub rfl rfl rfl (by omega)) ?_
      refine rl_v rfl rfl rfl (ov_assign rfl rfl) <| rl_nil <| run_inBlock <| run_region <| rl_v rfl rfl rfl (ov_add rfl rfl rfl (by omega)) ?_
      refine rl_v rfl rfl rfl (ov_move rfl rfl) <| rl_nil ?_
      refine Run.use (ih31 (p + 1) (upd out2 b h) (W2 - 1) _ ?_ ?_) (And.intro (by exact slot_int rfl (by first | omega)) (And.intro (by exact slot_int rfl (by first | omega)) (And.intro rfl (And.intro rfl (And.intro rfl (And.intro rfl (And.intro rfl (And.intro rfl trivial))))))))
      ·first | omega | (dsimp only; omega)
      ·exact ⟨by omega, fun _ => by omega, hI2, hav2, hW3, hOx⟩
    ·have hpM : p = M := by omega
     have hE2 := hI.finish (by
      by_cases e9 : (M : Int) = k
      ·left; omega
      ·right
       intro i i0 i1 _ ho hr9
       obtain ⟨a, ha, _⟩ := (hav i i0 i1).1 ⟨ho, hr9⟩
       omega)
     have hqpos : 0 < q := by omega
     have hh1 : h + 1 ≤ 1000000 := by
      have := hpp (by omega)
      omega
     have hOz := hOg.tail.perm (List.Perm.swap _ _ [])
     refine run_exit rfl <| run_inBlock <| run_region <| rl_v rfl rfl rfl (ov_move rfl rfl) <| rl_v rfl rfl rfl (ov_add rfl rfl rfl (by omega)) ?_
     refine rl_v rfl rfl rfl (ov_assign rfl rfl) <| rl_nil ?_
     refine Run.use (ih12 (h + 1) (out2) (W2) _ ?_ ?_) (And.intro (by exact slot_int rfl (by first | omega)) (And.intro (by exact slot_int rfl (by first | omega)) (And.intro rfl (And.intro rfl (And.intro rfl trivial)))))
     ·first | omega | (dsimp only; omega)
     ·exact ⟨by omega, hh1, hE2, hW2, hOz⟩
 ·have hW0 : wt7 l (fun _ => True) out ≤ 0 := by omega
  have hF := hE.final hV (wt7_none hW0)
  have hcan := hF.can hV (by omega)
  refine run_exit rfl <| run_seq <| run_region <| rl_v rfl rfl rfl (ov_move rfl rfl) <| rl_v rfl rfl rfl (ov_assign rfl rfl) <| rl_v rfl rfl rfl (ov_assign rfl rfl) <| rl_nil <| run_ret Tryz.func35 (res2 Tryz.results35 rfl rfl) ?_
  exact ⟨some ⟨ob, 0, none⟩, l.n, l.n, out, _, by rw [decide_eq_true hcan], IRow.ofV (Nat.le_refl _) (by unfold maxLen; omega) fun _ _ _ => rfl, fun _ => ⟨rfl, hF⟩, fun hc => absurd hcan hc, hOc.sub (.cons_cons _ (List.nil_sublist _))⟩
end Go.Proofs.YtbepolognfdkeaaGreat
