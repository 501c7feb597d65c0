import Derived.Test.YtlldeifbfpmbaaaGreatFeD
set_option maxRecDepth 100000
namespace Go.Proofs.YtlldeifbfpmbaaaGreat
open Go.RowKit Go.Proofs Go.MapKept
open Classical in
noncomputable def rowTo (f : Fair) (l : Int → Int) (g : Int) : Nat → List (Int × Int)
 | 0 => []
 | b + 1 => rowTo f l g b ++ (if f.Blk l g b then [(g, (b : Int))] else [])
noncomputable def blkTo (f : Fair) (l : Int → Int) : Nat → List (Int × Int)
 | 0 => []
 | g + 1 => blkTo f l g ++ rowTo f l g f.m
theorem rowTo_yes {f : Fair} {l : Int → Int} {g : Int} {b : Nat} (h : f.Blk l g b) : rowTo f l g (b + 1) = rowTo f l g b ++ [(g, (b : Int))] := by rw [rowTo, if_pos h]
theorem rowTo_no {f : Fair} {l : Int → Int} {g : Int} {b : Nat} (h : ¬ f.Blk l g b) : rowTo f l g (b + 1) = rowTo f l g b := by rw [rowTo, if_neg h, List.append_nil]
theorem rowTo_len (f : Fair) (l : Int → Int) (g : Int) : ∀ b : Nat, (rowTo f l g b).length ≤ b
 | 0 => Nat.le_refl _
 | b + 1 => by
  have := rowTo_len f l g b
  unfold rowTo
  rw [List.length_append]
  split <;> simp <;> omega
theorem blkTo_len (f : Fair) (l : Int → Int) : ∀ g : Nat, (blkTo f l g).length ≤ g * f.m
 | 0 => Nat.zero_le _
 | g + 1 => by
  have := blkTo_len f l g
  have := rowTo_len f l g f.m
  unfold blkTo
  rw [List.length_append, Nat.succ_mul]
  omega
def prG (L : List (Int × Int)) : Int → List Value := fun k => [iv (L.getD k.toNat (0, 0)).1, iv (L.getD k.toNat (0, 0)).2]
theorem prG_snoc (L : List (Int × Int)) (x : Int × Int) (k : Int) (k0 : 0 ≤ k) (k1 : k < ((L.length + 1 : Nat) : Int)) : upd (prG L) L.length [iv x.1, iv x.2] k = prG (L ++ [x]) k := by
 unfold upd prG
 by_cases e : k = L.length
 ·rw [if_pos e, e]; simp [List.getD]
 ·rw [if_neg e]
  have : k.toNat < L.length := by omega
  simp [List.getD, List.getElem?_append, this]
theorem rowTo_nil {f : Fair} {l : Int → Int} {g : Int} : ∀ b : Nat, rowTo f l g b = [] ↔ ∀ c : Int, 0 ≤ c → c < b → ¬ f.Blk l g c
 | 0 => ⟨fun _ c c0 c1 => by omega, fun _ => rfl⟩
 | b + 1 => by
  unfold rowTo
  rw [List.append_eq_nil_iff, rowTo_nil b]
  by_cases h : f.Blk l g b
  ·rw [if_pos h]; exact ⟨fun e => by simp at e, fun e => absurd h (e b (by omega) (by omega))⟩
  ·rw [if_neg h]; exact ⟨fun e c c0 c1 => by by_cases d : c = b; (rw [d]; exact h); (exact e.1 c c0 (by omega)), fun e => ⟨fun c c0 c1 => e c c0 (by omega), rfl⟩⟩
theorem blkTo_nil {f : Fair} {l : Int → Int} : ∀ g : Nat, blkTo f l g = [] ↔ ∀ i c : Int, 0 ≤ i → i < g → 0 ≤ c → c < f.m → ¬ f.Blk l i c
 | 0 => ⟨fun _ i c i0 i1 => by omega, fun _ => rfl⟩
 | g + 1 => by
  unfold blkTo
  rw [List.append_eq_nil_iff, blkTo_nil g, rowTo_nil]
  exact ⟨fun e i c i0 i1 c0 c1 => by by_cases d : i = g; (rw [d]; exact e.2 c c0 c1); (exact e.1 i c i0 (by omega) c0 c1), fun e => ⟨fun i c i0 i1 c0 c1 => e i c i0 (by omega) c0 c1, fun c c0 c1 => e g c (by omega) (by omega) c0 c1⟩⟩
set_option maxHeartbeats 2000000 in
theorem refBlocking_any (ga ba qa la : Option Addr) (gc bc qc lc : Nat) (f : Fair) (l : Int → Int) (w : World) (hV : Valid5 f f.m) (hF : FAg w.heap.size w ga ba qa f f.m) (hl : IAt w.heap.size w la f.n (fun i => iv (l i))) :
  Calls Tryz.prog 45 #[.agg #[.slice ga f.n gc, .slice ba f.m bc, .slice qa f.m qc], .slice la f.n lc] w fun e w' => ∃ v c, e = .returned v ∧ SRow v 47 2 (blkTo f l f.n).length (prG (blkTo f l f.n)) c ∧ Own w.heap.size w w' [c] := by
 have hn := hV.sm.n
 have hm := hV.sm.m
 refine calls_of_run (F := [(0, _), (1, _)]) Tryz.func45 rfl Tryz.ntmps45 rfl rfl ?_
 have hO0 := Own.init w
 refine run_seq <| run_region <| rl_ow rfl (ow_box _ rfl rfl rfl rfl rfl hO0) ?_
 rintro _ w1 ⟨b2, rfl, hO2, hs3⟩
 refine rl_v rfl rfl rfl (ov_assign rfl rfl) <| rl_nil <| run_seq <| run_region <| rl_v rfl rfl rfl (ov_assign rfl rfl) <| rl_nil <| run_seq <| run_seq <| run_region <| rl_v rfl rfl rfl (ov_assign rfl rfl) <| rl_nil <| run_block <| Run.keep [1, 2, 5, 6] (F' := [(1, _), (2, _), (5, _), (6, _)]) rfl <| run_loop2 (fun (g : Nat) (v : Value) => [(6, .int .i64 g), (5, v)]) [1, 2] (fun (g : Nat) (v : Value) (w4 : World) => ∃ c : Option Blk, g ≤ f.n ∧ SRow v 47 2 (blkTo f l g).length (prG (blkTo f l g)) c ∧ Own w.heap.size w w4 [c, some (lch b2 25 [.slice ga f.n gc, .slice ba f.m bc, .slice qa f.m qc])]) (fun (g : Nat) (v : Value) => f.n - g) (0) (.slice none 0 0) ?_ (And.intro (by exact slot_int rfl (by first | omega)) (And.intro rfl (And.intro rfl (And.intro rfl trivial)))) ?_
 ·exact ⟨none, by omega, SRow.nil _ _ _, hO2.nil_cons⟩
 intro g v w4 hIw4 ih5
 obtain ⟨c, hg1, hr, hO⟩ := hIw4
 show Run _ _ _ _ [(6, _), (5, _), (1, _), (2, _)] _ _
 refine run_seq <| run_seq <| run_region <| rl_v rfl rfl rfl (ov_move rfl rfl) <| rl_v rfl rfl rfl (ov_fieldS rfl Tryz.underlying25 rfl (fo := 0) rfl (by kernel_rfl) rfl) ?_
 refine rl_v rfl rfl rfl (ov_load rfl Tryz.underlying22 rfl rfl (by exact hO.cellL 1 rfl (off := 0) rfl)) ?_
 refine rl_v rfl rfl rfl (ov_len rfl Tryz.underlying22 rfl) <| rl_v rfl rfl rfl (ov_lss rfl rfl rfl) <| rl_nil ?_
 first | refine run_cond_dec rfl (fun h1 => ?_) (fun h1 => ?_) | refine run_cond rfl (fun h1 => ?_) (fun h1 => ?_)
 ·have hlen1 := blkTo_len f l g
  have hgm : g * f.m ≤ 64 * 64 := Nat.mul_le_mul (by omega) hm
  refine run_skip <| run_seq <| run_block <| run_seq <| run_region <| rl_v rfl rfl rfl (ov_assign rfl rfl) <| rl_nil <| run_block <| Run.keep [1, 2, 5, 6, 7] (F' := [(1, _), (2, _), (5, _), (6, _), (7, _)]) rfl <| run_loop2 (fun (b : Nat) (v : Value) => [(7, .int .i64 b), (5, v)]) [1, 2, 6] (fun (b : Nat) (v : Value) (w6 : World) => ∃ c : Option Blk, b ≤ f.m ∧ SRow v 47 2 (blkTo f l g ++ rowTo f l g b).length (prG (blkTo f l g ++ rowTo f l g b)) c ∧ Own w.heap.size w w6 [c, some (lch b2 25 [.slice ga f.n gc, .slice ba f.m bc, .slice qa f.m qc])]) (fun (b : Nat) (v : Value) => f.m - b) (0) (v) ?_ (And.intro (by exact slot_int rfl (by first | omega)) (And.intro rfl (And.intro rfl (And.intro rfl (And.intro rfl trivial))))) ?_
  ·exact ⟨c, by omega, by unfold rowTo; rw [List.append_nil]; exact hr, hO⟩
  intro b v w6 hIw6 ih7
  obtain ⟨c, hb1, hr, hO⟩ := hIw6
  show Run _ _ _ _ [(7, _), (5, _), (1, _), (2, _), (6, _)] _ _
  refine run_seq <| run_seq <| run_region <| rl_v rfl rfl rfl (ov_move rfl rfl) <| rl_v rfl rfl rfl (ov_fieldS rfl Tryz.underlying25 rfl (fo := 1) rfl (by kernel_rfl) rfl) ?_
  refine rl_v rfl rfl rfl (ov_load rfl Tryz.underlying22 rfl rfl (by exact hO.cellL 1 rfl (off := 1) rfl)) ?_
  refine rl_v rfl rfl rfl (ov_len rfl Tryz.underlying22 rfl) <| rl_v rfl rfl rfl (ov_lss rfl rfl rfl) <| rl_nil ?_
  first | refine run_cond_dec rfl (fun h2 => ?_) (fun h2 => ?_) | refine run_cond rfl (fun h2 => ?_) (fun h2 => ?_)
  ·have hlen2 := rowTo_len f l g b
   have hlen3 : (blkTo f l g ++ rowTo f l g b).length ≤ 5000 := by rw [List.length_append]; omega
   refine run_skip <| run_seq <| run_block <| run_seq <| run_region <| rl_v rfl rfl rfl (ov_loadW rfl Tryz.underlying25 rfl (by kernel_rfl) rfl hO 1 rfl) ?_
   refine rl_v rfl rfl rfl (ov_move rfl rfl) <| rl_v rfl rfl rfl (ov_move rfl rfl) <| rl_v rfl rfl rfl (ov_move rfl rfl) ?_
   refine rl_call callable_85 rfl rfl rfl rfl rfl rfl (refBlocks_any ga ba qa la gc bc qc lc f l g b _ hV (hO.fag hF) (hO.iatF hl) (by omega) (by omega) (by omega) (by omega)) (fun e8 w9 hp10 => ?_)
   obtain ⟨⟨r, rfl, hrb⟩, hbl⟩ := hp10
   refine ⟨_, rfl, ?_⟩
   have hO11 := hO.past hbl
   refine rl_nil ?_
   first | refine run_cond_dec rfl (fun h3 => ?_) (fun h3 => ?_) | refine run_cond rfl (fun h3 => ?_) (fun h3 => ?_)
   ·have hblk : f.Blk l g b := hrb.1 h3
    refine run_region <| rl_v rfl rfl rfl (ov_move rfl rfl) <| rl_v rfl rfl rfl (ov_move rfl rfl) <| rl_v rfl rfl rfl (ov_move rfl rfl) <| rl_v rfl rfl rfl (ov_buildL rfl lay_47 rfl (us := [_, _]) rfl) <| rl_ow rfl (ow_build [_] rfl rfl rfl rfl rfl Tryz.underlying44 info_47 (by decide) hO11 rfl rfl) ?_
    rintro _ w12 ⟨b5, rfl, hO13, hs14⟩
    refine rl_ow rfl (ow_appR1 rfl rfl rfl Tryz.underlying44 info_47 rfl rfl hO13 0 hr rfl rfl rfl rfl rfl ⟨by omega, by omega⟩) ?_
    rintro _ w15 ⟨v5, c5, rfl, hO16, hr5, hs17⟩
    have hsn : rowTo f l g (b + 1) = rowTo f l g b ++ [((g : Int), (b : Int))] := rowTo_yes hblk
    refine rl_v rfl rfl rfl (ov_assign rfl rfl) <| rl_nil <| run_inBlock <| run_region <| rl_v rfl rfl rfl (ov_move rfl rfl) <| rl_v rfl rfl rfl (ov_add rfl rfl rfl (by omega)) ?_
    refine rl_v rfl rfl rfl (ov_assign rfl rfl) <| rl_nil ?_
    refine Run.use (ih7 (b + 1) (v5) _ ?_ ?_) (And.intro (by exact slot_int rfl (by first | omega)) (And.intro rfl (And.intro rfl (And.intro rfl (And.intro rfl trivial)))))
    ·first | omega | (dsimp only; omega)
    ·exact ⟨c5, by omega, by rw [hsn, ← List.append_assoc, List.length_append]; exact hr5.congr fun k k0 k1 => prG_snoc _ ((g : Int), (b : Int)) k k0 k1, hO16⟩
   ·have hblk : ¬ f.Blk l g b := fun h => by rw [hrb.2 h] at h3; exact Bool.noConfusion h3
    have hsn : rowTo f l g (b + 1) = rowTo f l g b := rowTo_no hblk
    refine run_skip <| run_inBlock <| run_region <| rl_v rfl rfl rfl (ov_move rfl rfl) <| rl_v rfl rfl rfl (ov_add rfl rfl rfl (by omega)) ?_
    refine rl_v rfl rfl rfl (ov_assign rfl rfl) <| rl_nil ?_
    refine Run.use (ih7 (b + 1) (v) _ ?_ ?_) (And.intro (by exact slot_int rfl (by first | omega)) (And.intro rfl (And.intro rfl (And.intro rfl (And.intro rfl trivial)))))
    ·first | omega | (dsimp only; omega)
    ·exact ⟨c, by omega, by rw [hsn]; exact hr, hO11⟩
  ·obtain rfl : b = f.m := by omega
   refine run_exit rfl <| run_inBlock <| run_region <| rl_v rfl rfl rfl (ov_move rfl rfl) <| rl_v rfl rfl rfl (ov_add rfl rfl rfl (by omega)) ?_
   refine rl_v rfl rfl rfl (ov_assign rfl rfl) <| rl_nil ?_
   refine Run.use (ih5 (g + 1) (v) _ ?_ ?_) (And.intro (by exact slot_int rfl (by first | omega)) (And.intro rfl (And.intro rfl (And.intro rfl trivial))))
   ·first | omega | (dsimp only; omega)
   ·exact ⟨c, by omega, hr, hO⟩
 ·obtain rfl : g = f.n := by omega
  refine run_exit rfl <| run_seq <| run_region <| rl_v rfl rfl rfl (ov_move rfl rfl) <| rl_v rfl rfl rfl (ov_assign rfl rfl) <| rl_nil <| run_ret Tryz.func45 (res1 Tryz.results45 rfl) ?_
  exact ⟨v, c, rfl, hr, hO.sub (.cons_cons _ (List.nil_sublist _))⟩
end Go.Proofs.YtlldeifbfpmbaaaGreat
set_option maxRecDepth 100000
namespace Go.Proofs.YtlldeifbfpmbaaaGreat
open Go.RowKit Go.Proofs Go.MapKept
theorem refStable_any (ga ba qa la : Option Addr) (gc bc qc ln lc : Nat) (f : Fair) (l : Int → Int) (w : World) (hV : Valid5 f f.m) (hF : FAg w.heap.size w ga ba qa f f.m) (hln : ln ≤ 1000000) (hl : IAt w.heap.size w la ln (fun i => iv (l i))) :
  Calls Tryz.prog 13 #[.agg #[.slice ga f.n gc, .slice ba f.m bc, .slice qa f.m qc], .slice la ln lc] w fun e w' => (∃ b, e = .returned (.bool b) ∧ (b = true ↔ ln = f.n ∧ f.Stab l)) ∧ Below w.heap.size w w' := by
 refine calls_of_run (F := [(0, _), (1, _)]) Tryz.func13 rfl Tryz.ntmps13 rfl rfl ?_
 have hO0 := Own.init w
 refine run_seq <| run_region <| rl_ow rfl (ow_box _ rfl rfl rfl rfl rfl hO0) ?_
 rintro _ w1 ⟨b2, rfl, hO2, hs3⟩
 refine rl_v rfl rfl rfl (ov_assign rfl rfl) <| rl_nil <| run_seq <| run_region <| rl_v rfl rfl rfl (ov_loadW rfl Tryz.underlying25 rfl (by kernel_rfl) rfl hO2 0 rfl) ?_
 refine rl_v rfl rfl rfl (ov_move rfl rfl) ?_
 refine rl_call callable_44 rfl rfl rfl rfl rfl rfl (refPossible_any ga ba qa la gc bc qc ln lc f l _ hV (hO2.fag hF) hln (hO2.iatF hl)) (fun e4 w5 hp6 => ?_)
 obtain ⟨⟨r, rfl, hr⟩, hb1⟩ := hp6
 refine ⟨_, rfl, ?_⟩
 have hO7 := hO2.past hb1
 refine rl_v rfl rfl rfl (ov_move rfl rfl) ?_
 first | refine rl_split_dec 8 rfl (fun q1 => ?_) (fun q1 => ?_) | refine rl_split 8 rfl (fun q1 => ?_) (fun q1 => ?_)
 ·refine rl_gv rfl rfl rfl rfl rfl (ov_loadW rfl Tryz.underlying25 rfl (by kernel_rfl) rfl hO7 0 rfl) ?_
  refine rl_gv rfl rfl rfl rfl rfl (ov_move rfl rfl) ?_
  have hp := hr.1 q1
  obtain rfl : ln = f.n := hp.1
  refine rl_gcall callable_45 rfl rfl rfl rfl rfl rfl rfl rfl (refBlocking_any ga ba qa la gc bc qc lc f l _ hV (hO7.fag hF) (hO7.iatF hl)) (fun e9 w10 hp11 => ?_)
  obtain ⟨v, c, rfl, hrv, hO1⟩ := hp11
  refine ⟨_, rfl, ?_⟩
  have hO12 := hO7.join hO1
  obtain ⟨va, vc, rfl⟩ := Row.val hrv
  have hnil := blkTo_nil (f := f) (l := l) f.n
  refine rl_gv rfl rfl rfl rfl rfl (ov_len rfl Tryz.underlying44 rfl) <| rl_gv rfl rfl rfl rfl rfl (ov_eql rfl rfl rfl) <| rl_v rfl rfl rfl (ov_pick_t rfl rfl rfl) <| rl_v rfl rfl rfl (ov_assign rfl rfl) <| rl_nil <| run_ret Tryz.func13 (res1 Tryz.results13 rfl) ?_
  exact ⟨⟨_, rfl, by rw [decide_eq_true_iff]; exact ⟨fun h => ⟨rfl, hp.2, fun g b g0 g1 b0 b1 => hnil.1 (List.length_eq_zero_iff.1 (by omega)) g b g0 g1 b0 b1⟩, fun h => by rw [hnil.2 fun i c i0 i1 c0 c1 => h.2.none i c i0 i1 c0 c1]; rfl⟩⟩, hO12.tail.tail.below⟩
 ·refine rl_gskip rfl rfl rfl rfl rfl rfl <| rl_gskip rfl rfl rfl rfl rfl rfl <| rl_gskip rfl rfl rfl rfl rfl rfl <| rl_gskip rfl rfl rfl rfl rfl rfl <| rl_gskip rfl rfl rfl rfl rfl rfl <| rl_v rfl rfl rfl (ov_pick_f rfl rfl rfl) <| rl_v rfl rfl rfl (ov_assign rfl rfl) <| rl_nil <| run_ret Tryz.func13 (res1 Tryz.results13 rfl) ?_
  exact ⟨⟨false, rfl, ⟨fun h => Bool.noConfusion h, fun h => by rw [hr.2 ⟨h.1, h.2.poss⟩] at q1; exact Bool.noConfusion q1⟩⟩, hO7.tail.below⟩
end Go.Proofs.YtlldeifbfpmbaaaGreat
set_option maxRecDepth 100000
namespace Go.Proofs.YtlldeifbfpmbaaaGreat
open Go.RowKit Go.Proofs Go.MapKept
theorem give5_any (ga ba qa : Option Addr) (gn gc bn bc qn qc : Nat) (w : World) :
  Calls Tryz.prog 9 #[.agg #[.slice ga gn gc, .slice ba bn bc, .slice qa qn qc]] w fun e w' => e = .returned (.agg #[.slice ga gn gc, .slice ba bn bc, .slice qa qn qc]) ∧ Below w.heap.size w w' := by
 refine calls_of_run (F := [(0, _)]) Tryz.func9 rfl Tryz.ntmps9 rfl rfl ?_
 have hO0 := Own.init w
 refine run_seq <| run_region <| rl_ow rfl (ow_box _ rfl rfl rfl rfl rfl hO0) ?_
 rintro _ w1 ⟨b1, rfl, hO2, hs3⟩
 refine rl_ow rfl (ow_alloc _ rfl rfl rfl zero_27 rfl hO2) ?_
 rintro _ w4 ⟨b2, rfl, hO5, hs6⟩
 refine rl_nil <| run_seq <| run_region <| rl_v rfl rfl rfl (ov_fieldS rfl Tryz.underlying25 rfl (fo := 0) rfl (by kernel_rfl) rfl) ?_
 refine rl_v rfl rfl rfl (ov_load rfl Tryz.underlying22 rfl rfl (by exact hO5.cellL 1 rfl (off := 0) rfl)) ?_
 refine rl_v rfl rfl rfl (ov_fieldS rfl Tryz.underlying25 rfl (fo := 1) rfl (by kernel_rfl) rfl) ?_
 refine rl_v rfl rfl rfl (ov_load rfl Tryz.underlying22 rfl rfl (by exact hO5.cellL 1 rfl (off := 1) rfl)) ?_
 refine rl_v rfl rfl rfl (ov_fieldS rfl Tryz.underlying25 rfl (fo := 2) rfl (by kernel_rfl) rfl) ?_
 refine rl_v rfl rfl rfl (ov_load rfl Tryz.underlying23 rfl rfl (by exact hO5.cellL 1 rfl (off := 2) rfl)) ?_
 refine rl_v rfl rfl rfl (ov_buildL rfl lay_27 rfl (us := [_, _, _]) rfl) <| rl_ow rfl (ow_storeW rfl rfl (by kernel_rfl) hO5 0 rfl rfl (by rfl) rfl (by rfl)) ?_
 rintro _ w7 ⟨rfl, hO8, hs9⟩
 refine rl_nil <| run_ret Tryz.func9 (resW Tryz.results9 rfl Tryz.underlying27 rfl (by kernel_rfl) hO8 0 rfl) ?_
 exact ⟨rfl, hO8.below⟩
theorem u64_nn5 (x : Int) : 0 ≤ IntKind.u64.wrap x := by rw [IntKind.wrap_u64]; omega
theorem tidy5_any (ao : Option Addr) (n c N : Nat) (X : Int → Int) (w : World) (hn : n ≤ 1000000) (hN : N ≤ 1000) (h : IAt w.heap.size w ao n (fun i => iv (X i))) :
  Calls Tryz.prog 39 #[.slice ao n c, iv N] w fun e w' => ∃ (v : Value) (k : Nat) (E : Int → Int) (c' : Option Blk), e = .returned v ∧ k ≤ n ∧ IsL k E N ∧ IRow v 3 k (fun i => iv (E i)) c' ∧ Own w.heap.size w w' [c'] := by
 obtain ⟨gb, go, hga, hrow⟩ := h.open
 have eN : IntKind.u64.wrap (N : Int) = N := IntWalk.u64_in _ (by omega)
 refine calls_of_run (F := [(0, _), (1, _)]) Tryz.func39 rfl Tryz.ntmps39 rfl rfl ?_
 have hO0 := Own.init w
 refine run_seq <| run_region <| rl_v rfl rfl rfl (ov_assign rfl rfl) <| rl_nil <| run_seq <| run_region <| rl_v rfl rfl rfl (ov_assign rfl rfl) <| rl_nil <| run_seq <| run_seq <| run_region <| rl_v rfl rfl rfl (ov_assign rfl rfl) <| rl_nil <| run_block <| Run.keep [0, 1, 5, 6] (F' := [(0, _), (1, _), (5, _), (6, _)]) rfl <| run_loop4 (fun (i : Int) (k : Nat) (oa : Option Addr) (oc : Nat) => [(6, .int .i64 i), (5, .slice oa k oc)]) [0, 1] (fun (i : Int) (k : Nat) (oa : Option Addr) (oc : Nat) (w1 : World) => ∃ (E : Int → Int) (c' : Option Blk), 0 ≤ i ∧ i ≤ n ∧ (k : Int) ≤ i ∧ IsL k E N ∧ IRow (.slice oa k oc) 3 k (fun i => iv (E i)) c' ∧ Own w.heap.size w w1 [c']) (fun (i : Int) (k : Nat) (oa : Option Addr) (oc : Nat) => ((n : Int) - i).toNat) (0) (0) (none) (0) ?_ (And.intro (by exact slot_int rfl (by first | omega)) (And.intro rfl (And.intro rfl (And.intro rfl trivial)))) ?_
 ·exact ⟨fun _ => 0, none, by omega, by omega, by omega, ⟨fun k k0 k1 => by omega, fun a b a0 a1 => by omega⟩, IRow.nil _ _, hO0.nil_cons⟩
 intro i k oa oc w1 hIw1 ih2
 obtain ⟨E, c', hi0, hi1, hki, hL, hr, hO⟩ := hIw1
 show Run _ _ _ _ [(6, _), (5, _), (0, _), (1, _)] _ _
 refine run_seq <| run_seq <| run_region <| rl_v rfl rfl rfl (ov_move rfl rfl) <| rl_v rfl rfl rfl (ov_move rfl rfl) <| rl_v rfl rfl rfl (ov_len rfl Tryz.underlying23 rfl) <| rl_v rfl rfl rfl (ov_lss rfl rfl rfl) <| rl_v rfl rfl rfl (ov_move rfl rfl) ?_
 first | refine rl_split_dec 12 rfl (fun q1 => ?_) (fun q1 => ?_) | refine rl_split 12 rfl (fun q1 => ?_) (fun q1 => ?_)
 ·refine rl_gv rfl rfl rfl rfl rfl (ov_move rfl rfl) <| rl_gv rfl rfl rfl rfl rfl (ov_gtr rfl rfl rfl) <| rl_v rfl rfl rfl (ov_pick_t rfl rfl rfl) <| rl_nil ?_
  first | refine run_cond_dec rfl (fun h2 => ?_) (fun h2 => ?_) | refine run_cond rfl (fun h2 => ?_) (fun h2 => ?_)
  ·have hx1 := u64_nn5 (X i)
   have hx2 : IntKind.u64.wrap (X i) % IntKind.u64.wrap (N : Int) < N := by rw [eN]; exact Int.emod_lt_of_pos _ (by omega)
   have hx3 : 0 ≤ IntKind.u64.wrap (X i) % IntKind.u64.wrap (N : Int) := by rw [eN]; exact Int.emod_nonneg _ (by omega)
   have hx4 : IntKind.i64.wrap (IntKind.u64.wrap (X i) % IntKind.u64.wrap (N : Int)) = IntKind.u64.wrap (X i) % IntKind.u64.wrap (N : Int) := IntWalk.i64_in _ (by omega)
   refine run_skip <| run_seq <| run_block <| run_seq <| run_region <| rl_v rfl rfl rfl (ov_move rfl rfl) <| rl_v rfl rfl rfl (ov_move rfl rfl) <| rl_v rfl rfl rfl (ov_index1 rfl Tryz.underlying23 (by kernel_rfl) rfl rfl ⟨by omega, by omega⟩ (by exact hga (by omega))) ?_
   refine rl_v rfl rfl rfl (ov_load rfl Tryz.underlying3 rfl rfl (by exact hrow _ hO.below _ (by omega) (by omega))) ?_
   refine rl_v rfl rfl rfl (ov_conv rfl Tryz.underlying3 Tryz.underlying49 rfl) <| rl_v rfl rfl rfl (ov_move rfl rfl) <| rl_v rfl rfl rfl (ov_conv rfl Tryz.underlying3 Tryz.underlying49 rfl) <| rl_v rfl rfl rfl (ov_rem rfl rfl rfl (u64_nn5 _) (by omega)) ?_
   refine rl_v rfl rfl rfl (ov_conv rfl Tryz.underlying49 Tryz.underlying3 rfl) <| rl_v rfl rfl rfl (ov_assign rfl rfl) <| rl_nil <| run_seq <| run_region <| rl_v rfl rfl rfl (ov_move rfl rfl) <| rl_v rfl rfl rfl (ov_move rfl rfl) ?_
   refine rl_call callable_14 rfl rfl rfl rfl rfl rfl (rank5_any oa k oc E (IntKind.i64.wrap (IntKind.u64.wrap (X i) % IntKind.u64.wrap (N : Int))) _ (by omega) (hr.reads hO 0 rfl)) (fun e4 w5 hp6 => ?_)
   obtain ⟨rfl, hb⟩ := hp6
   refine ⟨_, rfl, ?_⟩
   have hO7 := hO.past hb
   refine rl_v rfl rfl rfl (ov_move rfl rfl) <| rl_v rfl rfl rfl (ov_len rfl Tryz.underlying23 rfl) <| rl_v rfl rfl rfl (ov_eql rfl rfl rfl) <| rl_nil ?_
   first | refine run_cond_dec rfl (fun h3 => ?_) (fun h3 => ?_) | refine run_cond rfl (fun h3 => ?_) (fun h3 => ?_)
   ·refine run_region <| rl_v rfl rfl rfl (ov_move rfl rfl) <| rl_v rfl rfl rfl (ov_move rfl rfl) <| rl_ow rfl (ow_one rfl rfl rfl Tryz.underlying23 info_3 rfl hO7 rfl rfl) ?_
    rintro _ w8 ⟨b9, rfl, hO9, hs10⟩
    refine rl_ow rfl (ow_app1 rfl rfl rfl Tryz.underlying23 info_3 rfl hO9 0 hr rfl rfl rfl rfl ⟨by omega, by omega⟩) ?_
    rintro _ w11 ⟨v5, c5, rfl, hO12, hr5, hs13⟩
    obtain ⟨oa5, oc5, rfl⟩ := Row.val hr5
    have hL5 : IsL (k + 1) (upd E k (IntKind.i64.wrap (IntKind.u64.wrap (X i) % IntKind.u64.wrap (N : Int)))) N := by
     have hno : ∀ j : Int, 0 ≤ j → j < k → E j ≠ IntKind.i64.wrap (IntKind.u64.wrap (X i) % IntKind.u64.wrap (N : Int)) := fun j j0 j1 => rk_ne (n := k) j0 (by omega)
     refine ⟨fun j j0 j1 => ?_, fun a b a0 a1 b0 b1 e => ?_⟩
     ·by_cases c : j = k
      ·rw [c, upd_same, hx4]; exact ⟨hx3, hx2⟩
      ·rw [upd_ne _ _ c]; exact hL.1 j j0 (by omega)
     ·by_cases c : a = k <;> by_cases d : b = k
      ·omega
      ·rw [c, upd_same, upd_ne _ _ d] at e; exact absurd e.symm (hno b b0 (by omega))
      ·rw [d, upd_same, upd_ne _ _ c] at e; exact absurd e (hno a a0 (by omega))
      ·rw [upd_ne _ _ c, upd_ne _ _ d] at e; exact hL.2 a b a0 (by omega) b0 (by omega) e
    refine rl_v rfl rfl rfl (ov_assign rfl rfl) <| rl_nil <| run_inBlock <| run_region <| rl_v rfl rfl rfl (ov_move rfl rfl) <| rl_v rfl rfl rfl (ov_add rfl rfl rfl (by omega)) ?_
    refine rl_v rfl rfl rfl (ov_assign rfl rfl) <| rl_nil ?_
    refine Run.use (ih2 (i + 1) (k + 1) (oa5) (oc5) _ ?_ ?_) (And.intro (by exact slot_int rfl (by first | omega)) (And.intro rfl (And.intro rfl (And.intro rfl trivial))))
    ·first | omega | (dsimp only; omega)
    ·exact ⟨_, c5, by omega, by omega, by omega, hL5, hr5.congr (fun j j0 j1 => by unfold upd; split <;> rfl), hO12⟩
   ·refine run_skip <| run_inBlock <| run_region <| rl_v rfl rfl rfl (ov_move rfl rfl) <| rl_v rfl rfl rfl (ov_add rfl rfl rfl (by omega)) ?_
    refine rl_v rfl rfl rfl (ov_assign rfl rfl) <| rl_nil ?_
    refine Run.use (ih2 (i + 1) (k) (oa) (oc) _ ?_ ?_) (And.intro (by exact slot_int rfl (by first | omega)) (And.intro rfl (And.intro rfl (And.intro rfl trivial))))
    ·first | omega | (dsimp only; omega)
    ·exact ⟨E, c', by omega, by omega, by omega, hL, hr, hO7⟩
  ·refine run_exit rfl <| run_seq <| run_region <| rl_v rfl rfl rfl (ov_move rfl rfl) <| rl_v rfl rfl rfl (ov_assign rfl rfl) <| rl_nil <| run_ret Tryz.func39 (res1 Tryz.results39 rfl) ?_
   exact ⟨_, k, E, c', rfl, by omega, hL, hr, hO⟩
 ·refine rl_gskip rfl rfl rfl rfl rfl rfl <| rl_gskip rfl rfl rfl rfl rfl rfl <| rl_v rfl rfl rfl (ov_pick_f rfl rfl rfl) <| rl_nil <| run_cond_f rfl <| run_exit rfl <| run_seq <| run_region <| rl_v rfl rfl rfl (ov_move rfl rfl) <| rl_v rfl rfl rfl (ov_assign rfl rfl) <| rl_nil <| run_ret Tryz.func39 (res1 Tryz.results39 rfl) ?_
  exact ⟨_, k, E, c', rfl, by omega, hL, hr, hO⟩
end Go.Proofs.YtlldeifbfpmbaaaGreat
