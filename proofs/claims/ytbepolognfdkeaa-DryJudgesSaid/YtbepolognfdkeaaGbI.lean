import Derived.Test.YtbepolognfdkeaaGbH
import Derived.Test.YtbepolognfdkeaaGaK
set_option maxRecDepth 100000
namespace Go.Proofs.Ytbepolognfdkeaa
open Go.RowKit Go.Proofs Go.MapKept
section
variable {l : Lds} {c : Nat} {X : Int → Int} {kilns : Int} {G : Net} {L : Int → Int} {fl : Int} {LV : Int → Int} {sa : Option Addr} {sc : Nat} {pa : Option Addr} {pc : Nat} {oa : Option Addr} {oc : Nat} {cp : Option Blk} {HO : List (Option Blk)} {cs : Option Blk}
theorem WkO.at (h : WkO l c X kilns G L fl LV sa sc pa pc oa oc cp HO cs) {B : Nat} {w0 w : World} {H : List (Option Blk)} {wb : Nat} {la : Option Addr} {lc : Nat} (hO : Own B w0 w H) (hs : (wkB wb la l.n lc sa (c - 1) sc pa (2 * G.np) pc oa G.nn oc fl :: cp :: (HO ++ [cs])).Sublist H) :
  WkAt w.heap.size w wb G L la l.n lc sa (c - 1) sc pa pc oa oc fl :=
 ⟨(hO.sub hs).readsL 0 rfl, h.pip.reads (hO.sub hs) 1 rfl, h.out.town.itab ((hO.sub hs).sub (.cons _ (.cons _ (List.sublist_append_left _ _))))⟩
end
abbrev crL (xa : Option Addr) (xn xc : Nat) (ha : Option Addr) (hn hc : Nat) : List Value := [.slice xa xn xc, .slice ha hn hc]
structure CrO (l : Lds) (kilns : Int) (xa : Option Addr) (xn xc : Nat) (ha : Option Addr) (hn hc : Nat) (Y A B : Int → Int) (cx ch : Option Blk) : Prop where
 x : IRow (.slice xa xn xc) 3 xn (fun j => iv (Y j)) cx
 h : SRow (.slice ha hn hc) 89 2 hn (fun k => [iv (A k), iv (B k)]) ch
 len : hn ≤ 1000
 no_ : ¬ (l.chkK kilns = 0 ∧ ¬ l.Can kilns) → xn = 0 ∧ hn = 0
 yes : l.chkK kilns = 0 → ¬ l.Can kilns → Rise xn Y ∧ Prv l kilns xn Y hn A B
theorem CrO.nil {l : Lds} {kilns : Int} (h : ¬ (l.chkK kilns = 0 ∧ ¬ l.Can kilns)) : CrO l kilns none 0 0 none 0 0 (fun _ => 0) (fun _ => 0) (fun _ => 0) none none :=
 ⟨IRow.nil _ _, SRow.nil _ _ _, Nat.zero_le _, fun _ => ⟨rfl, rfl⟩, fun a b => absurd ⟨a, b⟩ h⟩
theorem perm_pr {α : Type} {n1 n2 b8 lv b4 : α} {M : List α} : (n1 :: n2 :: b8 :: lv :: b4 :: M).Perm (b8 :: lv :: n1 :: n2 :: b4 :: M) := by
 classical
 rw [List.perm_iff_count]
 intro z
 simp only [List.count_cons]
 omega
theorem sub_lst7 {α : Type} {b1 b2 b3 b4 b5 b6 b7 a : α} {M : List α} : [a].Sublist (b1 :: b2 :: b3 :: b4 :: b5 :: b6 :: b7 :: (M ++ [a])) := .cons _ (.cons _ (.cons _ (.cons _ (.cons _ (.cons _ (.cons _ (List.sublist_append_right _ _)))))))
set_option maxHeartbeats 4000000 in
theorem Proof_any (la : Option Addr) (lc : Nat) (l : Lds) (k : Int) (w : World) (hn : l.n ≤ 100000) (hI : l.I64) (hl : SAt w.heap.size w la 4 l.n (ldF l)) :
  Calls Try.prog 29 #[.slice la l.n lc, iv k] w fun e w' => ∃ (xa : Option Addr) (xn xc : Nat) (ha : Option Addr) (hn hc : Nat) (Y A B : Int → Int) (cx ch : Option Blk), e = .returned (.tuple #[.agg (crL xa xn xc ha hn hc).toArray, .bool (decide (l.chkK k = 0 ∧ ¬ l.Can k))]) ∧ CrO l k xa xn xc ha hn hc Y A B cx ch ∧ Own w.heap.size w w' [cx, ch] := by
 refine calls_of_run (F := [(0, _), (1, _)]) Try.func29 rfl Try.ntmps29 rfl rfl ?_
 have hO0 := Own.init w
 refine run_seq <| run_region <| rl_ow rfl (ow_alloc _ rfl rfl rfl zero_58 rfl hO0) ?_
 rintro _ w1 ⟨b4, rfl, hO2, hs3⟩
 refine rl_v rfl rfl rfl (ov_assign rfl rfl) <| rl_nil <| run_seq <| run_seq <| run_region <| rl_v rfl rfl rfl (ov_move rfl rfl) <| rl_v rfl rfl rfl (ov_move rfl rfl) ?_
 refine rl_call callable_45 rfl rfl rfl rfl rfl rfl (checkKilns_any la lc l k _ hn hI (hO2.satU hl)) (fun e4 w5 hp6 => ?_)
 obtain ⟨rfl, hO1⟩ := hp6
 refine ⟨_, rfl, ?_⟩
 have hO7 := hO2.join hO1
 refine rl_v rfl rfl rfl (ov_neq rfl rfl rfl) <| rl_nil ?_
 first | refine run_cond_dec rfl (fun c1 => ?_) (fun c1 => ?_) | refine run_cond rfl (fun c1 => ?_) (fun c1 => ?_)
 ·refine run_seq <| run_region <| rl_v rfl rfl rfl (ov_buildL rfl lay_58 rfl (us := [_, _]) rfl) <| rl_ow rfl (ow_storeW rfl rfl (by kernel_rfl) hO7 0 rfl rfl (by rfl) rfl (by rfl)) ?_
  rintro _ w8 ⟨rfl, hO9, hs10⟩
  refine rl_v rfl rfl rfl (ov_assign rfl rfl) <| rl_nil <| run_ret Try.func29 (resW2 Try.results29 rfl rfl Try.underlying58 rfl (by kernel_rfl) hO9 0 rfl) ?_
  exact ⟨none, 0, 0, none, 0, 0, _, _, _, none, none, by rw [decide_eq_false fun h => c1 h.1], CrO.nil fun h => c1 h.1, hO9.tail.nil_cons.nil_cons⟩
 ·have c1' : l.chkK k = 0 := Classical.not_not.1 c1
  obtain ⟨h1, h2, h3, h4⟩ := Lds.chkK_ne c1'
  have hF2 : ∀ i : Int, 0 ≤ i → i < l.n → 0 ≤ l.len i ∧ l.len i ≤ 1000000000 := fun i i0 i1 => by
   have h1 := h4.len1 i i0 i1
   have h2 := h4.len2 i i0 i1
   have h3 := h4.dM i i0 i1
   have h4 := h4.r0 i i0 i1
   omega
  refine run_skip <| run_seq <| run_region <| rl_v rfl rfl rfl (ov_move rfl rfl) <| rl_v rfl rfl rfl (ov_move rfl rfl) ?_
  refine rl_call callable_55 rfl rfl rfl rfl rfl rfl (newWorks_any la lc l k _ h1 h4 (by omega) (hO7.satU hl)) (fun e11 w12 hp13 => ?_)
  obtain ⟨wb, c, X, G, L, fl, LV, sa, sc, pa, pc, oa, oc, cp, HO, cs, rfl, hW, hO1⟩ := hp13
  refine ⟨_, rfl, ?_⟩
  have hO14 := hO7.join hO1
  have hGn := hW.b.is_.nn
  have hcle := hW.b.cuts.le
  obtain ⟨m, hm⟩ : ∃ m, m = c - 1 := ⟨_, rfl⟩
  rw [← hm] at hGn
  have hOp := hO14.perm (List.perm_append_singleton _ _)
  refine rl_v rfl rfl rfl (ov_assign rfl rfl) <| rl_nil <| run_seq <| run_seq <| run_held (fun w' => Own w.heap.size w w' ([wkB wb la l.n lc sa (c - 1) sc pa (2 * G.np) pc oa G.nn oc fl])) mixed ?_
  have hO16 := hOp.drew
  generalize World.drew w12 = w15 at hO16 ⊢
  have hS17 : Own w.heap.size w w15 ([wkB wb la l.n lc sa (c - 1) sc pa (2 * G.np) pc oa G.nn oc fl]) := by exact hO16.sub (.cons _ (.cons_cons _ (List.nil_sublist _)))
  refine rh_v 0 rfl (by kernel_rfl) rfl rfl rfl hS17 (fun _ hS => ov_move rfl rfl) ?_
  refine rh_v 1 rfl (by kernel_rfl) rfl rfl rfl hS17 (fun _ hS => ov_nil rfl rfl) ?_
  refine rh_v 2 rfl (by kernel_rfl) rfl rfl rfl hS17 (fun _ hS => ov_fieldS rfl Try.underlying103 rfl (fo := 4) rfl (by kernel_rfl) rfl) ?_
  refine rh_v 3 rfl (by kernel_rfl) rfl rfl rfl hS17 (fun _ hS => ov_load rfl Try.underlying3 rfl rfl (by exact hS.cellL 0 rfl (off := 4) rfl)) ?_
  refine rh_v 4 rfl (by kernel_rfl) rfl rfl rfl hS17 (fun _ hS => ov_move rfl rfl) ?_
  refine rh_any1 5 (by kernel_rfl) ?_
  refine rc_op rfl rfl (ow_call2 callable_56 rfl rfl rfl rfl rfl (need_any la lc l _ h1 hF2 (hO16.satU hl)) (by intro e w' hp; obtain ⟨rfl, hO2⟩ := hp; exact ⟨_, rfl⟩)) ?_
  rintro _ w20 ⟨_, v18, he21, rfl, hp19⟩
  obtain ⟨rfl, hO2⟩ := hp19
  injection he21 with he21; subst he21
  have hO22 := hO16.join hO2
  have hS23 : Own w.heap.size w w20 ([wkB wb la l.n lc sa (c - 1) sc pa (2 * G.np) pc oa G.nn oc fl]) := by exact hO22.sub (.cons _ (.cons_cons _ (List.nil_sublist _)))
  refine ⟨hS23, ?_⟩
  refine rh_v 6 rfl (by kernel_rfl) rfl rfl rfl hS23 (fun _ hS => ov_eql rfl rfl rfl) ?_
  refine rh_done (by kernel_rfl) ?_
  first | refine run_cond_dec rfl (fun c2 => ?_) (fun c2 => ?_) | refine run_cond rfl (fun c2 => ?_) (fun c2 => ?_)
  ·refine run_seq <| run_region <| rl_v rfl rfl rfl (ov_buildL rfl lay_58 rfl (us := [_, _]) rfl) <| rl_ow rfl (ow_storeW rfl rfl (by kernel_rfl) hO22 0 rfl rfl (by rfl) rfl (by rfl)) ?_
   rintro _ w24 ⟨rfl, hO25, hs26⟩
   have hc2 := (fits_val h4 (by omega) hW).1 c2
   refine rl_v rfl rfl rfl (ov_assign rfl rfl) <| rl_nil <| run_ret Try.func29 (resW2 Try.results29 rfl rfl Try.underlying58 rfl (by kernel_rfl) hO25 0 rfl) ?_
   exact ⟨none, 0, 0, none, 0, 0, _, _, _, none, none, by rw [decide_eq_false fun h => h.2 hc2], CrO.nil fun h => h.2 hc2, (hO25.sub (List.nil_sublist _)).nil_cons.nil_cons⟩
  ·have hc2 : ¬ l.Can k := fun h => c2 ((fits_val h4 (by omega) hW).2 h)
   refine run_skip <| run_seq <| run_region <| rl_v rfl rfl rfl (ov_move rfl rfl) ?_
   refine rl_call callable_60 rfl rfl rfl rfl rfl rfl (reached_any wb G L la l.n lc sa (c - 1) sc pa pc oa oc fl _ hW.b.ok hW.sm (hW.at hO22 (.cons _ (List.Sublist.refl _)))) (fun e27 w28 hp29 => ?_)
   obtain ⟨ob, LV2, rfl, hO5, hLV⟩ := hp29
   refine ⟨_, rfl, ?_⟩
   have hO30 := hO22.join hO5
   refine rl_v rfl rfl rfl (ov_assign rfl rfl) <| rl_nil <| run_seq <| run_region <| rl_ow rfl (ow_alloc _ rfl rfl rfl zero_58 rfl hO30) ?_
   rintro _ w31 ⟨b8, rfl, hO32, hs33⟩
   have hO6 := hO32.nil_cons.nil_cons.perm perm_pr
   refine rl_nil <| run_seq <| run_seq <| run_region <| rl_v rfl rfl rfl (ov_move rfl rfl) <| rl_v rfl rfl rfl (ov_len rfl Try.underlying27 rfl) <| rl_v rfl rfl rfl (ov_move rfl rfl) <| rl_nil <| run_block <| Run.keep [0, 4, 6, 7, 8, 31, 32] (F' := [(0, _), (4, _), (6, _), (7, _), (8, _), (31, _), (32, _)]) rfl <| run_loop1 (fun (i : Nat) => [(32, .int .i64 (i : Int))]) [0, 4, 6, 7, 8, 31] (fun (i : Nat) (w34 : World) => i ≤ l.n ∧ ∃ (xa : Option Addr) (xn xc : Nat) (Y : Int → Int) (cx : Option Blk), Pick (fun j => 0 ≤ LV2 (1 + j)) i xn Y ∧ IRow (.slice xa xn xc) 3 xn (fun j => iv (Y j)) cx ∧ Own w.heap.size w w34 (some (lch b8 58 (crL xa xn xc none 0 0)) :: some (vch ob 3 G.nn (fun v => iv (LV2 v))) :: cx :: none :: some (lch b4 58 (crL none 0 0 none 0 0)) :: wkB wb la l.n lc sa (c - 1) sc pa (2 * G.np) pc oa G.nn oc fl :: cp :: (HO ++ [cs]))) (fun (i : Nat) => l.n - i) (0) ?_ (And.intro (by exact slot_int rfl (by first | omega)) (And.intro rfl (And.intro rfl (And.intro rfl (And.intro rfl (And.intro rfl (And.intro rfl trivial))))))) ?_
   ·exact ⟨Nat.zero_le _, none, 0, 0, fun _ => 0, none, Pick.nil _ _, IRow.nil _ _, hO6⟩
   intro i w34 hIw34 ih35
   obtain ⟨hi, xa, xn, xc, Y, cx, hP, hx, hO7⟩ := hIw34
   show Run _ _ _ _ [(32, _), (0, _), (4, _), (6, _), (7, _), (8, _), (31, _)] _ _
   refine run_seq <| run_region <| rl_v rfl rfl rfl (ov_lss rfl rfl rfl) <| rl_nil <| run_seq ?_
   first | refine run_cond_dec rfl (fun c3 => ?_) (fun c3 => ?_) | refine run_cond rfl (fun c3 => ?_) (fun c3 => ?_)
   ·have hle := hP.le
    refine run_skip <| run_seq <| run_block <| run_seq <| run_region <| rl_v rfl rfl rfl (ov_move rfl rfl) <| rl_v rfl rfl rfl (ov_assign rfl rfl) <| rl_nil <| run_seq <| run_region <| rl_v rfl rfl rfl (ov_move rfl rfl) <| rl_v rfl rfl rfl (ov_move rfl rfl) <| rl_v rfl rfl rfl (ov_add rfl rfl rfl (by omega)) ?_
    refine rl_v rfl rfl rfl (ov_index1 rfl Try.underlying47 (by kernel_rfl) rfl rfl ⟨by omega, by omega⟩ rfl) ?_
    refine rl_v rfl rfl rfl (ov_load rfl Try.underlying3 rfl rfl (by exact hO7.cellI 1 rfl (1 + (i : Int)) (by omega) (by omega))) ?_
    refine rl_v rfl rfl rfl (ov_geq rfl rfl rfl) <| rl_nil ?_
    first | refine run_cond_dec rfl (fun c4 => ?_) (fun c4 => ?_) | refine run_cond rfl (fun c4 => ?_) (fun c4 => ?_)
    ·refine run_region <| rl_v rfl rfl rfl (ov_fieldS rfl Try.underlying58 rfl (fo := 0) rfl (by kernel_rfl) rfl) ?_
     refine rl_v rfl rfl rfl (ov_load rfl Try.underlying47 rfl rfl (by exact hO7.cellL 0 rfl (off := 0) rfl)) ?_
     refine rl_v rfl rfl rfl (ov_move rfl rfl) <| rl_ow rfl (ow_one rfl rfl rfl Try.underlying47 info_3 rfl hO7 rfl rfl) ?_
     rintro _ w36 ⟨b44, rfl, hO37, hs38⟩
     refine rl_ow rfl (ow_app1 rfl rfl rfl Try.underlying47 info_3 rfl hO37 2 hx rfl rfl rfl rfl ⟨by omega, by omega⟩) ?_
     rintro _ w39 ⟨v45, c45, rfl, hO40, hx45, hs41⟩
     obtain ⟨a45, p45, rfl⟩ := Row.val hx45
     refine rl_v rfl rfl rfl (ov_fieldS rfl Try.underlying58 rfl (fo := 0) rfl (by kernel_rfl) rfl) ?_
     refine rl_ow rfl (ow_storeL rfl rfl (by kernel_rfl) hO40 0 rfl rfl rfl rfl rfl) ?_
     rintro _ w42 ⟨rfl, hO43, hs44⟩
     have hx46 : IRow (.slice a45 (xn + 1) p45) 3 (xn + 1) (fun j => iv (upd Y xn i j)) c45 := hx45.congr fun j _ _ => by
      unfold upd; split <;> rfl
     refine rl_nil <| run_inBlock <| run_region <| rl_v rfl rfl rfl (ov_add rfl rfl rfl (by omega)) ?_
     refine rl_v rfl rfl rfl (ov_move rfl rfl) <| rl_nil ?_
     refine Run.use (ih35 (i + 1) _ ?_ ?_) (And.intro (by exact slot_int rfl (by first | omega)) (And.intro rfl (And.intro rfl (And.intro rfl (And.intro rfl (And.intro rfl (And.intro rfl trivial)))))))
     ·first | omega | (dsimp only; omega)
     ·exact ⟨by omega, a45, xn + 1, p45, upd Y xn i, c45, hP.yes c4, hx46, hO43⟩
    ·refine run_skip <| run_inBlock <| run_region <| rl_v rfl rfl rfl (ov_add rfl rfl rfl (by omega)) ?_
     refine rl_v rfl rfl rfl (ov_move rfl rfl) <| rl_nil ?_
     refine Run.use (ih35 (i + 1) _ ?_ ?_) (And.intro (by exact slot_int rfl (by first | omega)) (And.intro rfl (And.intro rfl (And.intro rfl (And.intro rfl (And.intro rfl (And.intro rfl trivial)))))))
     ·first | omega | (dsimp only; omega)
     ·exact ⟨by omega, xa, xn, xc, Y, cx, hP.no c4, hx, hO7⟩
   ·have hin : i = l.n := by omega
    rw [hin] at hP
    obtain ⟨sb, hsa⟩ := hW.spn.addr
    refine run_exit rfl <| run_seq <| run_seq <| run_region <| rl_v rfl rfl rfl (ov_move rfl rfl) <| rl_v rfl rfl rfl (ov_nil rfl rfl) <| rl_v rfl rfl rfl (ov_fieldS rfl Try.underlying103 rfl (fo := 1) rfl (by kernel_rfl) rfl) ?_
    refine rl_v rfl rfl rfl (ov_load rfl Try.underlying48 rfl rfl (by exact hO7.cellL 5 rfl (off := 1) rfl)) ?_
    refine rl_v rfl rfl rfl (ov_len rfl Try.underlying48 rfl) <| rl_v rfl rfl rfl (ov_move rfl rfl) <| rl_nil <| run_block <| Run.keep [0, 4, 7, 8, 51, 52, 53] (F' := [(0, _), (4, _), (7, _), (8, _), (51, _), (52, _), (53, _)]) rfl <| run_loop1 (fun (j : Nat) => [(53, .int .i64 (j : Int))]) [0, 4, 7, 8, 51, 52] (fun (j : Nat) (w45 : World) => j ≤ m ∧ ∃ (ha : Option Addr) (hn2 hc : Nat) (K : Int → Int) (ch : Option Blk), Pick (fun j => 0 ≤ LV2 (1 + (l.n : Int) + j)) j hn2 K ∧ SRow (.slice ha hn2 hc) 89 2 hn2 (fun k => [iv (X (K k)), iv (X (K k + 1))]) ch ∧ Own w.heap.size w w45 (some (lch b8 58 (crL xa xn xc ha hn2 hc)) :: some (vch ob 3 G.nn (fun v => iv (LV2 v))) :: cx :: ch :: some (lch b4 58 (crL none 0 0 none 0 0)) :: wkB wb la l.n lc sa (c - 1) sc pa (2 * G.np) pc oa G.nn oc fl :: cp :: (HO ++ [cs]))) (fun (j : Nat) => m - j) (0) ?_ (And.intro (by exact slot_int rfl (by first | omega)) (And.intro rfl (And.intro rfl (And.intro rfl (And.intro rfl (And.intro rfl (And.intro rfl trivial))))))) ?_
    ·exact ⟨Nat.zero_le _, none, 0, 0, fun _ => 0, none, Pick.nil _ _, SRow.nil _ _ _, hO7⟩
    intro j w45 hIw45 ih46
    obtain ⟨hj, ha, hn2, hc, K, ch, hP2, hh, hO8⟩ := hIw45
    show Run _ _ _ _ [(53, _), (0, _), (4, _), (7, _), (8, _), (51, _), (52, _)] _ _
    refine run_seq <| run_region <| rl_v rfl rfl rfl (ov_lss rfl rfl rfl) <| rl_nil <| run_seq ?_
    first | refine run_cond_dec rfl (fun c5 => ?_) (fun c5 => ?_) | refine run_cond rfl (fun c5 => ?_) (fun c5 => ?_)
    ·refine run_skip <| run_seq <| run_block <| run_seq <| run_region <| rl_v rfl rfl rfl (ov_move rfl rfl) <| rl_v rfl rfl rfl (ov_index rfl Try.underlying48 (by kernel_rfl) (s := 2) rfl rfl ⟨by omega, by omega⟩ (by exact hsa (by omega))) ?_
     refine rl_v rfl rfl rfl (ov_loadE rfl Try.underlying89 rfl (by kernel_rfl) rfl ⟨by omega, by omega⟩ rfl ((hW.spn.cellU (hO8.sub (sub_lst7)) 0 rfl (hsa (by omega))))) ?_
     refine rl_ow rfl (ow_alloc [iv 0, iv 0] rfl rfl rfl zero_89 rfl hO8) ?_
     rintro _ w47 ⟨t11, rfl, hO48, hs49⟩
     refine rl_v rfl rfl rfl (ov_assign rfl rfl) <| rl_ow rfl (ow_storeW rfl rfl (by kernel_rfl) hO48 0 rfl rfl (by rfl) rfl (by rfl)) ?_
     rintro _ w50 ⟨rfl, hO51, hs52⟩
     have hle := hP2.le
     refine rl_nil <| run_seq <| run_region <| rl_v rfl rfl rfl (ov_move rfl rfl) <| rl_v rfl rfl rfl (ov_move rfl rfl) <| rl_v rfl rfl rfl (ov_len rfl Try.underlying27 rfl) <| rl_v rfl rfl rfl (ov_add rfl rfl rfl (by omega)) ?_
     refine rl_v rfl rfl rfl (ov_move rfl rfl) <| rl_v rfl rfl rfl (ov_add rfl rfl rfl (by omega)) ?_
     refine rl_v rfl rfl rfl (ov_index1 rfl Try.underlying47 (by kernel_rfl) rfl rfl ⟨by omega, by omega⟩ (by rfl)) ?_
     refine rl_v rfl rfl rfl (ov_load rfl Try.underlying3 rfl rfl (by exact hO51.cellI 2 rfl (1 + (l.n : Int) + j) (by omega) (by omega))) ?_
     refine rl_v rfl rfl rfl (ov_geq rfl rfl rfl) <| rl_nil ?_
     first | refine run_cond_dec rfl (fun c6 => ?_) (fun c6 => ?_) | refine run_cond rfl (fun c6 => ?_) (fun c6 => ?_)
     ·refine run_region <| rl_v rfl rfl rfl (ov_fieldS rfl Try.underlying58 rfl (fo := 1) rfl (by kernel_rfl) rfl) ?_
      refine rl_v rfl rfl rfl (ov_load rfl Try.underlying48 rfl rfl (by exact hO51.cellL 1 rfl (off := 1) rfl)) ?_
      refine rl_v rfl rfl rfl (ov_loadW rfl Try.underlying89 rfl (by kernel_rfl) rfl hO51 0 rfl) ?_
      refine rl_ow rfl (ow_build [_] rfl rfl rfl rfl rfl Try.underlying48 info_89 (by decide) hO51 rfl rfl) ?_
      rintro _ w53 ⟨b70, rfl, hO54, hs55⟩
      refine rl_ow rfl (ow_appR1 rfl rfl rfl Try.underlying48 info_89 rfl rfl hO54 4 hh rfl rfl rfl rfl rfl ⟨by omega, by omega⟩) ?_
      rintro _ w56 ⟨v71, c71, rfl, hO57, hh71, hs58⟩
      obtain ⟨a71, p71, rfl⟩ := Row.val hh71
      refine rl_v rfl rfl rfl (ov_fieldS rfl Try.underlying58 rfl (fo := 1) rfl (by kernel_rfl) rfl) ?_
      refine rl_ow rfl (ow_storeL rfl rfl (by kernel_rfl) hO57 1 rfl rfl rfl rfl rfl) ?_
      rintro _ w59 ⟨rfl, hO60, hs61⟩
      have hh72 : SRow (.slice a71 (hn2 + 1) p71) 89 2 (hn2 + 1) (fun k => [iv (X (upd K hn2 j k)), iv (X (upd K hn2 j k + 1))]) c71 := hh71.congr fun q _ _ => by
       unfold upd; split <;> rfl
      refine rl_nil <| run_inBlock <| run_region <| rl_v rfl rfl rfl (ov_add rfl rfl rfl (by omega)) ?_
      refine rl_v rfl rfl rfl (ov_move rfl rfl) <| rl_nil ?_
      refine Run.use (ih46 (j + 1) _ ?_ ?_) (And.intro (by exact slot_int rfl (by first | omega)) (And.intro rfl (And.intro rfl (And.intro rfl (And.intro rfl (And.intro rfl (And.intro rfl trivial)))))))
      ·first | omega | (dsimp only; omega)
      ·exact ⟨by omega, a71, hn2 + 1, p71, upd K hn2 j, c71, hP2.yes c6, hh72, hO60.tail⟩
     ·refine run_skip <| run_inBlock <| run_region <| rl_v rfl rfl rfl (ov_add rfl rfl rfl (by omega)) ?_
      refine rl_v rfl rfl rfl (ov_move rfl rfl) <| rl_nil ?_
      refine Run.use (ih46 (j + 1) _ ?_ ?_) (And.intro (by exact slot_int rfl (by first | omega)) (And.intro rfl (And.intro rfl (And.intro rfl (And.intro rfl (And.intro rfl (And.intro rfl trivial)))))))
      ·first | omega | (dsimp only; omega)
      ·exact ⟨by omega, ha, hn2, hc, K, ch, hP2.no c6, hh, hO51.tail⟩
    ·have hjm : j = c - 1 := by omega
     rw [hjm] at hP2
     refine run_exit rfl <| run_seq <| run_region <| rl_v rfl rfl rfl (ov_loadW rfl Try.underlying58 rfl (by kernel_rfl) rfl hO8 0 rfl) ?_
     refine rl_ow rfl (ow_storeW rfl rfl (by kernel_rfl) hO8 4 rfl rfl (by rfl) rfl (by rfl)) ?_
     rintro _ w62 ⟨rfl, hO63, hs64⟩
     have hcut := hW.lev.cut hW.b.ok hW.cut
     have hfl : fl < sm l.len l.n := by
      have := hW.b.fl_le hW.f
      omega
     have hpr := (hW.b.crush hW.f hfl (hLV.cut hW.b.ok (hcut.low hW.b.ok hLV))).prv hW.b.cuts h2.fit hP hP2
     refine rl_v rfl rfl rfl (ov_assign rfl rfl) <| rl_nil <| run_ret Try.func29 (resW2 Try.results29 rfl rfl Try.underlying58 rfl (by kernel_rfl) hO63 4 rfl) ?_
     exact ⟨xa, xn, xc, ha, hn2, hc, Y, fun k => X (K k), fun k => X (K k + 1), cx, ch, by rw [decide_eq_true ⟨c1', hc2⟩], ⟨hx, hh, by have := hP2.le; omega, fun h => absurd ⟨c1', hc2⟩ h, fun _ _ => ⟨hP.inc, hpr⟩⟩, hO63.sub (.cons _ (.cons _ (.cons_cons _ (.cons_cons _ (List.nil_sublist _)))))⟩
end Go.Proofs.Ytbepolognfdkeaa
