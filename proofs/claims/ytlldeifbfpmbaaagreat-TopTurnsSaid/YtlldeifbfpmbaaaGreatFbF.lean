import Derived.Test.YtlldeifbfpmbaaaGreatQui
set_option maxRecDepth 100000
namespace Go.Proofs.YtlldeifbfpmbaaaGreat
open Go.RowKit Go.Proofs Go.MapKept
structure Cl5 (B : Nat) (w0 : World) (H : List (Option Blk)) (w : World) : Prop where
 own : Own B w0 w H
def cw0 (cb nm : Nat → Nat) : Nat → Cw := fun b => ⟨cb b, nm b, .slice none 0 0, none, 0, fun _ => 0, fun _ => 0⟩
theorem fam0_succ {cb nm : Nat → Nat} {q x : Nat} : fam (cw0 (fun i => if i = q then x else cb i) nm) (q + 1) = fam (cw0 cb nm) q ++ [none, some (lch x 139 [.map (some (nm q)), .slice none 0 0])] := by
 rw [fam_succ]
 have e : fam (cw0 (fun i => if i = q then x else cb i) nm) q = fam (cw0 cb nm) q := by
  unfold fam
  simp only [List.flatMap_def]
  congr 1
  refine List.map_congr_left fun i hi => ?_
  have : i ≠ q := by have := List.mem_range.1 hi; omega
  unfold cw0
  simp only [if_neg this]
 rw [e]
 simp [crBs, crB, cw0]
theorem perm_back2 {α : Type} {x y a b c d : α} {M : List α} : (x :: y :: a :: b :: c :: d :: M).Perm (a :: b :: c :: d :: (M ++ [x, y])) := List.perm_append_comm (l₁ := [x, y]) (l₂ := a :: b :: c :: d :: M)
set_option maxHeartbeats 4000000 in
theorem offered_any (tb : Nat) (f : Fair) (w : World) (hf : f.Ok) (hs : f.Sm) (h : PT w.heap.size w tb f) :
  Calls Tryz.prog 42 #[ptr tb] w fun e w' => ∃ ob l nx, e = .returned (.slice (some ⟨ob, 0, none⟩) f.n f.n) ∧ Own w.heap.size w w' [some (vch ob 3 f.n (fun g => iv (l g)))] ∧ f.DA l nx ∧ ∀ g : Int, 0 ≤ g → g < f.n → l g = -1 → nx g = f.gl g := by
 have hpt := h
 obtain ⟨ga, ba, qa, ma, na, gc, bc, qc, mc, nc, hL, hF, hM, hN⟩ := h
 have hl := hL.open
 obtain ⟨A, C, RB, RO, gb, go, hga, hrow, hra, hel, _⟩ := hF.g.open
 obtain ⟨qb, qo, hqa, hqrow⟩ := hF.q.open
 obtain ⟨nm, hnr, hnm⟩ := hN
 obtain ⟨nb, no, hna, hnrow⟩ := hnr.open
 have hn := hs.n
 have hm := hs.m
 refine calls_of_run (F := [(0, _)]) Tryz.func42 rfl Tryz.ntmps42 rfl rfl ?_
 have hO0 := Own.init w
 refine run_seq <| run_region <| rl_v rfl rfl rfl (ov_assign rfl rfl) <| rl_nil <| run_seq <| run_region <| rl_ow rfl (ow_one rfl rfl rfl Tryz.underlying23 info_3 rfl hO0 rfl rfl) ?_
 rintro _ w1 ⟨b1, rfl, hO2, hs3⟩
 refine rl_v rfl rfl rfl (ov_move rfl rfl) <| rl_v rfl rfl rfl (ov_nil rfl rfl) <| rl_v rfl rfl rfl (ov_fieldS rfl Tryz.underlying100 rfl (fo := 0) rfl (by kernel_rfl) rfl) ?_
 refine rl_v rfl rfl rfl (ov_fieldS rfl Tryz.underlying27 rfl (fo := 0) rfl (by kernel_rfl) rfl) ?_
 refine rl_v rfl rfl rfl (ov_load rfl Tryz.underlying22 rfl rfl (by exact hl _ hO2.below rfl)) ?_
 refine rl_v rfl rfl rfl (ov_len rfl Tryz.underlying22 rfl) ?_
 refine rl_call callable_78 rfl rfl rfl rfl rfl rfl (repeatR'_any _ _ f.n (-1) _ (by omega) (hO2.readsI 0 rfl)) (fun e4 w5 hp6 => ?_)
 obtain ⟨ob, rfl, hOb⟩ := hp6
 refine ⟨_, rfl, ?_⟩
 have hO7 := hO2.join hOb
 refine rl_v rfl rfl rfl (ov_assign rfl rfl) <| rl_nil <| run_seq <| run_region <| rl_v rfl rfl rfl (ov_move rfl rfl) <| rl_v rfl rfl rfl (ov_nil rfl rfl) <| rl_v rfl rfl rfl (ov_fieldS rfl Tryz.underlying100 rfl (fo := 0) rfl (by kernel_rfl) rfl) ?_
 refine rl_v rfl rfl rfl (ov_fieldS rfl Tryz.underlying27 rfl (fo := 0) rfl (by kernel_rfl) rfl) ?_
 refine rl_v rfl rfl rfl (ov_load rfl Tryz.underlying22 rfl rfl (by exact hl _ hO7.below rfl)) ?_
 refine rl_v rfl rfl rfl (ov_len rfl Tryz.underlying22 rfl) ?_
 refine rl_make (f.n) rfl rfl rfl rfl Tryz.underlying23 info_3 rfl hO7 rfl rfl (by rfl) (by rfl) ⟨by omega, by omega⟩ (fun xb w8 hO9 hs10 => ?_)
 refine rl_v rfl rfl rfl (ov_assign rfl rfl) <| rl_nil <| run_seq <| run_region <| rl_v rfl rfl rfl (ov_move rfl rfl) <| rl_v rfl rfl rfl (ov_nil rfl rfl) <| rl_v rfl rfl rfl (ov_fieldS rfl Tryz.underlying100 rfl (fo := 0) rfl (by kernel_rfl) rfl) ?_
 refine rl_v rfl rfl rfl (ov_fieldS rfl Tryz.underlying27 rfl (fo := 1) rfl (by kernel_rfl) rfl) ?_
 refine rl_v rfl rfl rfl (ov_load rfl Tryz.underlying22 rfl rfl (by exact hl _ hO9.below rfl)) ?_
 refine rl_v rfl rfl rfl (ov_len rfl Tryz.underlying22 rfl) ?_
 refine rl_make (f.m) rfl rfl rfl rfl Tryz.underlying136 info_137 rfl hO9 rfl rfl (by rfl) (by rfl) ⟨by omega, by omega⟩ (fun yb w11 hO12 hs13 => ?_)
 refine rl_v rfl rfl rfl (ov_assign rfl rfl) <| rl_nil <| run_seq <| run_seq <| run_region <| rl_v rfl rfl rfl (ov_move rfl rfl) <| rl_v rfl rfl rfl (ov_len rfl Tryz.underlying136 rfl) <| rl_v rfl rfl rfl (ov_move rfl rfl) <| rl_nil <| run_block <| Run.keep [0, 3, 4, 5, 38, 39] (F' := [(0, _), (3, _), (4, _), (5, _), (38, _), (39, _)]) rfl <| run_loop2 (fun (k : Int) (cb : Nat → Nat) => [(39, .int .i64 k)]) [0, 3, 4, 5, 38] (fun (k : Int) (cb : Nat → Nat) (w14 : World) => 0 ≤ k ∧ k ≤ f.m ∧ Own w.heap.size w w14 (some (vch yb 137 f.m (fun i => if i < k then ptr (cb i.toNat) else .pointer none)) :: some (vch xb 3 f.n (fun _ => iv 0)) :: some (vch ob 3 f.n (fun _ => iv (-1))) :: some (vch b1 3 1 (fun _ => iv (-1))) :: fam (cw0 cb (fun b => nm b)) k.toNat)) (fun (k : Int) (cb : Nat → Nat) => ((f.m : Int) - k).toNat) (0) (fun _ => 0) ?_ (And.intro (by exact slot_int rfl (by first | omega)) (And.intro rfl (And.intro rfl (And.intro rfl (And.intro rfl (And.intro rfl trivial)))))) ?_
 ·exact ⟨by omega, by omega, hO12⟩
 intro k cb w14 hIw14 ih15
 obtain ⟨hk0, hk1, hO⟩ := hIw14
 show Run _ _ _ _ [(39, _), (0, _), (3, _), (4, _), (5, _), (38, _)] _ _
 refine run_seq <| run_region <| rl_v rfl rfl rfl (ov_lss rfl rfl rfl) <| rl_nil <| run_seq ?_
 first | refine run_cond_dec rfl (fun h1 => ?_) (fun h1 => ?_) | refine run_cond rfl (fun h1 => ?_) (fun h1 => ?_)
 ·refine run_skip <| run_seq <| run_block <| run_seq <| run_region <| rl_v rfl rfl rfl (ov_move rfl rfl) <| rl_v rfl rfl rfl (ov_assign rfl rfl) <| rl_nil <| run_region <| rl_v rfl rfl rfl (ov_move rfl rfl) <| rl_v rfl rfl rfl (ov_move rfl rfl) <| rl_v rfl rfl rfl (ov_move rfl rfl) <| rl_v rfl rfl rfl (ov_nil rfl rfl) <| rl_v rfl rfl rfl (ov_fieldS rfl Tryz.underlying100 rfl (fo := 4) rfl (by kernel_rfl) rfl) ?_
  refine rl_v rfl rfl rfl (ov_load rfl Tryz.underlying98 rfl rfl (by exact hl _ hO.below rfl)) ?_
  refine rl_v rfl rfl rfl (ov_move rfl rfl) <| rl_v rfl rfl rfl (ov_index1 rfl Tryz.underlying98 (by kernel_rfl) rfl rfl ⟨by omega, by omega⟩ (by exact hna (by omega))) ?_
  refine rl_v rfl rfl rfl (ov_load rfl Tryz.underlying97 rfl rfl (by exact hnrow _ hO.below _ (by omega) (by omega))) ?_
  refine rl_v rfl rfl rfl (ov_buildL rfl lay_139 rfl (us := [_, _]) rfl) <| rl_ow rfl (ow_box _ rfl rfl rfl rfl rfl hO) ?_
  rintro _ w16 ⟨cbk, rfl, hO17, hs18⟩
  refine rl_v rfl rfl rfl (ov_index1 rfl Tryz.underlying136 (by kernel_rfl) rfl rfl ⟨by omega, by omega⟩ (by rfl)) ?_
  refine rl_ow rfl (ow_store rfl rfl (by kernel_rfl) hO17 1 rfl rfl ⟨by omega, by omega⟩ rfl rfl) ?_
  rintro _ w19 ⟨rfl, hO20, hs21⟩
  obtain ⟨q, rfl⟩ := Int.eq_ofNat_of_zero_le hk0
  refine rl_nil <| run_inBlock <| run_region <| rl_v rfl rfl rfl (ov_add rfl rfl rfl (by omega)) ?_
  refine rl_v rfl rfl rfl (ov_move rfl rfl) <| rl_nil ?_
  refine Run.use (ih15 ((q : Int) + 1) (fun i => if i = q then cbk else cb i) _ ?_ ?_) (And.intro (by exact slot_int rfl (by first | omega)) (And.intro rfl (And.intro rfl (And.intro rfl (And.intro rfl (And.intro rfl trivial))))))
  ·first | omega | (dsimp only; omega)
  ·exact ⟨by omega, by omega, by rw [show ((q : Int) + 1).toNat = q + 1 by omega, fam0_succ]; exact ((hO20.congrI 1 rfl (G' := fun i => if i < (q : Int) + 1 then ptr (if i.toNat = q then cbk else cb i.toNat) else .pointer none) fun i i0 i1 => by unfold upd; by_cases e : i = q; (subst e; simp; omega); (rw [if_neg e]; show (if i < (q : Int) then _ else _) = _; by_cases e2 : i < q; (rw [if_pos e2, if_pos (by omega), if_neg (by omega)]); (rw [if_neg e2, if_neg (by omega)]))).nil_cons).perm perm_back2⟩
 ·have hkm : k = f.m := by omega
  subst hkm
  have hO1 := ((hO.congrI 0 rfl (G' := fun i => ptr (cb i.toNat)) fun i i0 i1 => if_pos i1).sub (.cons_cons _ (.cons_cons _ (.cons_cons _ (.cons _ (.refl _)))))).nil_cons
  refine run_exit rfl <| run_seq <| run_region <| rl_v rfl rfl rfl (ov_assign rfl rfl) <| rl_nil <| run_seq <| run_seq <| run_region <| rl_v rfl rfl rfl (ov_move rfl rfl) <| rl_v rfl rfl rfl (ov_nil rfl rfl) <| rl_v rfl rfl rfl (ov_fieldS rfl Tryz.underlying100 rfl (fo := 0) rfl (by kernel_rfl) rfl) ?_
  refine rl_v rfl rfl rfl (ov_fieldS rfl Tryz.underlying27 rfl (fo := 0) rfl (by kernel_rfl) rfl) ?_
  refine rl_v rfl rfl rfl (ov_load rfl Tryz.underlying22 rfl rfl (by exact hl _ hO1.below rfl)) ?_
  refine rl_v rfl rfl rfl (ov_len rfl Tryz.underlying22 rfl) <| rl_v rfl rfl rfl (ov_move rfl rfl) <| rl_nil <| run_block <| Run.keep [0, 3, 4, 5, 7, 60, 61] (F' := [(0, _), (3, _), (4, _), (5, _), (7, _), (60, _), (61, _)]) rfl <| run_loop4 (fun (k : Nat) (ao : Option Addr) (cap : Nat) (c : Option Blk) => [(61, .int .i64 k), (7, .slice ao k cap)]) [0, 3, 4, 5, 60] (fun (k : Nat) (ao : Option Addr) (cap : Nat) (c : Option Blk) (w22 : World) => k ≤ f.n ∧ IRow (.slice ao k cap) 3 k (fun i => iv i) c ∧ Own w.heap.size w w22 (c :: some (vch yb 137 f.m (fun i => ptr (cb i.toNat))) :: some (vch xb 3 f.n (fun _ => iv 0)) :: some (vch ob 3 f.n (fun _ => iv (-1))) :: fam (cw0 cb (fun b => nm b)) (f.m : Int).toNat)) (fun (k : Nat) (ao : Option Addr) (cap : Nat) (c : Option Blk) => f.n - k) (0) (none) (0) (none) ?_ (And.intro (by exact slot_int rfl (by first | omega)) (And.intro rfl (And.intro rfl (And.intro rfl (And.intro rfl (And.intro rfl (And.intro rfl trivial))))))) ?_
  ·exact ⟨by omega, IRow.nil _ _, hO1⟩
  intro k ao cap c w22 hIw22 ih23
  obtain ⟨hk1, hr, hO⟩ := hIw22
  show Run _ _ _ _ [(61, _), (7, _), (0, _), (3, _), (4, _), (5, _), (60, _)] _ _
  refine run_seq <| run_region <| rl_v rfl rfl rfl (ov_lss rfl rfl rfl) <| rl_nil <| run_seq ?_
  first | refine run_cond_dec rfl (fun h1 => ?_) (fun h1 => ?_) | refine run_cond rfl (fun h1 => ?_) (fun h1 => ?_)
  ·refine run_skip <| run_seq <| run_block <| run_seq <| run_region <| rl_v rfl rfl rfl (ov_move rfl rfl) <| rl_v rfl rfl rfl (ov_assign rfl rfl) <| rl_nil <| run_region <| rl_v rfl rfl rfl (ov_move rfl rfl) <| rl_v rfl rfl rfl (ov_move rfl rfl) <| rl_ow rfl (ow_one rfl rfl rfl Tryz.underlying23 info_3 rfl hO rfl rfl) ?_
   rintro _ w24 ⟨b2, rfl, hO25, hs26⟩
   refine rl_ow rfl (ow_app1 rfl rfl rfl Tryz.underlying23 info_3 rfl hO25 0 hr rfl rfl rfl rfl ⟨by omega, by omega⟩) ?_
   rintro _ w27 ⟨v2, c2, rfl, hO28, hr2, hs29⟩
   obtain ⟨ao2, cap2, rfl⟩ := Row.val hr2
   refine rl_v rfl rfl rfl (ov_assign rfl rfl) <| rl_nil <| run_inBlock <| run_region <| rl_v rfl rfl rfl (ov_add rfl rfl rfl (by omega)) ?_
   refine rl_v rfl rfl rfl (ov_move rfl rfl) <| rl_nil ?_
   refine Run.use (ih23 (k + 1) (ao2) (cap2) (c2) _ ?_ ?_) (And.intro (by exact slot_int rfl (by first | omega)) (And.intro rfl (And.intro rfl (And.intro rfl (And.intro rfl (And.intro rfl (And.intro rfl trivial)))))))
   ·first | omega | (dsimp only; omega)
   ·exact ⟨by omega, hr2.congr (fun i i0 i1 => by unfold upd; by_cases e : i = (k : Int); (rw [if_pos e, e]); (rw [if_neg e])), hO28⟩
  ·obtain rfl : k = f.n := by omega
   refine run_exit rfl <| run_seq <| run_block <| Run.keep [0, 3, 4, 5, 7] (F' := [(0, _), (3, _), (4, _), (5, _), (7, _)]) rfl <| run_loop5 (fun (ka : Nat) (ao : Option Addr) (cap : Nat) (nx : Int → Int) (K : Nat → Cw) => [(7, .slice ao ka cap)]) [0, 3, 4, 5] (fun (ka : Nat) (ao : Option Addr) (cap : Nat) (nx : Int → Int) (K : Nat → Cw) (w30 : World) => ∃ (c : Option Blk) (l : Int → Int) (al : Int → Int), ka ≤ f.n ∧ IRow (.slice ao ka cap) 3 ka (fun i => iv (al i)) c ∧ OS f l nx al ka K ∧ (∀ b : Nat, b < f.m → (K b).cb = cb b ∧ (K b).mb = nm b) ∧ Own w.heap.size w w30 (c :: some (vch yb 137 f.m (fun i => ptr (cb i.toNat))) :: some (vch xb 3 f.n (fun g => iv (nx g))) :: some (vch ob 3 f.n (fun _ => iv (-1))) :: fam K f.m)) (fun (ka : Nat) (ao : Option Addr) (cap : Nat) (nx : Int → Int) (K : Nat → Cw) => left f nx + ka) (f.n) (ao) (cap) (fun _ => 0) (cw0 cb (fun b => nm b)) ?_ (And.intro rfl (And.intro rfl (And.intro rfl (And.intro rfl (And.intro rfl trivial))))) ?_
   ·exact ⟨c, fun _ => -1, fun i => i, Nat.le_refl _, hr, OS.init hf (fun _ _ _ => rfl) (fun _ _ => ⟨rfl, rfl, rfl⟩), fun _ _ => ⟨rfl, rfl⟩, hO⟩
   intro ka ao cap nx K w30 hIw30 ih31
   obtain ⟨c, l, al, hkn, hr, hS, hK, hO⟩ := hIw30
   show Run _ _ _ _ [(7, _), (0, _), (3, _), (4, _), (5, _)] _ _
   refine run_seq <| run_seq <| run_region <| rl_v rfl rfl rfl (ov_move rfl rfl) <| rl_v rfl rfl rfl (ov_len rfl Tryz.underlying23 rfl) <| rl_v rfl rfl rfl (ov_gtr rfl rfl rfl) <| rl_nil ?_
   first | refine run_cond_dec rfl (fun h1 => ?_) (fun h1 => ?_) | refine run_cond rfl (fun h1 => ?_) (fun h1 => ?_)
   ·have hka : 1 ≤ ka := by omega
    have hcp := hr.capF
    obtain ⟨⟨g0, g1⟩, hlg⟩ := hS.top hka
    obtain ⟨ab, hab, hrd⟩ := hr.openS hO 0 rfl
    have hrt := hrd ((ka : Int) - 1) (by omega) (by omega)
    obtain ⟨g, hg⟩ : ∃ g, g = al ((ka : Int) - 1) := ⟨_, rfl⟩
    rw [← hg] at g0 g1 hlg hrt
    have hnx := hS.da.nxr g g0 g1
    have hglr := hs.gl g g0 g1
    refine run_skip <| run_block <| run_seq <| run_region <| rl_v rfl rfl rfl (ov_move rfl rfl) <| rl_v rfl rfl rfl (ov_move rfl rfl) <| rl_v rfl rfl rfl (ov_len rfl Tryz.underlying23 rfl) <| rl_v rfl rfl rfl (ov_sub rfl rfl rfl (by omega)) ?_
    refine rl_v rfl rfl rfl (ov_index1 rfl Tryz.underlying23 (by kernel_rfl) rfl rfl ⟨by omega, by omega⟩ (by exact hab (by omega))) ?_
    refine rl_v rfl rfl rfl (ov_load rfl Tryz.underlying3 rfl rfl (by exact id hrt)) ?_
    refine rl_v rfl rfl rfl (ov_assign rfl rfl) <| rl_nil <| run_seq <| run_seq <| run_quiet mixed (by kernel_rfl) ?_
    refine rq_v rfl rfl rfl (fun _ => ov_move rfl rfl) ?_
    refine rq_v rfl rfl rfl (fun _ => ov_move rfl rfl) ?_
    refine rq_v rfl rfl rfl (fun _ => ov_index1 rfl Tryz.underlying23 (by kernel_rfl) rfl rfl ⟨by omega, by omega⟩ (by rfl)) ?_
    refine rq_v rfl rfl rfl (fun _ => ov_load rfl Tryz.underlying3 rfl rfl (by show World.cell? w30 _ = _; first | exact hO.cellI 2 rfl g g0 g1)) ?_
    refine rq_v rfl rfl rfl (fun _ => ov_move rfl rfl) ?_
    refine rq_v rfl rfl rfl (fun _ => ov_nil rfl rfl) ?_
    refine rq_v rfl rfl rfl (fun _ => ov_fieldS rfl Tryz.underlying100 rfl (fo := 0) rfl (by kernel_rfl) rfl) ?_
    refine rq_v rfl rfl rfl (fun _ => ov_fieldS rfl Tryz.underlying27 rfl (fo := 0) rfl (by kernel_rfl) rfl) ?_
    refine rq_v rfl rfl rfl (fun _ => ov_load rfl Tryz.underlying22 rfl rfl (by show World.cell? w30 _ = _; first | exact hl _ hO.below rfl | exact hqrow _ hO.below _ (by omega) (by omega) | exact hnrow _ hO.below _ (by omega) (by omega) | exact hrow _ hO.below _ (by omega) (by omega) | exact hel _ hO.below _ (by omega) (by omega) _ (by omega) (by omega) | exact hO.cellI 0 rfl _ (by omega) (by omega) | exact hO.cellL 0 rfl rfl | exact hO.cellI 1 rfl _ (by omega) (by omega) | exact hO.cellL 1 rfl rfl | exact hO.cellI 2 rfl _ (by omega) (by omega) | exact hO.cellL 2 rfl rfl | exact hO.cellI 3 rfl _ (by omega) (by omega) | exact hO.cellL 3 rfl rfl | exact hO.cellI 4 rfl _ (by omega) (by omega) | exact hO.cellL 4 rfl rfl | exact hO.cellI 5 rfl _ (by omega) (by omega) | exact hO.cellL 5 rfl rfl)) ?_
    refine rq_v rfl rfl rfl (fun _ => ov_move rfl rfl) ?_
    refine rq_v rfl rfl rfl (fun _ => ov_index1 rfl Tryz.underlying22 (by kernel_rfl) rfl rfl ⟨by omega, by omega⟩ (by exact hga (by omega))) ?_
    refine rq_v rfl rfl rfl (fun _ => ov_load rfl Tryz.underlying23 rfl rfl (by show World.cell? w30 _ = _; first | exact hl _ hO.below rfl | exact hqrow _ hO.below _ (by omega) (by omega) | exact hnrow _ hO.below _ (by omega) (by omega) | exact hrow _ hO.below _ (by omega) (by omega) | exact hel _ hO.below _ (by omega) (by omega) _ (by omega) (by omega) | exact hO.cellI 0 rfl _ (by omega) (by omega) | exact hO.cellL 0 rfl rfl | exact hO.cellI 1 rfl _ (by omega) (by omega) | exact hO.cellL 1 rfl rfl | exact hO.cellI 2 rfl _ (by omega) (by omega) | exact hO.cellL 2 rfl rfl | exact hO.cellI 3 rfl _ (by omega) (by omega) | exact hO.cellL 3 rfl rfl | exact hO.cellI 4 rfl _ (by omega) (by omega) | exact hO.cellL 4 rfl rfl | exact hO.cellI 5 rfl _ (by omega) (by omega) | exact hO.cellL 5 rfl rfl)) ?_
    refine rq_v rfl rfl rfl (fun _ => ov_len rfl Tryz.underlying23 rfl) ?_
    refine rq_v rfl rfl rfl (fun _ => ov_eql rfl rfl rfl) ?_
    refine rq_nil (fun n32 => ?_)
    have hO34 := hO.drewN n32
    generalize World.drewN w30 n32 = w33 at hO34 ⊢
    first | refine run_cond_dec rfl (fun h2 => ?_) (fun h2 => ?_) | refine run_cond rfl (fun h2 => ?_) (fun h2 => ?_)
    ·refine run_seq <| run_region <| rl_v rfl rfl rfl (ov_move rfl rfl) <| rl_v rfl rfl rfl (ov_move rfl rfl) <| rl_v rfl rfl rfl (ov_len rfl Tryz.underlying23 rfl) <| rl_v rfl rfl rfl (ov_sub rfl rfl rfl (by omega)) ?_
     refine rl_v rfl rfl rfl (ov_sliceH (ka - 1) (s := 1) rfl Tryz.underlying23 (by kernel_rfl) rfl rfl (by omega) (by omega)) ?_
     refine rl_v rfl rfl rfl (ov_assign rfl rfl) <| rl_nil <| run_exit rfl ?_
     refine Run.use (ih31 (ka - 1) (ao) (cap) (nx) (K) _ ?_ ?_) (And.intro rfl (And.intro rfl (And.intro rfl (And.intro rfl (And.intro rfl trivial)))))
     ·first | omega | (dsimp only; omega)
     ·exact ⟨c, l, al, by omega, hr.cutF (by omega), hS.drop hka (by rw [← hg]; exact h2), hK, hO34⟩
    ·have hn1 : nx g < f.gl g := by omega
     obtain ⟨b, hb⟩ : ∃ b, b = f.ge g (nx g) := ⟨_, rfl⟩
     have hbr := hf.gr g (nx g) g0 g1 hnx.1 hn1
     rw [← hb] at hbr
     obtain ⟨q, rfl⟩ := Int.eq_ofNat_of_zero_le hbr.1
     have hqm : q < f.m := by omega
     have hleft := left_upd hS.da g0 g1 hn1
     refine run_skip <| run_seq <| run_quiet mixed (by kernel_rfl) ?_
     refine rq_v rfl rfl rfl (fun _ => ov_move rfl rfl) ?_
     refine rq_v rfl rfl rfl (fun _ => ov_nil rfl rfl) ?_
     refine rq_v rfl rfl rfl (fun _ => ov_fieldS rfl Tryz.underlying100 rfl (fo := 0) rfl (by kernel_rfl) rfl) ?_
     refine rq_v rfl rfl rfl (fun _ => ov_fieldS rfl Tryz.underlying27 rfl (fo := 0) rfl (by kernel_rfl) rfl) ?_
     refine rq_v rfl rfl rfl (fun _ => ov_load rfl Tryz.underlying22 rfl rfl (by show World.cell? w33 _ = _; first | exact hl _ hO34.below rfl | exact hqrow _ hO34.below _ (by omega) (by omega) | exact hnrow _ hO34.below _ (by omega) (by omega) | exact hrow _ hO34.below _ (by omega) (by omega) | exact hel _ hO34.below _ (by omega) (by omega) _ (by omega) (by omega) | exact hO34.cellI 0 rfl _ (by omega) (by omega) | exact hO34.cellL 0 rfl rfl | exact hO34.cellI 1 rfl _ (by omega) (by omega) | exact hO34.cellL 1 rfl rfl | exact hO34.cellI 2 rfl _ (by omega) (by omega) | exact hO34.cellL 2 rfl rfl | exact hO34.cellI 3 rfl _ (by omega) (by omega) | exact hO34.cellL 3 rfl rfl | exact hO34.cellI 4 rfl _ (by omega) (by omega) | exact hO34.cellL 4 rfl rfl | exact hO34.cellI 5 rfl _ (by omega) (by omega) | exact hO34.cellL 5 rfl rfl)) ?_
     refine rq_v rfl rfl rfl (fun _ => ov_move rfl rfl) ?_
     refine rq_v rfl rfl rfl (fun _ => ov_index1 rfl Tryz.underlying22 (by kernel_rfl) rfl rfl ⟨by omega, by omega⟩ (by exact hga (by omega))) ?_
     refine rq_v rfl rfl rfl (fun _ => ov_load rfl Tryz.underlying23 rfl rfl (by show World.cell? w33 _ = _; first | exact hl _ hO34.below rfl | exact hqrow _ hO34.below _ (by omega) (by omega) | exact hnrow _ hO34.below _ (by omega) (by omega) | exact hrow _ hO34.below _ (by omega) (by omega) | exact hel _ hO34.below _ (by omega) (by omega) _ (by omega) (by omega) | exact hO34.cellI 0 rfl _ (by omega) (by omega) | exact hO34.cellL 0 rfl rfl | exact hO34.cellI 1 rfl _ (by omega) (by omega) | exact hO34.cellL 1 rfl rfl | exact hO34.cellI 2 rfl _ (by omega) (by omega) | exact hO34.cellL 2 rfl rfl | exact hO34.cellI 3 rfl _ (by omega) (by omega) | exact hO34.cellL 3 rfl rfl | exact hO34.cellI 4 rfl _ (by omega) (by omega) | exact hO34.cellL 4 rfl rfl | exact hO34.cellI 5 rfl _ (by omega) (by omega) | exact hO34.cellL 5 rfl rfl)) ?_
     refine rq_v rfl rfl rfl (fun _ => ov_move rfl rfl) ?_
     refine rq_v rfl rfl rfl (fun _ => ov_move rfl rfl) ?_
     refine rq_v rfl rfl rfl (fun _ => ov_index1 rfl Tryz.underlying23 (by kernel_rfl) rfl rfl ⟨by omega, by omega⟩ (by rfl)) ?_
     refine rq_v rfl rfl rfl (fun _ => ov_load rfl Tryz.underlying3 rfl rfl (by show World.cell? w33 _ = _; first | exact hO34.cellI 2 rfl g g0 g1)) ?_
     refine rq_v rfl rfl rfl (fun _ => ov_index1 rfl Tryz.underlying23 (by kernel_rfl) rfl rfl ⟨by omega, by omega⟩ (by exact hra g g0 g1 (by omega))) ?_
     refine rq_v rfl rfl rfl (fun _ => ov_load rfl Tryz.underlying3 rfl rfl (by show World.cell? w33 _ = _; first | exact (hel _ hO34.below g g0 g1 (nx g) hnx.1 hn1).trans (congrArg some (congrArg iv hb.symm)))) ?_
     refine rq_v rfl rfl rfl (fun _ => ov_assign rfl rfl) ?_
     refine rq_nil (fun n35 => ?_)
     have hO37 := hO34.drewN n35
     generalize World.drewN w33 n35 = w36 at hO37 ⊢
     refine run_seq <| run_region <| rl_v rfl rfl rfl (ov_move rfl rfl) <| rl_v rfl rfl rfl (ov_move rfl rfl) <| rl_v rfl rfl rfl (ov_index1 rfl Tryz.underlying23 (by kernel_rfl) rfl rfl ⟨by omega, by omega⟩ (by rfl)) ?_
     refine rl_v rfl rfl rfl (ov_load rfl Tryz.underlying3 rfl rfl (by exact hO37.cellI 2 rfl _ (by omega) (by omega))) ?_
     refine rl_v rfl rfl rfl (ov_add rfl rfl rfl (by omega)) ?_
     refine rl_v rfl rfl rfl (ov_index1 rfl Tryz.underlying23 (by kernel_rfl) rfl rfl ⟨by omega, by omega⟩ (by rfl)) ?_
     refine rl_ow rfl (ow_storeI rfl rfl (by kernel_rfl) hO37 2 rfl rfl ⟨by omega, by omega⟩ rfl) ?_
     rintro _ w38 ⟨rfl, hO39, hs40⟩
     refine rl_nil <| run_seq <| run_seq <| run_region <| rl_v rfl rfl rfl (ov_move rfl rfl) <| rl_v rfl rfl rfl (ov_move rfl rfl) <| rl_v rfl rfl rfl (ov_move rfl rfl) ?_
     refine rl_call callable_79 rfl rfl rfl rfl rfl rfl (knows_any tb f _ g q hf (hO39.pt hpt) g0 g1 hbr.1 hbr.2) (fun e41 w42 hp43 => ?_)
     obtain ⟨rfl, hbk⟩ := hp43
     refine ⟨_, rfl, ?_⟩
     have hO44 := hO39.past hbk
     refine rl_v rfl rfl rfl (ov_not rfl rfl) <| rl_v rfl rfl rfl (ov_move rfl rfl) ?_
     first | refine rl_split_dec 122 rfl (fun hq0 => ?_) (fun hq0 => ?_) | refine rl_split 122 rfl (fun hq0 => ?_) (fun hq0 => ?_)
     ·refine rl_gskip rfl rfl rfl rfl rfl rfl <| rl_gskip rfl rfl rfl rfl rfl rfl <| rl_gskip rfl rfl rfl rfl rfl rfl <| rl_gskip rfl rfl rfl rfl rfl rfl <| rl_gskip rfl rfl rfl rfl rfl rfl <| rl_gskip rfl rfl rfl rfl rfl rfl <| rl_gskip rfl rfl rfl rfl rfl rfl <| rl_gskip rfl rfl rfl rfl rfl rfl <| rl_gskip rfl rfl rfl rfl rfl rfl <| rl_v rfl rfl rfl (ov_pick_t rfl rfl rfl) <| rl_nil <| run_cond_t rfl ?_
      have hnk : ¬ f.know g q := by simpa using hq0
      refine run_exit rfl ?_
      refine Run.use (ih31 (ka) (ao) (cap) (upd nx g (nx g + 1)) (K) _ ?_ ?_) (And.intro rfl (And.intro rfl (And.intro rfl (And.intro rfl (And.intro rfl trivial)))))
      ·first | omega | (dsimp only; omega)
      ·exact ⟨c, l, al, hkn, hr, hS.skip hf hg hka hn1 (.inl (by rw [← hb]; exact hnk)), hK, hO44⟩
     ·have hk : f.know g q := by simpa using hq0
      refine rl_gv rfl rfl rfl rfl rfl (ov_move rfl rfl) <| rl_gv rfl rfl rfl rfl rfl (ov_nil rfl rfl) <| rl_gv rfl rfl rfl rfl rfl (ov_fieldS rfl Tryz.underlying100 rfl (fo := 0) rfl (by kernel_rfl) rfl) ?_
      refine rl_gv rfl rfl rfl rfl rfl (ov_fieldS rfl Tryz.underlying27 rfl (fo := 2) rfl (by kernel_rfl) rfl) ?_
      refine rl_gv rfl rfl rfl rfl rfl (ov_load rfl Tryz.underlying23 rfl rfl (by exact hl _ hO44.below rfl)) ?_
      refine rl_gv rfl rfl rfl rfl rfl (ov_move rfl rfl) <| rl_gv rfl rfl rfl rfl rfl (ov_index1 rfl Tryz.underlying23 (by kernel_rfl) rfl rfl ⟨by omega, by omega⟩ (by exact hqa (by omega))) ?_
      refine rl_gv rfl rfl rfl rfl rfl (ov_load rfl Tryz.underlying3 rfl rfl (by exact hqrow _ hO44.below _ (by omega) (by omega))) ?_
      refine rl_gv rfl rfl rfl rfl rfl (ov_eql rfl rfl rfl) <| rl_v rfl rfl rfl (ov_pick_f rfl rfl rfl) <| rl_nil ?_
      first | refine run_cond_dec rfl (fun h4 => ?_) (fun h4 => ?_) | refine run_cond rfl (fun h4 => ?_) (fun h4 => ?_)
      ·refine run_exit rfl ?_
       refine Run.use (ih31 (ka) (ao) (cap) (upd nx g (nx g + 1)) (K) _ ?_ ?_) (And.intro rfl (And.intro rfl (And.intro rfl (And.intro rfl (And.intro rfl trivial)))))
       ·first | omega | (dsimp only; omega)
       ·exact ⟨c, l, al, hkn, hr, hS.skip hf hg hka hn1 (.inr (by rw [← hb]; exact h4)), hK, hO44⟩
      ·have hCw := hS.cw q hqm
       have hcn := hCw.cn
       have hcq := hS.da.cnt q hbr.1 hbr.2
       have hqr := hs.q q hbr.1 hbr.2
       have hmp : MpAt w.heap.size w (K q).mb (rkL (f.be q) (f.bl q)) := by rw [(hK q hqm).2]; exact hnm q (by omega) (by omega)
       have hOq := hO44.crew (i := q) hqm
       refine run_skip <| run_seq <| run_region <| rl_v rfl rfl rfl (ov_move rfl rfl) <| rl_v rfl rfl rfl (ov_move rfl rfl) <| rl_v rfl rfl rfl (ov_len rfl Tryz.underlying23 rfl) <| rl_v rfl rfl rfl (ov_sub rfl rfl rfl (by omega)) ?_
       refine rl_v rfl rfl rfl (ov_sliceH (ka - 1) (s := 1) rfl Tryz.underlying23 (by kernel_rfl) rfl rfl (by omega) (by omega)) ?_
       refine rl_v rfl rfl rfl (ov_assign rfl rfl) <| rl_nil <| run_seq <| run_region <| rl_v rfl rfl rfl (ov_move rfl rfl) <| rl_v rfl rfl rfl (ov_move rfl rfl) <| rl_v rfl rfl rfl (ov_index1 rfl Tryz.underlying136 (by kernel_rfl) rfl rfl ⟨by omega, by omega⟩ (by rfl)) ?_
       refine rl_v rfl rfl rfl (ov_load rfl Tryz.underlying137 rfl rfl (by exact (hOq.cellI 3 rfl (q : Int) hbr.1 hbr.2).trans (congrArg some (show ptr (cb (q : Int).toNat) = ptr (K q).cb from by rw [(hK q hqm).1]; rfl)))) ?_
       refine rl_v rfl rfl rfl (ov_iface rfl Tryz.underlying137 (by intro _ h; cases h) rfl) ?_
       refine rl_v rfl rfl rfl (ov_move rfl rfl) <| rl_v rfl rfl rfl (ov_iface rfl Tryz.underlying3 (by intro _ h; cases h) rfl) ?_
       refine rl_call callable_65 rfl rfl rfl rfl rfl rfl (push5_any (K q).cb (K q).mb w.heap.size (K q).n (rkL (f.be q) (f.bl q)) (K q).sv (K q).P (K q).A g (f.rb q g + 1) (K q).c w _ _ (by omega) hCw.hp (hCw.chPush hf hbr.1 hbr.2 (hs.bl q hbr.1 hbr.2) hk (fun i i0 i1 hi => by have := (hS.da.at_ i i0 i1 (by omega)).2.2; rw [hi] at this; exact this)) hmp hOq hCw.row) (fun e46 w47 hp48 => ?_)
       obtain ⟨rfl, sv', P', A', c', hOp, hrp, hHP, hCHp, hCp⟩ := hp48
       refine ⟨_, rfl, ?_⟩
       have hX := hCw.push g0 g1 (by rw [hlg]; omega) hHP hCHp hrp hCp
       obtain ⟨pa, pc, rfl⟩ := Row.val hrp
       refine rl_nil <| run_seq <| run_class (Cl5 w.heap.size w (c' :: some (lch (K q).cb 139 [.map (some (K q).mb), .slice pa ((K q).n + 1) pc]) :: c :: some (vch yb 137 f.m (fun i => ptr (cb i.toNat))) :: some (vch xb 3 f.n (fun j => iv (upd nx g (nx g + 1) j))) :: some (vch ob 3 f.n (fun _ => iv (-1))) :: famR K f.m q)) (⟨hOp.drew⟩) mixed (by kernel_rfl) ?_
       refine rk_v rfl rfl rfl (fun wq hQ => ov_move rfl rfl) ?_
       refine rk_v rfl rfl rfl (fun wq hQ => ov_move rfl rfl) ?_
       refine rk_v rfl rfl rfl (fun wq hQ => ov_index1 rfl Tryz.underlying136 (by kernel_rfl) rfl rfl ⟨by omega, by omega⟩ (by rfl)) ?_
       refine rk_v rfl rfl rfl (fun wq hQ => ov_load rfl Tryz.underlying137 rfl rfl (by exact (hQ.own.cellI 3 rfl (q : Int) hbr.1 hbr.2).trans (congrArg some (show ptr (cb (q : Int).toNat) = ptr (K q).cb from by rw [(hK q hqm).1]; rfl)))) ?_
       refine rk_call callable_80 rfl rfl rfl rfl rfl rfl (fun wq hQ => (len_cr (K q).cb (K q).mb ((K q).n + 1) pc pa _ (hQ.own.readsL 1 rfl)).mono fun _ _ h => ⟨h.1, ⟨hQ.own.past h.2⟩⟩) ?_
       have hKu : ∀ x : Cw, x.cb = (K q).cb → x.mb = (K q).mb → ∀ b : Nat, b < f.m → (updK K q x b).cb = cb b ∧ (updK K q x b).mb = nm b := fun x e1 e2 b hbm => by
        by_cases e : b = q
        ·rw [e, updK_same, e1, e2]; exact hK q hqm
        ·rw [updK_ne _ _ e]; exact hK b hbm
       have hcut := hr.cutF (show ka - 1 ≤ ka by omega)
       refine rk_v rfl rfl rfl (fun wq hQ => ov_move rfl rfl) ?_
       refine rk_v rfl rfl rfl (fun wq hQ => ov_nil rfl rfl) ?_
       refine rk_v rfl rfl rfl (fun wq hQ => ov_fieldS rfl Tryz.underlying100 rfl (fo := 0) rfl (by kernel_rfl) rfl) ?_
       refine rk_v rfl rfl rfl (fun wq hQ => ov_fieldS rfl Tryz.underlying27 rfl (fo := 2) rfl (by kernel_rfl) rfl) ?_
       refine rk_v rfl rfl rfl (fun wq hQ => ov_load rfl Tryz.underlying23 rfl rfl (by exact hl _ (hQ.own).below rfl)) ?_
       refine rk_v rfl rfl rfl (fun wq hQ => ov_move rfl rfl) ?_
       refine rk_v rfl rfl rfl (fun wq hQ => ov_index1 rfl Tryz.underlying23 (by kernel_rfl) rfl rfl ⟨by omega, by omega⟩ (by exact hqa (by omega))) ?_
       refine rk_v rfl rfl rfl (fun wq hQ => ov_load rfl Tryz.underlying3 rfl rfl (by exact hqrow _ (hQ.own).below _ (by omega) (by omega))) ?_
       refine rk_v rfl rfl rfl (fun wq hQ => ov_gtr rfl rfl rfl) ?_
       refine rk_nil (fun w52 hQ => ?_)
       first | refine run_cond_dec rfl (fun h5 => ?_) (fun h5 => ?_) | refine run_cond rfl (fun h5 => ?_) (fun h5 => ?_)
       ·refine run_region <| rl_v rfl rfl rfl (ov_move rfl rfl) <| rl_v rfl rfl rfl (ov_move rfl rfl) <| rl_v rfl rfl rfl (ov_move rfl rfl) <| rl_v rfl rfl rfl (ov_index1 rfl Tryz.underlying136 (by kernel_rfl) rfl rfl ⟨by omega, by omega⟩ (by rfl)) ?_
        refine rl_v rfl rfl rfl (ov_load rfl Tryz.underlying137 rfl rfl (by exact ((hQ.own).cellI 3 rfl (q : Int) hbr.1 hbr.2).trans (congrArg some (show ptr (cb (q : Int).toNat) = ptr (K q).cb from by rw [(hK q hqm).1]; rfl)))) ?_
        refine rl_v rfl rfl rfl (ov_iface rfl Tryz.underlying137 (by intro _ h; cases h) rfl) ?_
        refine rl_call callable_81 rfl rfl rfl rfl rfl rfl (pop5_any (K q).cb (K q).mb w.heap.size ((K q).n + 1) pc (rkL (f.be q) (f.bl q)) pa P' A' c' w _ _ (by omega) (by omega) hX.hp hX.ch hmp (hQ.own) hrp) (fun e53 w54 hp55 => ?_)
        obtain ⟨rfl, sv2, P2, A2, c2, hO2, hr2, hHP2, hCH2, hC2⟩ := hp55
        refine ⟨_, rfl, ?_⟩
        have hY := hX.pop hbr.1 (show 1 ≤ (K q).n + 1 by omega) hHP2 hCH2 hr2 hC2
        refine rl_v rfl rfl rfl (ov_assert rfl Tryz.underlying3 rfl rfl) <| rl_ow rfl (ow_one rfl rfl rfl Tryz.underlying23 info_3 rfl hO2 rfl rfl) ?_
        rintro _ w56 ⟨b9, rfl, hO57, hs58⟩
        refine rl_ow rfl (ow_app1 rfl rfl rfl Tryz.underlying23 info_3 rfl hO57 2 hcut rfl rfl rfl rfl ⟨by omega, by omega⟩) ?_
        rintro _ w59 ⟨v9, c9, rfl, hO60, hr9, hs61⟩
        obtain ⟨ao9, cap9, rfl⟩ := Row.val hr9
        refine rl_v rfl rfl rfl (ov_assign rfl rfl) <| rl_nil <| run_inBlock ?_
        refine Run.use (ih31 (ka - 1 + 1) (ao9) (cap9) (upd nx g (nx g + 1)) (updK K q ⟨(K q).cb, (K q).mb, sv2, c2, (K q).n + 1 - 1, P2, A2⟩) _ ?_ ?_) (And.intro rfl (And.intro rfl (And.intro rfl (And.intro rfl (And.intro rfl trivial)))))
        ·first | omega | (dsimp only; omega)
        ·exact ⟨c9, _, upd al ((ka - 1 : Nat) : Int) (P' 0), by omega, hr9.congr (fun i i0 i1 => by unfold upd; split <;> rfl), hS.swap hf hg hka hn1 hb hk (by omega) hX (show 1 ≤ (K q).n + 1 by omega) hY, hKu _ rfl rfl, hO60.crewBack hqm⟩
       ·refine run_skip <| run_inBlock ?_
        refine Run.use (ih31 (ka - 1) (ao) (cap) (upd nx g (nx g + 1)) (updK K q ⟨(K q).cb, (K q).mb, .slice pa ((K q).n + 1) pc, c', (K q).n + 1, P', A'⟩) _ ?_ ?_) (And.intro rfl (And.intro rfl (And.intro rfl (And.intro rfl (And.intro rfl trivial)))))
        ·first | omega | (dsimp only; omega)
        ·exact ⟨c, _, al, by omega, hcut, hS.take hf hg hka hn1 hb hk (by omega) hX, hKu _ rfl rfl, (hQ.own).crewBack hqm⟩
   ·have hend : ∀ g : Int, 0 ≤ g → g < f.n → l g = -1 → nx g = f.gl g := fun g g0 g1 hlg => by
     rcases hS.alo g g0 g1 hlg with ⟨i, i0, i1, _⟩ | e
     ·omega
     ·exact e
    have hlr : ∀ g : Int, 0 ≤ g → g < f.n → l g = -1 ∨ (0 ≤ l g ∧ l g < f.m) := (hS.da.stab hf hend).rng
    refine run_exit rfl <| run_seq <| run_seq <| run_region <| rl_v rfl rfl rfl (ov_move rfl rfl) <| rl_v rfl rfl rfl (ov_len rfl Tryz.underlying136 rfl) <| rl_v rfl rfl rfl (ov_move rfl rfl) <| rl_nil <| run_block <| Run.keep [3, 170, 171, 172] (F' := [(3, _), (170, _), (171, _), (172, _)]) rfl <| run_loop2 (fun (k : Int) (lo : Int → Int) => [(172, .int .i64 k)]) [3, 170, 171] (fun (k : Int) (lo : Int → Int) (w62 : World) => 0 ≤ k ∧ k ≤ f.m ∧ (∀ g : Int, 0 ≤ g → g < f.n → lo g = if l g < k then l g else -1) ∧ Own w.heap.size w w62 (c :: some (vch yb 137 f.m (fun i => ptr (cb i.toNat))) :: some (vch xb 3 f.n (fun g => iv (nx g))) :: some (vch ob 3 f.n (fun g => iv (lo g))) :: fam K f.m)) (fun (k : Int) (lo : Int → Int) => ((f.m : Int) - k).toNat) (0) (fun _ => -1) ?_ (And.intro (by exact slot_int rfl (by first | omega)) (And.intro rfl (And.intro rfl (And.intro rfl trivial)))) ?_
    ·exact ⟨by omega, by omega, fun g g0 g1 => by have := hlr g g0 g1; show (-1 : Int) = _; split <;> omega, hO⟩
    intro k lo w62 hIw62 ih63
    obtain ⟨hk0, hk1, hlo, hO⟩ := hIw62
    show Run _ _ _ _ [(172, _), (3, _), (170, _), (171, _)] _ _
    refine run_seq <| run_region <| rl_v rfl rfl rfl (ov_lss rfl rfl rfl) <| rl_nil <| run_seq ?_
    first | refine run_cond_dec rfl (fun h1 => ?_) (fun h1 => ?_) | refine run_cond rfl (fun h1 => ?_) (fun h1 => ?_)
    ·obtain ⟨q, rfl⟩ := Int.eq_ofNat_of_zero_le hk0
     have hqm : q < f.m := by omega
     have hCw := hS.cw q hqm
     have hcn := hCw.cn
     have hcq := hS.da.cnt q (by omega) (by omega)
     have hqr := hs.q q (by omega) (by omega)
     obtain ⟨pa, pc, hsv⟩ := Row.val hCw.row
     have hrw := hCw.row
     rw [hsv] at hrw
     have hOq := hO.crew (i := q) hqm
     refine run_skip <| run_seq <| run_block <| run_seq <| run_region <| rl_v rfl rfl rfl (ov_move rfl rfl) <| rl_v rfl rfl rfl (ov_index1 rfl Tryz.underlying136 (by kernel_rfl) rfl rfl ⟨by omega, by omega⟩ (by rfl)) ?_
     refine rl_v rfl rfl rfl (ov_load rfl Tryz.underlying137 rfl rfl (by exact (hO.cellI 1 rfl (q : Int) hk0 h1).trans (congrArg some (show ptr (cb (q : Int).toNat) = ptr (K q).cb from by rw [(hK q hqm).1]; rfl)))) ?_
     refine rl_v rfl rfl rfl (ov_assign rfl rfl) <| rl_v rfl rfl rfl (ov_assign rfl rfl) <| rl_nil <| run_seq <| run_region <| rl_v rfl rfl rfl (ov_move rfl rfl) <| rl_v rfl rfl rfl (ov_nil rfl rfl) <| rl_v rfl rfl rfl (ov_fieldS rfl Tryz.underlying139 rfl (fo := 1) rfl (by kernel_rfl) rfl) ?_
     refine rl_v rfl rfl rfl (ov_load rfl Tryz.underlying23 rfl rfl (by exact (hOq.cellL 1 rfl (off := 1) rfl).trans (congrArg some hsv))) ?_
     refine rl_v rfl rfl rfl (ov_len rfl Tryz.underlying23 rfl) <| rl_v rfl rfl rfl (ov_move rfl rfl) <| rl_nil <| run_block <| Run.keep [3, 11, 170, 171, 172, 180, 181, 182] (F' := [(3, _), (11, _), (170, _), (171, _), (172, _), (180, _), (181, _), (182, _)]) rfl <| run_loop2 (fun (j : Int) (l2 : Int → Int) => [(182, .int .i64 j)]) [3, 11, 170, 171, 172, 180, 181] (fun (j : Int) (l2 : Int → Int) (w64 : World) => 0 ≤ j ∧ j ≤ (K q).n ∧ (∀ g : Int, 0 ≤ g → g < f.n → (l2 g = l g ∧ (l g < q ∨ ∃ i : Int, 0 ≤ i ∧ i < j ∧ (K q).P i = g)) ∨ (l2 g = -1 ∧ (q : Int) ≤ l g ∧ ∀ i : Int, 0 ≤ i → i < j → (K q).P i ≠ g)) ∧ Own w.heap.size w w64 ((K q).c :: crB (K q) :: c :: some (vch yb 137 f.m (fun i => ptr (cb i.toNat))) :: some (vch xb 3 f.n (fun g => iv (nx g))) :: some (vch ob 3 f.n (fun g => iv (l2 g))) :: famR K f.m q)) (fun (j : Int) (l2 : Int → Int) => (((K q).n : Int) - j).toNat) (0) (lo) ?_ (And.intro (by exact slot_int rfl (by first | omega)) (And.intro rfl (And.intro rfl (And.intro rfl (And.intro rfl (And.intro rfl (And.intro rfl (And.intro rfl trivial)))))))) ?_
     ·exact ⟨by omega, by omega, fun g g0 g1 => by rw [hlo g g0 g1]; by_cases e : l g < q; (rw [if_pos e]; exact .inl ⟨rfl, .inl e⟩); (rw [if_neg e]; exact .inr ⟨rfl, by omega, fun i i0 i1 => by omega⟩), hOq⟩
     intro j l2 w64 hIw64 ih65
     obtain ⟨hj0, hj1, hl2, hO⟩ := hIw64
     show Run _ _ _ _ [(182, _), (3, _), (11, _), (170, _), (171, _), (172, _), (180, _), (181, _)] _ _
     obtain ⟨rb, hrb, hre⟩ := hrw.openS hO 0 rfl
     refine run_seq <| run_region <| rl_v rfl rfl rfl (ov_lss rfl rfl rfl) <| rl_nil <| run_seq ?_
     first | refine run_cond_dec rfl (fun h2 => ?_) (fun h2 => ?_) | refine run_cond rfl (fun h2 => ?_) (fun h2 => ?_)
     ·obtain ⟨hp1, hp2, _⟩ := hCw.mem hj0 h2
      refine run_skip <| run_seq <| run_block <| run_seq <| run_region <| rl_v rfl rfl rfl (ov_index1 rfl Tryz.underlying23 (by kernel_rfl) rfl rfl ⟨by omega, by omega⟩ (by exact hrb (by omega))) ?_
      refine rl_v rfl rfl rfl (ov_load rfl Tryz.underlying3 rfl rfl (by exact (hre j hj0 h2).trans (congrArg some (show crG (K q).P j = iv ((K q).P j) from rfl)))) ?_
      refine rl_v rfl rfl rfl (ov_assign rfl rfl) <| rl_nil <| run_region <| rl_v rfl rfl rfl (ov_move rfl rfl) <| rl_v rfl rfl rfl (ov_move rfl rfl) <| rl_v rfl rfl rfl (ov_move rfl rfl) <| rl_v rfl rfl rfl (ov_index1 rfl Tryz.underlying23 (by kernel_rfl) rfl rfl ⟨by omega, by omega⟩ (by rfl)) ?_
      refine rl_ow rfl (ow_storeI rfl rfl (by kernel_rfl) hO 5 rfl rfl ⟨by omega, by omega⟩ rfl) ?_
      rintro _ w66 ⟨rfl, hO67, hs68⟩
      have hl3 : ∀ g : Int, 0 ≤ g → g < f.n → (upd l2 ((K q).P j) (q : Int) g = l g ∧ (l g < q ∨ ∃ i : Int, 0 ≤ i ∧ i < j + 1 ∧ (K q).P i = g)) ∨ (upd l2 ((K q).P j) (q : Int) g = -1 ∧ (q : Int) ≤ l g ∧ ∀ i : Int, 0 ≤ i → i < j + 1 → (K q).P i ≠ g) := fun g g0 g1 => by
       by_cases e : g = (K q).P j
       ·rw [e, upd_same]
        exact .inl ⟨hp2.symm, .inr ⟨j, hj0, by omega, rfl⟩⟩
       ·rw [upd_ne _ _ e]
        rcases hl2 g g0 g1 with ⟨e1, e2⟩ | ⟨e1, e2, e3⟩
        ·exact .inl ⟨e1, e2.imp id fun ⟨i, i0, i1, e4⟩ => ⟨i, i0, by omega, e4⟩⟩
        ·refine .inr ⟨e1, e2, fun i i0 i1 => ?_⟩
         by_cases e5 : i = j
         ·rw [e5]; exact fun e6 => e e6.symm
         ·exact e3 i i0 (by omega)
      refine rl_nil <| run_inBlock <| run_region <| rl_v rfl rfl rfl (ov_add rfl rfl rfl (by omega)) ?_
      refine rl_v rfl rfl rfl (ov_move rfl rfl) <| rl_nil ?_
      refine Run.use (ih65 (j + 1) (upd l2 ((K q).P j) q) _ ?_ ?_) (And.intro (by exact slot_int rfl (by first | omega)) (And.intro rfl (And.intro rfl (And.intro rfl (And.intro rfl (And.intro rfl (And.intro rfl (And.intro rfl trivial))))))))
      ·first | omega | (dsimp only; omega)
      ·exact ⟨by omega, by omega, hl3, hO67⟩
     ·have hl4 : ∀ g : Int, 0 ≤ g → g < f.n → l2 g = if l g < (q : Int) + 1 then l g else -1 := fun g g0 g1 => by
       rcases hl2 g g0 g1 with ⟨e1, e2⟩ | ⟨e1, e2, e3⟩
       ·rcases e2 with e2 | ⟨i, i0, i1, e2⟩
        ·rw [if_pos (by omega), e1]
        ·have := (hCw.mem i0 (by omega)).2.1
         rw [e2] at this
         rw [if_pos (by omega), e1]
       ·by_cases e : l g = q
        ·obtain ⟨i, i0, i1, e4⟩ := hCw.find g0 g1 e
         exact absurd e4 (e3 i i0 (by omega))
        ·rw [if_neg (by omega), e1]
      have hOb := hO.crewBack (x := K q) hqm
      have hKK : updK K q (K q) = K := by funext b; unfold updK; split; (rename_i e; rw [e]); rfl
      rw [hKK] at hOb
      refine run_exit rfl <| run_inBlock <| run_region <| rl_v rfl rfl rfl (ov_add rfl rfl rfl (by omega)) ?_
      refine rl_v rfl rfl rfl (ov_move rfl rfl) <| rl_nil ?_
      refine Run.use (ih63 ((q : Int) + 1) (l2) _ ?_ ?_) (And.intro (by exact slot_int rfl (by first | omega)) (And.intro rfl (And.intro rfl (And.intro rfl trivial))))
      ·first | omega | (dsimp only; omega)
      ·exact ⟨by omega, by omega, hl4, hOb⟩
    ·refine run_exit rfl <| run_seq <| run_region <| rl_v rfl rfl rfl (ov_move rfl rfl) <| rl_v rfl rfl rfl (ov_assign rfl rfl) <| rl_nil <| run_ret Tryz.func42 (res1 Tryz.results42 rfl) ?_
     exact ⟨ob, l, nx, rfl, (hO.congrI 3 rfl (G' := fun g => iv (l g)) fun g g0 g1 => congrArg iv (by have := hlr g g0 g1; rw [hlo g g0 g1, if_pos (by omega)])).sub (.cons _ (.cons _ (.cons _ (.cons_cons _ (List.nil_sublist _))))), hS.da, hend⟩
end Go.Proofs.YtlldeifbfpmbaaaGreat
