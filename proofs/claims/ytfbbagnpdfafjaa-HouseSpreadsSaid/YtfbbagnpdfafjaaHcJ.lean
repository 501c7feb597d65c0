import Derived.Test.YtfbbagnpdfafjaaHcI
set_option maxRecDepth 100000
namespace Go.Proofs.Ytfbbagnpdfafjaa
open Go.RowKit Go.Proofs
theorem resWWV {P : Program} {N : Nat} {F : Fr} {w : World} {fn : Func} {t ty u tyu s : Nat} {b b2 B : Nat} {t2 t3 : TypeId} {w0 : World} {H : List (Option Blk)} {dd dd2 : TypeDesc} {vs us : List Value} {x : Value} (hr : fn.results = #[.cell t ty, .cell u tyu, .tmp s]) (hv : Fr.get F t = some (.pointer (some ⟨b, 0, none⟩))) (hx : Fr.get F u = some (.pointer (some ⟨b2, 0, none⟩))) (hy : Fr.get F s = some x)
  (hT : P.underlying ty = some dd) (hd : dd.isRow = true) (hi : (P.info? ty).map (·.size) = some vs.length) (hT2 : P.underlying tyu = some dd2) (hd2 : dd2.isRow = true) (hi2 : (P.info? tyu).map (·.size) = some us.length) (hO : Own B w0 w H) (k j : Nat) (hk : H[k]? = some (some (lch b t2 vs))) (hj : H[j]? = some (some (lch b2 t3 us))) : ∀ a, Holds N F a → (results fn a.tmps).run P w = .ok (.tuple #[.agg vs.toArray, .agg us.toArray, x]) w := by
 intro a ha
 have h1 := ha.at_ t _ hv
 have h3 := ha.at_ u _ hx
 have h5 := ha.at_ s _ hy
 have h2 := run_loadVar_mid (P := P) w b 0 ty vs dd (hO.rangeL k hk) hT hd hi
 have h4 := run_loadVar_mid (P := P) w b2 0 tyu us dd2 (hO.rangeL j hj) hT2 hd2 hi2
 simp [results, hr, Array.getD_eq_getD_getElem?, h1, h3, h5, asAddr, h2, h4, Result.andThen]
theorem upd_upd {f : Int → Int} {m a b : Int} : upd (upd f m a) m b = upd f m b := by funext j; unfold upd; split <;> rfl
noncomputable def tkH (X : HM) (i m s : Int) (out : Int → Int) (k j : Int) : HA := if j < k then { X.tkG i m j with pos := upd (X.tkG i m j).pos m ((X.tkG i m j).pos m + s * out j) } else X.tkG i m j
theorem shr_zero {total : Int} {n : Nat} {W out : Int → Int} (h : Shr total n W out) (hW : ∀ i : Int, 0 ≤ i → i < n → 0 ≤ W i) (ht : total = 0) : ∀ i : Int, 0 ≤ i → i < n → out i = 0 := fun i i0 i1 => by
 have h0 := h.nonneg hW (by omega)
 have h1 := sm_pos h0 i i0 i1
 have h2 := h.sum
 have h3 := h0 i i0 i1
 split at h2 <;> omega
theorem tkP_of {X : HM} {i m : Int} {out : Int → Int} (hi : 1 ≤ i ∧ i ≤ X.mem) (hZ : HZ X) (m0 : 0 ≤ m) (m1 : m < 12) (h : Shr (sgn ((X.acct i).pos m) * (X.acct i).pos m) X.mem (X.wt i m (sgn ((X.acct i).pos m))) out) {j : Int} (j0 : 0 ≤ j) (j1 : j < X.mem) :
  (j ≠ i - 1 → X.tkP i j m = (X.ac j).pos m + sgn ((X.acct i).pos m) * out j) ∧ (j = i - 1 → out j = 0) := by
 have hW : ∀ j : Int, 0 ≤ j → j < X.mem → 0 ≤ X.wt i m (sgn ((X.acct i).pos m)) j := fun j _ _ => wt_nonneg _ _ _ _ _
 have ht : 0 ≤ sgn ((X.acct i).pos m) * (X.acct i).pos m := by rw [sgn_mul]; omega
 have hle := wt_sum hZ hi m0 m1 (sgn_one ((X.acct i).pos m))
 refine ⟨fun hj => ?_, fun hj => ?_⟩
 ·unfold HM.tkP
  by_cases c : (X.acct i).pos m = 0
  ·rw [if_pos c, shr_zero h hW (by rw [c, Int.mul_zero]) j j0 j1, Int.mul_zero, Int.add_zero]
  ·rw [if_neg c, if_neg hj, shF_eq h j j0 j1]
 ·have h1 := h.le hW ht hle j j0 j1
  have hw : X.wt i m (sgn ((X.acct i).pos m)) j = 0 := by
   unfold HM.wt HM.othP
   rw [if_neg (by rw [hj]; simp)]
  omega
theorem tkH_step {X : HM} {i m s k : Int} {out : Int → Int} (j : Int) : upd (tkH X i m s out k) k { tkH X i m s out k k with pos := upd (tkH X i m s out k k).pos m ((tkH X i m s out k k).pos m + s * out k) } j = tkH X i m s out (k + 1) j := by
 have hk : tkH X i m s out k k = X.tkG i m k := if_neg (by omega)
 unfold upd
 by_cases e : j = k
 ·rw [if_pos e, hk, e]
  unfold tkH
  rw [if_pos (by omega)]
  rfl
 ·rw [if_neg e]
  unfold tkH
  by_cases c : j < k
  ·rw [if_pos c, if_pos (by omega)]
  ·rw [if_neg c, if_neg (by omega)]
theorem tkH_pos {X : HM} {i m s k j : Int} {out : Int → Int} (h : k ≤ j) : (tkH X i m s out k j).pos m = (X.ac j).pos m := by
 unfold tkH
 rw [if_neg (by omega)]
 exact tkG_pos X i m j
theorem tkH_done {X : HM} {i m : Int} {out : Int → Int} (hi : 1 ≤ i ∧ i ≤ X.mem) (hZ : HZ X) (m0 : 0 ≤ m) (m1 : m < 12) (h : Shr (sgn ((X.acct i).pos m) * (X.acct i).pos m) X.mem (X.wt i m (sgn ((X.acct i).pos m))) out) {j : Int} (j0 : 0 ≤ j) (j1 : j < X.mem) :
  upd (tkH X i m (sgn ((X.acct i).pos m)) out X.mem) (i - 1) { tkH X i m (sgn ((X.acct i).pos m)) out X.mem (i - 1) with pos := upd (tkH X i m (sgn ((X.acct i).pos m)) out X.mem (i - 1)).pos m ((tkH X i m (sgn ((X.acct i).pos m)) out X.mem (i - 1)).pos m + -(X.acct i).pos m) } j = X.tkG i (m + 1) j := by
 have hp := tkP_of hi hZ m0 m1 h j0 j1
 have hk : tkH X i m (sgn ((X.acct i).pos m)) out X.mem j = { X.tkG i m j with pos := upd (X.tkG i m j).pos m ((X.tkG i m j).pos m + sgn ((X.acct i).pos m) * out j) } := if_pos j1
 by_cases e : j = i - 1
 ·rw [e] at hk hp ⊢
  rw [upd_same, hk]
  dsimp only
  rw [upd_same, upd_upd, tkG_pos, hp.2 rfl]
  refine tkG_upd ?_
  unfold HM.tkP
  have hx : (X.ac (i - 1)).pos m = (X.acct i).pos m := rfl
  by_cases c : (X.acct i).pos m = 0
  ·rw [if_pos c, hx, c]
   omega
  ·rw [if_neg c, if_pos rfl, hx]
   omega
 ·rw [upd_ne _ _ e, hk, tkG_pos]
  exact tkG_upd (hp.1 e).symm
theorem d0_of {R : List (Option Blk)} {X : HM} {K : GK} {pb ab cb : Option Blk} {qb : Nat → Option Blk} {i : Int} (hX : 1 ≤ X.mo ∧ X.mo ≤ 12) (h : GRo R { X with ac := X.tkG i X.mo } K pb ab cb qb) : GRo R (X.d0 i) K pb ab cb qb := by
 have hmn := X.mn_eq hX.1
 refine ⟨h.pr, h.ar, h.cr, fun j hj => (h.qr j hj).congr fun m m0 m1 => ?_, h.ms, h.vv⟩
 have hm : m < X.mo := by rw [← hmn]; exact m1
 show iv (if m < X.mo then X.tkP i j m else (X.ac j).pos m) = iv (if m < 12 then X.tkP i j m else (X.ac j).pos m)
 rw [if_pos hm, if_pos (by omega)]
theorem tk_zero {R : List (Option Blk)} {X : HM} {K : GK} {pb ab cb : Option Blk} {qb : Nat → Option Blk} (i : Int) (h : GRo R X K pb ab cb qb) : GRo R { X with ac := X.tkG i 0 } K pb ab cb qb := by
 refine ⟨h.pr, h.ar, h.cr, fun j hj => (h.qr j hj).congr fun m m0 m1 => ?_, h.ms, h.vv⟩
 show iv ((X.ac j).pos m) = iv (if m < 0 then X.tkP i j m else (X.ac j).pos m)
 rw [if_neg (by omega)]
theorem srcI_vch {b n : Nat} {g : Int → Int} {H : List (Option Blk)} (k : Nat) (hk : H[k]? = some (some (vch b 2 n (fun i => iv (g i))))) (hn : n ≤ 9223372036854775807) : SrcI H (some ⟨b, 0, none⟩) n g := fun _ _ _ hO => (IRow.mk1 b 2 n (fun i => iv (g i)) hn).reads hO k hk
theorem gSum_any (ao : Option Addr) (n c B : Nat) (W : Int → Int) (H : List (Option Blk)) (w0 w : World) (hO : Own B w0 w H) (hs : SrcI H ao n W) (hn : n < 20) (hW : ∀ i : Int, 0 ≤ i → i < n → 0 ≤ W i ∧ W i ≤ 100000000000000000) :
  Calls Try.prog 125 #[.slice ao n c] w fun e w' => e = .returned (iv (sm W n)) ∧ Own B w0 w' H := by
 have hSn : ∀ k : Int, 0 ≤ k → k ≤ n → 0 ≤ sm W k ∧ sm W k ≤ k * 100000000000000000 := fun k k0 k1 => ⟨sm_nonneg fun i i0 i1 => (hW i i0 (by omega)).1, sm_bound _ k0 fun i i0 i1 => (hW i i0 (by omega)).2⟩
 have hSN := hSn n (by omega) (by omega)
 have hs0 : sm W 0 = 0 := rfl
 refine calls_of_run (F := [(0, _)]) Try.func125 rfl Try.ntmps125 rfl rfl <| run_seq <| run_region <| rl_v rfl rfl rfl (ov_assign rfl rfl) <| rl_nil <| run_seq <| run_region <| rl_v rfl rfl rfl (ov_assign rfl rfl) <| rl_nil <| run_seq <| run_seq <| run_region <| rl_v rfl rfl rfl (ov_assign rfl rfl) <| rl_nil <| run_block <| Run.keep [0, 3, 4] (F' := [(0, _), (3, _), (4, _)]) rfl <| run_loop1 (fun (k : Int) => [(3, .int .i64 (sm W k)), (4, .int .i64 k)]) [0] (fun (k : Int) (w1 : World) => (0 ≤ k ∧ k ≤ n) ∧ Own B w0 w1 H) (fun (k : Int) => ((n : Int) - k).toNat) (0) ?_ (And.intro (by exact slot_int rfl (by first | omega)) (And.intro (by exact slot_int rfl (by first | omega)) (And.intro rfl trivial))) ?_
 ·exact ⟨by omega, hO⟩
 intro k w1 hIw1 ih2
 obtain ⟨hk, hO1⟩ := hIw1
 show Run _ _ _ _ [(3, _), (4, _), (0, _)] _ _
 refine run_seq <| run_seq <| run_region <| rl_v rfl rfl rfl (ov_move rfl rfl) <| rl_v rfl rfl rfl (ov_move rfl rfl) <| rl_v rfl rfl rfl (ov_len rfl Try.underlying22 rfl) <| rl_v rfl rfl rfl (ov_lss rfl rfl rfl) <| rl_nil ?_
 first | refine run_cond_dec rfl (fun h1 => ?_) (fun h1 => ?_) | refine run_cond rfl (fun h1 => ?_) (fun h1 => ?_)
 ·obtain ⟨gb, go, hga, hrow⟩ := (hs B w0 w1 hO1).open
  have hk1 := hSn k (by omega) (by omega)
  have hwk := hW k (by omega) (by omega)
  have hsu := sm_succ W (k := k) (by omega)
  refine run_skip <| run_seq <| run_block <| run_region <| rl_v rfl rfl rfl (ov_move rfl rfl) <| rl_v rfl rfl rfl (ov_move rfl rfl) <| rl_v rfl rfl rfl (ov_move rfl rfl) <| rl_v rfl rfl rfl (ov_index1 rfl Try.underlying22 (by kernel_rfl) rfl rfl ⟨by omega, by omega⟩ (by exact (hga (by omega)))) ?_
  refine rl_v rfl rfl rfl (ov_load rfl Try.underlying2 rfl rfl (by exact hrow _ (Below.refl _ _) k (by omega) (by omega))) ?_
  refine rl_v rfl rfl rfl (ov_add rfl rfl rfl (by omega)) ?_
  refine rl_v rfl rfl rfl (ov_assign rfl rfl) <| rl_nil <| run_inBlock <| run_region <| rl_v rfl rfl rfl (ov_move rfl rfl) <| rl_v rfl rfl rfl (ov_add rfl rfl rfl (by omega)) ?_
  refine rl_v rfl rfl rfl (ov_assign rfl rfl) <| rl_nil ?_
  refine Run.use (ih2 (k + 1) _ ?_ ?_) (And.intro (by exact slot_int rfl (by first | omega)) (And.intro (by exact slot_int rfl (by first | omega)) (And.intro rfl trivial)))
  ·first | omega | (dsimp only; omega)
  ·exact ⟨by omega, hO1⟩
 ·obtain rfl : k = n := by omega
  refine run_exit rfl <| run_seq <| run_region <| rl_v rfl rfl rfl (ov_move rfl rfl) <| rl_v rfl rfl rfl (ov_assign rfl rfl) <| rl_nil <| run_ret Try.func125 (res1 Try.results125 rfl) ?_
  exact ⟨rfl, hO1⟩
end Go.Proofs.Ytfbbagnpdfafjaa
