import Derived.Test.YtbepolognfdkeaaGreatHlF
import Derived.Test.YtbepolognfdkeaaGreatFcA
set_option maxRecDepth 100000
namespace Go.Proofs.YtbepolognfdkeaaGreat
open Go.RowKit Go.Proofs Go.MapKept
def Rows5 (W : Wish) (rb cp : Int → Nat) (M : List (Option Blk)) : Prop :=
 (∀ i : Int, 0 ≤ i → i < W.n → W.l i ≤ cp i ∧ cp i ≤ maxLen) ∧ ∀ (B : Nat) (w0 w : World), Own B w0 w M → ∀ i k : Int, 0 ≤ i → i < W.n → 0 ≤ k → k < W.l i → w.cell? ⟨rb i, 0 + k.toNat, none⟩ = some (iv (W.e i k))
def hdr (W : Wish) (rb cp p : Int → Nat) (i : Int) : Value := .slice (some ⟨rb i, p i, none⟩) (W.l i - p i) (cp i - p i)
def updN (p : Int → Nat) (i : Int) (q : Nat) : Int → Nat := fun j => if j = i then q else p j
theorem updN_self (p : Int → Nat) (i : Int) : updN p i (p i) = p := by
 funext j; unfold updN; split
 ·rename_i e; rw [e]
 ·rfl
theorem updN_same (p : Int → Nat) (i : Int) (q : Nat) : updN p i q i = q := if_pos rfl
theorem hdr_upd (W : Wish) (rb cp p : Int → Nat) (i : Int) (q : Nat) (j : Int) : upd (hdr W rb cp p) i (.slice (some ⟨rb i, q, none⟩) (W.l i - q) (cp i - q)) j = hdr W rb cp (updN p i q) j := by
 unfold upd hdr updN
 by_cases e : j = i
 ·subst e; rw [if_pos rfl, if_pos rfl]
 ·rw [if_neg e, if_neg e]
def varW (tg gbk tw wb : Nat) (W : Wish) (rb cp p : Int → Nat) (gone : Int → Bool) (T : List (Option Blk)) : List (Option Blk) :=
 some (lch tg 92 [.slice (some ⟨gbk, 0, none⟩) W.n W.n]) :: some (vch gbk 4 W.n (fun j => .bool (gone j))) :: some (lch tw 69 [.slice (some ⟨wb, 0, none⟩) W.n W.n]) :: some (vch wb 36 W.n (hdr W rb cp p)) :: T
theorem points_any (tg gbk tw wb B : Nat) (W : Wish) (rb cp p : Int → Nat) (gone : Int → Bool) (i : Int) (M T : List (Option Blk)) (w0 w : World) (hW : W.Ok) (hn : W.n ≤ 1000000) (hR : Rows5 W rb cp M) (hM : M.Sublist T) (i0 : 0 ≤ i) (i1 : i < W.n) (hl : W.l i ≤ 1000000) (hg : gone i = false) (hp1 : p i < W.l i) (hp : ∀ k : Int, 0 ≤ k → k < p i → gone (W.e i k) = true) (hO : Own B w0 w (varW tg gbk tw wb W rb cp p gone T)) :
  Calls Tryz.prog 122 #[iv i, ptr tg, ptr tw] w fun e w' => ∃ q : Nat, q < W.l i ∧ (∀ k : Int, 0 ≤ k → k < q → gone (W.e i k) = true) ∧ gone (W.e i q) = false ∧ e = .returned (iv (W.e i q)) ∧ Own B w0 w' (varW tg gbk tw wb W rb cp (updN p i q) gone T) := by
 have hcp := hR.1 i i0 i1
 have hmx : maxLen = 9223372036854775807 := rfl
 refine calls_of_run (F := [(0, _), (1, _), (2, _)]) Tryz.func122 rfl Tryz.ntmps122 rfl rfl <| run_seq <| run_region <| rl_v rfl rfl rfl (ov_assign rfl rfl) <| rl_nil <| run_seq <| run_block <| Run.keep [0, 1, 2] (F' := [(0, _), (1, _), (2, _)]) rfl <| run_loop1 (fun (q : Nat) => []) [0, 1, 2] (fun (q : Nat) (w1 : World) => q < W.l i ∧ (∀ k : Int, 0 ≤ k → k < q → gone (W.e i k) = true) ∧ Own B w0 w1 (varW tg gbk tw wb W rb cp (updN p i q) gone T)) (fun (q : Nat) => W.l i - q) (p i) ?_ (And.intro rfl (And.intro rfl (And.intro rfl trivial))) ?_
 ·exact ⟨hp1, hp, by rw [updN_self]; exact hO⟩
 intro q w1 hIw1 ih2
 obtain ⟨hq1, hq, hO⟩ := hIw1
 show Run _ _ _ _ [(0, _), (1, _), (2, _)] _ _
 have hrow := hR.2 B w0 _ (hO.sub ((((hM.cons _).cons _).cons _).cons _)) i q i0 i1 (by omega) (by omega)
 have her := hW.rng i q i0 i1 (by omega) (by omega)
 have hu := updN_same p i q
 have hr1 : World.cell? w1 ⟨rb i, updN p i q i + Int.toNat 0, none⟩ = some (iv (W.e i q)) := by rw [hu, show q + Int.toNat 0 = 0 + (q : Int).toNat by simp]; exact hrow
 refine run_seq <| run_seq <| run_quiet mixed (by kernel_rfl) ?_
 refine rq_v rfl rfl rfl (fun _ => ov_load rfl Tryz.underlying92 rfl rfl (by show World.cell? w1 _ = _; first | exact hO.cellI 0 rfl _ (by omega) (by omega) | exact hO.cellL 0 rfl rfl | exact hO.cellI 1 rfl _ (by omega) (by omega) | exact hO.cellL 1 rfl rfl | exact hO.cellI 2 rfl _ (by omega) (by omega) | exact hO.cellL 2 rfl rfl | exact hO.cellI 3 rfl _ (by omega) (by omega) | exact hO.cellL 3 rfl rfl | exact hO.cellI 4 rfl _ (by omega) (by omega) | exact hO.cellL 4 rfl rfl | exact hO.cellI 5 rfl _ (by omega) (by omega) | exact hO.cellL 5 rfl rfl)) ?_
 refine rq_v rfl rfl rfl (fun _ => ov_load rfl Tryz.underlying69 rfl rfl (by show World.cell? w1 _ = _; first | exact hO.cellI 0 rfl _ (by omega) (by omega) | exact hO.cellL 0 rfl rfl | exact hO.cellI 1 rfl _ (by omega) (by omega) | exact hO.cellL 1 rfl rfl | exact hO.cellI 2 rfl _ (by omega) (by omega) | exact hO.cellL 2 rfl rfl | exact hO.cellI 3 rfl _ (by omega) (by omega) | exact hO.cellL 3 rfl rfl | exact hO.cellI 4 rfl _ (by omega) (by omega) | exact hO.cellL 4 rfl rfl | exact hO.cellI 5 rfl _ (by omega) (by omega) | exact hO.cellL 5 rfl rfl)) ?_
 refine rq_v rfl rfl rfl (fun _ => ov_move rfl rfl) ?_
 refine rq_v rfl rfl rfl (fun _ => ov_index1 rfl Tryz.underlying69 (by kernel_rfl) rfl rfl ⟨by omega, by omega⟩ rfl) ?_
 refine rq_v rfl rfl rfl (fun _ => ov_load rfl Tryz.underlying36 rfl rfl (by show World.cell? w1 _ = _; first | exact hO.cellI 0 rfl _ (by omega) (by omega) | exact hO.cellL 0 rfl rfl | exact hO.cellI 1 rfl _ (by omega) (by omega) | exact hO.cellL 1 rfl rfl | exact hO.cellI 2 rfl _ (by omega) (by omega) | exact hO.cellL 2 rfl rfl | exact hO.cellI 3 rfl _ (by omega) (by omega) | exact hO.cellL 3 rfl rfl | exact hO.cellI 4 rfl _ (by omega) (by omega) | exact hO.cellL 4 rfl rfl | exact hO.cellI 5 rfl _ (by omega) (by omega) | exact hO.cellL 5 rfl rfl)) ?_
 refine rq_v rfl rfl rfl (fun _ => ov_index1 rfl Tryz.underlying36 (by kernel_rfl) rfl rfl ⟨by omega, by omega⟩ rfl) ?_
 refine rq_v rfl rfl rfl (fun _ => ov_load rfl Tryz.underlying3 rfl rfl (by show World.cell? w1 _ = _; first | exact id hr1)) ?_
 refine rq_v rfl rfl rfl (fun _ => ov_index1 rfl Tryz.underlying92 (by kernel_rfl) rfl rfl ⟨by omega, by omega⟩ rfl) ?_
 refine rq_v rfl rfl rfl (fun _ => ov_load rfl Tryz.underlying4 rfl rfl (by show World.cell? w1 _ = _; first | exact hO.cellI 0 rfl _ (by omega) (by omega) | exact hO.cellL 0 rfl rfl | exact hO.cellI 1 rfl _ (by omega) (by omega) | exact hO.cellL 1 rfl rfl | exact hO.cellI 2 rfl _ (by omega) (by omega) | exact hO.cellL 2 rfl rfl | exact hO.cellI 3 rfl _ (by omega) (by omega) | exact hO.cellL 3 rfl rfl | exact hO.cellI 4 rfl _ (by omega) (by omega) | exact hO.cellL 4 rfl rfl | exact hO.cellI 5 rfl _ (by omega) (by omega) | exact hO.cellL 5 rfl rfl)) ?_
 refine rq_nil (fun n3 => ?_)
 have hO5 := hO.drewN n3
 generalize World.drewN w1 n3 = w4 at hO5 ⊢
 first | refine run_cond_dec rfl (fun h1 => ?_) (fun h1 => ?_) | refine run_cond rfl (fun h1 => ?_) (fun h1 => ?_)
 ·have hne : (q : Int) ≠ (W.l i : Int) - 1 := fun e => by
   rw [e, hW.own i i0 i1, hg] at h1
   exact Bool.noConfusion h1
  have hq2 : q + 1 < W.l i := by omega
  refine run_skip <| run_block <| run_late (fun w' => Own B w0 w' (varW tg gbk tw wb W rb cp (updN p i q) gone T)) 8 mixed ?_
  have hO7 := hO5.drew
  generalize World.drew w4 = w6 at hO7 ⊢
  have hS8 : Own B w0 w6 (varW tg gbk tw wb W rb cp (updN p i q) gone T) := by exact hO7
  refine rhl_v 0 rfl (by kernel_rfl) rfl rfl rfl hS8 (fun _ hS => ov_load rfl Tryz.underlying69 rfl rfl (by exact hS.cellL 2 rfl rfl)) ?_
  refine rhl_v 1 rfl (by kernel_rfl) rfl rfl rfl hS8 (fun _ hS => ov_move rfl rfl) ?_
  refine rhl_v 2 rfl (by kernel_rfl) rfl rfl rfl hS8 (fun _ hS => ov_load rfl Tryz.underlying69 rfl rfl (by exact hS.cellL 2 rfl rfl)) ?_
  refine rhl_v 3 rfl (by kernel_rfl) rfl rfl rfl hS8 (fun _ hS => ov_move rfl rfl) ?_
  refine rhl_v 4 rfl (by kernel_rfl) rfl rfl rfl hS8 (fun _ hS => ov_index1 rfl Tryz.underlying69 (by kernel_rfl) rfl rfl ⟨by omega, by omega⟩ rfl) ?_
  refine rhl_v 5 rfl (by kernel_rfl) rfl rfl rfl hS8 (fun _ hS => ov_load rfl Tryz.underlying36 rfl rfl (by exact hS.cellI 3 rfl _ (by omega) (by omega))) ?_
  refine rhl_v 6 rfl (by kernel_rfl) rfl rfl rfl hS8 (fun _ hS => ov_sliceL rfl Tryz.underlying36 (by kernel_rfl) (s := 1) rfl rfl ⟨by omega, by omega⟩ (by omega) rfl) ?_
  refine rhl_v 7 rfl (by kernel_rfl) rfl rfl rfl hS8 (fun _ hS => ov_index1 rfl Tryz.underlying69 (by kernel_rfl) rfl rfl ⟨by omega, by omega⟩ rfl) ?_
  refine rhl_any1 8 (by kernel_rfl) ?_
  refine rcl_last rfl rfl (ow_store rfl rfl (by kernel_rfl) hO7 3 rfl rfl ⟨by omega, by omega⟩ rfl rfl) ?_
  rintro _ w9 ⟨rfl, hO10, hs11⟩
  have hst : ∀ j : Int, 0 ≤ j → j < W.n → upd (hdr W rb cp (updN p i q)) i (.slice (some ⟨rb i, updN p i q i + Int.toNat 1 * 1, none⟩) (W.l i - updN p i q i - Int.toNat 1) (cp i - updN p i q i - Int.toNat 1)) j = hdr W rb cp (updN p i (q + 1)) j := fun j _ _ => by
   have e1 : Int.toNat 1 = 1 := rfl
   rw [hu, e1, Nat.mul_one, Nat.sub_sub, Nat.sub_sub, hdr_upd]
   unfold hdr updN
   by_cases e : j = i <;> simp [e]
  refine rhl_done (by kernel_rfl) ?_
  refine run_inBlock ?_
  refine Run.use (ih2 (q + 1) _ ?_ ?_) (And.intro rfl (And.intro rfl (And.intro rfl trivial)))
  ·first | omega | (dsimp only; omega)
  ·exact ⟨hq2, fun k k0 k1 => by by_cases e : k = q; (rw [e]; exact h1); (exact hq k k0 (by omega)), hO10.congrI 3 rfl hst⟩
 ·have hr2 : World.cell? w4 ⟨rb i, updN p i q i + Int.toNat 0, none⟩ = some (iv (W.e i q)) := by rw [hu, show q + Int.toNat 0 = 0 + (q : Int).toNat by simp]; exact hR.2 B w0 _ (hO5.sub ((((hM.cons _).cons _).cons _).cons _)) i q i0 i1 (by omega) (by omega)
  refine run_exit rfl <| run_seq <| run_region <| rl_v rfl rfl rfl (ov_load rfl Tryz.underlying69 rfl rfl (by exact hO5.cellL 2 rfl rfl)) ?_
  refine rl_v rfl rfl rfl (ov_move rfl rfl) <| rl_v rfl rfl rfl (ov_index1 rfl Tryz.underlying69 (by kernel_rfl) rfl rfl ⟨by omega, by omega⟩ rfl) ?_
  refine rl_v rfl rfl rfl (ov_load rfl Tryz.underlying36 rfl rfl (by exact hO5.cellI 3 rfl _ (by omega) (by omega))) ?_
  refine rl_v rfl rfl rfl (ov_index1 rfl Tryz.underlying36 (by kernel_rfl) rfl rfl ⟨by omega, by omega⟩ rfl) ?_
  refine rl_v rfl rfl rfl (ov_load rfl Tryz.underlying3 rfl rfl (by exact id hr2)) ?_
  refine rl_v rfl rfl rfl (ov_assign rfl rfl) <| rl_nil <| run_ret Tryz.func122 (res1 Tryz.results122 rfl) ?_
  exact ⟨q, hq1, hq, h1, rfl, hO5⟩
end Go.Proofs.YtbepolognfdkeaaGreat
set_option maxRecDepth 100000
namespace Go.Proofs.YtbepolognfdkeaaGreat
open Go.RowKit Go.Proofs
namespace Wish
def Top (W : Wish) (gone : Int → Bool) (i x : Int) : Prop := ∃ q : Int, 0 ≤ q ∧ q < W.l i ∧ (∀ k : Int, 0 ≤ k → k < q → gone (W.e i k) = true) ∧ gone (W.e i q) = false ∧ W.e i q = x
theorem Top.rng {W : Wish} (hW : W.Ok) {gone : Int → Bool} {i x : Int} (i0 : 0 ≤ i) (i1 : i < W.n) (h : W.Top gone i x) : (0 ≤ x ∧ x < W.n) ∧ gone x = false := by
 obtain ⟨q, q0, q1, _, hg, rfl⟩ := h
 exact ⟨hW.rng i q i0 i1 q0 q1, hg⟩
def nxt (m j : Int) : Int := if j + 1 = m then 0 else j + 1
theorem nxt_rng {m j : Int} (j0 : 0 ≤ j) (j1 : j < m) : 0 ≤ nxt m j ∧ nxt m j < m := by unfold nxt; split <;> omega
theorem nxt_inj {m a b : Int} (a0 : 0 ≤ a) (a1 : a < m) (b0 : 0 ≤ b) (b1 : b < m) (h : nxt m a = nxt m b) : a = b := by unfold nxt at h; split at h <;> split at h <;> omega
structure Ring (W : Wish) (gone : Int → Bool) (m : Int) (r : Int → Int) : Prop where
 pos : 1 ≤ m
 rng : ∀ j : Int, 0 ≤ j → j < m → (0 ≤ r j ∧ r j < W.n) ∧ gone (r j) = false
 dis : ∀ a b : Int, 0 ≤ a → a < m → 0 ≤ b → b < m → r a = r b → a = b
 top : ∀ j : Int, 0 ≤ j → j < m → W.Top gone (r j) (r (nxt m j))
def turn (m a : Int) (r : Int → Int) : Int → Int := fun k => if k < m - a then r (a + k) else r (k - (m - a))
def tix (m a k : Int) : Int := if k < m - a then a + k else k - (m - a)
theorem turn_tix (m a : Int) (r : Int → Int) (k : Int) : turn m a r k = r (tix m a k) := by unfold turn tix; split <;> rfl
theorem tix_rng {m a k : Int} (a0 : 0 ≤ a) (a1 : a < m) (k0 : 0 ≤ k) (k1 : k < m) : 0 ≤ tix m a k ∧ tix m a k < m := by unfold tix; split <;> omega
theorem tix_inj {m a k j : Int} (a0 : 0 ≤ a) (a1 : a < m) (k0 : 0 ≤ k) (k1 : k < m) (j0 : 0 ≤ j) (j1 : j < m) (h : tix m a k = tix m a j) : k = j := by unfold tix at h; split at h <;> split at h <;> omega
theorem tix_nxt {m a k : Int} (a0 : 0 ≤ a) (a1 : a < m) (k0 : 0 ≤ k) (k1 : k < m) : tix m a (nxt m k) = nxt m (tix m a k) := by
 unfold tix nxt
 by_cases c : k + 1 = m
 ·rw [if_pos c, if_pos (show (0 : Int) < m - a by omega)]
  by_cases d : k < m - a
  ·rw [if_pos d]; have : a = 0 := by omega
   rw [if_pos (by omega)]; omega
  ·rw [if_neg d, if_neg (by omega)]; omega
 ·rw [if_neg c]
  by_cases d : k < m - a
  ·rw [if_pos d]
   by_cases e : k + 1 < m - a
   ·rw [if_pos e, if_neg (by omega)]; omega
   ·rw [if_neg e, if_pos (by omega)]; omega
  ·rw [if_neg d, if_neg (by omega), if_neg (by omega)]; omega
theorem tix_hit {m a j : Int} (a0 : 0 ≤ a) (a1 : a < m) (j0 : 0 ≤ j) (j1 : j < m) : ∃ k : Int, 0 ≤ k ∧ k < m ∧ tix m a k = j := by
 by_cases c : a ≤ j
 ·exact ⟨j - a, by omega, by omega, by unfold tix; rw [if_pos (by omega)]; omega⟩
 ·exact ⟨j + (m - a), by omega, by omega, by unfold tix; rw [if_neg (by omega)]; omega⟩
theorem Ring.turn {W : Wish} {gone : Int → Bool} {m : Int} {r : Int → Int} (h : W.Ring gone m r) {a : Int} (a0 : 0 ≤ a) (a1 : a < m) : W.Ring gone m (Wish.turn m a r) := by
 refine ⟨h.pos, fun j j0 j1 => ?_, fun x y x0 x1 y0 y1 e => ?_, fun j j0 j1 => ?_⟩
 ·have := tix_rng a0 a1 j0 j1
  rw [turn_tix]; exact h.rng _ this.1 this.2
 ·have p := tix_rng a0 a1 x0 x1
  have q := tix_rng a0 a1 y0 y1
  rw [turn_tix, turn_tix] at e
  exact tix_inj a0 a1 x0 x1 y0 y1 (h.dis _ _ p.1 p.2 q.1 q.2 e)
 ·have := tix_rng a0 a1 j0 j1
  rw [turn_tix, turn_tix, tix_nxt a0 a1 j0 j1]
  exact h.top _ this.1 this.2
structure TS (W : Wish) (gone : Int → Bool) (o t : Int → Int) (c : Int) : Prop where
 rng : ∀ i : Int, 0 ≤ i → i < W.n → gone i = true → (0 ≤ o i ∧ o i < W.n) ∧ gone (o i) = true
 inj : ∀ i j : Int, 0 ≤ i → i < W.n → gone i = true → 0 ≤ j → j < W.n → gone j = true → o i = o j → i = j
 on : ∀ i : Int, 0 ≤ i → i < W.n → gone i = true → W.rk i (o i) < W.l i
 lev : ∀ i : Int, 0 ≤ i → i < W.n → gone i = true → t (o i) = t i
 lt : ∀ i : Int, 0 ≤ i → i < W.n → gone i = true → t i < c
 best : ∀ i k : Int, 0 ≤ i → i < W.n → gone i = true → 0 ≤ k → k < W.rk i (o i) → gone (W.e i k) = true ∧ t (W.e i k) < t i
theorem TS.init (W : Wish) (o t : Int → Int) : W.TS (fun _ => false) o t 0 :=
 ⟨fun _ _ _ h => Bool.noConfusion h, fun _ _ _ _ h => Bool.noConfusion h, fun _ _ _ h => Bool.noConfusion h, fun _ _ _ h => Bool.noConfusion h, fun _ _ _ h => Bool.noConfusion h, fun _ _ _ _ h => Bool.noConfusion h⟩
theorem TS.cert {W : Wish} {gone : Int → Bool} {o t : Int → Int} {c : Int} (h : W.TS gone o t c) (hall : ∀ i : Int, 0 ≤ i → i < W.n → gone i = true) : W.Cert o t :=
 ⟨fun i i0 i1 => (h.rng i i0 i1 (hall i i0 i1)).1, fun i j i0 i1 j0 j1 => h.inj i j i0 i1 (hall i i0 i1) j0 j1 (hall j j0 j1), fun i i0 i1 => h.on i i0 i1 (hall i i0 i1), fun i i0 i1 => h.lev i i0 i1 (hall i i0 i1), fun i k i0 i1 k0 k1 => (h.best i k i0 i1 (hall i i0 i1) k0 k1).2⟩
def oR (gone : Int → Bool) (o : Int → Int) (m : Nat) (r : Int → Int) : Int → Int := fun i => if gone i = true then o i else r (nxt m (Proofs.YtbepolognfdkeaaGreat.rk r m i))
def tR (gone : Int → Bool) (t : Int → Int) (c : Int) : Int → Int := fun i => if gone i = true then t i else c
theorem oR_at {W : Wish} {gone : Int → Bool} {o : Int → Int} {m : Nat} {r : Int → Int} (h : W.Ring gone m r) {j : Int} (j0 : 0 ≤ j) (j1 : j < m) : oR gone o m r (r j) = r (nxt m j) := by
 unfold oR
 rw [if_neg (by rw [(h.rng j j0 j1).2]; exact fun h => Bool.noConfusion h), rk_of h.dis j0 j1 rfl]
theorem TS.ring {W : Wish} (hW : W.Ok) {gone gone' : Int → Bool} {o t : Int → Int} {c : Int} (h : W.TS gone o t c) {m : Nat} {r : Int → Int} (hR : W.Ring gone m r)
  (hg : ∀ x : Int, 0 ≤ x → x < W.n → (gone' x = true ↔ gone x = true ∨ ∃ j : Int, 0 ≤ j ∧ j < m ∧ r j = x)) : W.TS gone' (oR gone o m r) (tR gone t c) (c + 1) := by
 have hold : ∀ x, gone x = true → oR gone o m r x = o x ∧ tR gone t c x = t x := fun x hx => by unfold oR tR; rw [if_pos hx, if_pos hx]; exact ⟨rfl, rfl⟩
 have hnew : ∀ x, gone x = false → tR gone t c x = c := fun x hx => by unfold tR; rw [if_neg (by rw [hx]; exact fun h => Bool.noConfusion h)]
 have hcase : ∀ i : Int, 0 ≤ i → i < W.n → gone' i = true → gone i = true ∨ ∃ j : Int, 0 ≤ j ∧ j < m ∧ r j = i := fun i i0 i1 hi => (hg i i0 i1).1 hi
 have hrk : ∀ j : Int, 0 ≤ j → j < m → ∃ q : Int, 0 ≤ q ∧ q < W.l (r j) ∧ (∀ k : Int, 0 ≤ k → k < q → gone (W.e (r j) k) = true) ∧ W.rk (r j) (r (nxt m j)) = q := fun j j0 j1 => by
  obtain ⟨⟨a0, a1⟩, _⟩ := hR.rng j j0 j1
  obtain ⟨q, q0, q1, hq, _, e⟩ := hR.top j j0 j1
  exact ⟨q, q0, q1, hq, rk_of (hW.dis _ a0 a1) q0 q1 e⟩
 refine ⟨fun i i0 i1 hi => ?_, fun i j i0 i1 hi j0 j1 hj e => ?_, fun i i0 i1 hi => ?_, fun i i0 i1 hi => ?_, fun i i0 i1 hi => ?_, fun i k i0 i1 hi k0 k1 => ?_⟩
 ·rcases hcase i i0 i1 hi with h1 | ⟨j, j0, j1, rfl⟩
  ·rw [(hold i h1).1]
   obtain ⟨p1, p2⟩ := h.rng i i0 i1 h1
   exact ⟨p1, (hg _ p1.1 p1.2).2 (.inl p2)⟩
  ·rw [oR_at hR j0 j1]
   have hn := nxt_rng j0 j1
   obtain ⟨p1, p2⟩ := hR.rng _ hn.1 hn.2
   exact ⟨p1, (hg _ p1.1 p1.2).2 (.inr ⟨_, hn.1, hn.2, rfl⟩)⟩
 ·rcases hcase i i0 i1 hi with h1 | ⟨a, a0, a1, rfl⟩ <;> rcases hcase j j0 j1 hj with h2 | ⟨b, b0, b1, rfl⟩
  ·rw [(hold i h1).1, (hold j h2).1] at e
   exact h.inj i j i0 i1 h1 j0 j1 h2 e
  ·rw [(hold i h1).1, oR_at hR b0 b1] at e
   have hn := nxt_rng b0 b1
   have := (h.rng i i0 i1 h1).2
   rw [e, (hR.rng _ hn.1 hn.2).2] at this
   exact Bool.noConfusion this
  ·rw [(hold j h2).1, oR_at hR a0 a1] at e
   have hn := nxt_rng a0 a1
   have := (h.rng j j0 j1 h2).2
   rw [← e, (hR.rng _ hn.1 hn.2).2] at this
   exact Bool.noConfusion this
  ·rw [oR_at hR a0 a1, oR_at hR b0 b1] at e
   have ha := nxt_rng a0 a1
   have hb := nxt_rng b0 b1
   rw [nxt_inj a0 a1 b0 b1 (hR.dis _ _ ha.1 ha.2 hb.1 hb.2 e)]
 ·rcases hcase i i0 i1 hi with h1 | ⟨j, j0, j1, rfl⟩
  ·rw [(hold i h1).1]; exact h.on i i0 i1 h1
  ·obtain ⟨q, _, q1, _, e⟩ := hrk j j0 j1
   rw [oR_at hR j0 j1, e]; exact q1
 ·rcases hcase i i0 i1 hi with h1 | ⟨j, j0, j1, rfl⟩
  ·rw [(hold i h1).1, (hold _ (h.rng i i0 i1 h1).2).2, (hold i h1).2]; exact h.lev i i0 i1 h1
  ·have hn := nxt_rng j0 j1
   rw [oR_at hR j0 j1, hnew _ (hR.rng _ hn.1 hn.2).2, hnew _ (hR.rng j j0 j1).2]
 ·rcases hcase i i0 i1 hi with h1 | ⟨j, j0, j1, rfl⟩
  ·rw [(hold i h1).2]; have := h.lt i i0 i1 h1; omega
  ·rw [hnew _ (hR.rng j j0 j1).2]; omega
 ·rcases hcase i i0 i1 hi with h1 | ⟨j, j0, j1, rfl⟩
  ·rw [(hold i h1).1] at k1
   obtain ⟨p1, p2⟩ := h.best i k i0 i1 h1 k0 k1
   have hon := h.on i i0 i1 h1
   have hr := hW.rng i k i0 i1 k0 (by omega)
   rw [(hold _ p1).2, (hold i h1).2]
   exact ⟨(hg _ hr.1 hr.2).2 (.inl p1), p2⟩
  ·obtain ⟨q, _, q1, hq, e⟩ := hrk j j0 j1
   rw [oR_at hR j0 j1, e] at k1
   have hg1 := hq k k0 k1
   have hr := hW.rng (r j) k i0 i1 k0 (by omega)
   rw [(hold _ hg1).2, hnew _ (hR.rng j j0 j1).2]
   exact ⟨(hg _ hr.1 hr.2).2 (.inl hg1), h.lt _ hr.1 hr.2 hg1⟩
structure Way (W : Wish) (gone : Int → Bool) (k : Int) (y : Int → Int) (at_ : Int) : Prop where
 k0 : 0 ≤ k
 rng : ∀ j : Int, 0 ≤ j → j < k → (0 ≤ y j ∧ y j < W.n) ∧ gone (y j) = false
 atr : (0 ≤ at_ ∧ at_ < W.n) ∧ gone at_ = false
 dis : ∀ a b : Int, 0 ≤ a → a < k → 0 ≤ b → b < k → y a = y b → a = b
 top : ∀ j : Int, 0 ≤ j → j < k → W.Top gone (y j) (if j + 1 = k then at_ else y (j + 1))
theorem Way.start {W : Wish} {gone : Int → Bool} {i : Int} (i0 : 0 ≤ i) (i1 : i < W.n) (hi : gone i = false) (y : Int → Int) : W.Way gone 0 y i :=
 ⟨Int.le_refl _, fun j j0 j1 => by omega, ⟨⟨i0, i1⟩, hi⟩, fun a b a0 a1 => by omega, fun j j0 j1 => by omega⟩
theorem Way.step {W : Wish} (hW : W.Ok) {gone : Int → Bool} {k : Int} {y : Int → Int} {at_ x : Int} (h : W.Way gone k y at_) (hno : ∀ j : Int, 0 ≤ j → j < k → y j ≠ at_) (hx : W.Top gone at_ x) : W.Way gone (k + 1) (upd y k at_) x := by
 have hk := h.k0
 refine ⟨by omega, fun j j0 j1 => ?_, hx.rng hW h.atr.1.1 h.atr.1.2, fun a b a0 a1 b0 b1 e => ?_, fun j j0 j1 => ?_⟩
 ·by_cases e : j = k
  ·rw [e, upd_same]; exact h.atr
  ·rw [upd_ne _ _ e]; exact h.rng j j0 (by omega)
 ·by_cases c : a = k <;> by_cases d : b = k
  ·omega
  ·rw [c, upd_same, upd_ne _ _ d] at e; exact absurd e.symm (hno b b0 (by omega))
  ·rw [d, upd_same, upd_ne _ _ c] at e; exact absurd e (hno a a0 (by omega))
  ·rw [upd_ne _ _ c, upd_ne _ _ d] at e; exact h.dis a b a0 (by omega) b0 (by omega) e
 ·by_cases e : j = k
  ·rw [e, upd_same, if_pos rfl]; exact hx
  ·rw [upd_ne _ _ e, if_neg (by omega)]
   have := h.top j j0 (by omega)
   by_cases e2 : j + 1 = k
   ·rw [if_pos e2] at this
    rw [e2, upd_same]; exact this
   ·rw [if_neg e2] at this
    rw [upd_ne _ _ e2]; exact this
theorem Way.ring {W : Wish} {gone : Int → Bool} {k : Int} {y : Int → Int} {at_ : Int} (h : W.Way gone k y at_) {a : Int} (a0 : 0 ≤ a) (a1 : a < k) (ha : y a = at_) : W.Ring gone (k - a) (fun j => y (a + j)) := by
 refine ⟨by omega, fun j j0 j1 => h.rng _ (by omega) (by omega), fun x z x0 x1 z0 z1 e => by have := h.dis _ _ (by omega) (by omega) (by omega) (by omega) e; omega, fun j j0 j1 => ?_⟩
 have := h.top (a + j) (by omega) (by omega)
 unfold nxt
 by_cases e : j + 1 = k - a
 ·rw [if_pos (by omega)] at this
  rw [if_pos e]
  show W.Top gone (y (a + j)) (y (a + 0))
  rw [Int.add_zero, ha]; exact this
 ·rw [if_neg (by omega)] at this
  rw [if_neg e]
  show W.Top gone (y (a + j)) (y (a + (j + 1)))
  rw [← Int.add_assoc]; exact this
theorem Way.short {W : Wish} {gone : Int → Bool} {k : Int} {y : Int → Int} {at_ : Int} (h : W.Way gone k y at_) : k ≤ W.n := by
 have hk := h.k0
 have h1 : sm (fun j => sm (fun b => if y j = b then 1 else 0) W.n) k = k := by
  rw [sm_congr (g := fun _ => 1) fun j j0 j1 => sm_one (h.rng j j0 j1).1.1 (h.rng j j0 j1).1.2 1, sm_const 1 hk]
  omega
 rw [sm_swap] at h1
 have h2 : sm (fun b => sm (fun j => if y j = b then 1 else 0) k) W.n ≤ W.n * 1 := sm_bound 1 (by omega) fun b _ _ => sm_atmost hk fun i j i0 i1 j0 j1 e1 e2 => h.dis i j i0 i1 j0 j1 (e1.trans e2.symm)
 omega
end Wish
end Go.Proofs.YtbepolognfdkeaaGreat
