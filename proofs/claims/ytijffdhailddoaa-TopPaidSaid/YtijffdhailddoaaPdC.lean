import Derived.Test.YtijffdhailddoaaPaC
import Derived.Test.YtijffdhailddoaaSgG
import Derived.Test.YtijffdhailddoaaSet2
import Derived.Test.YtijffdhailddoaaCanA
set_option maxRecDepth 100000
namespace Go.Proofs.Ytijffdhailddoaa
open Go.RowKit Go.Proofs
def smallV (x m : Int) : Int := IntKind.i64.wrap (IntKind.u64.wrap x % IntKind.u64.wrap (m + 1))
theorem small_rng (x m : Int) (h0 : 0 ≤ m) (h1 : m ≤ 1000000) : 0 ≤ smallV x m ∧ smallV x m ≤ m := mod_le x m h0 h1
theorem small_any (x m : Int) (w : World) (h0 : 0 ≤ m) (h1 : m ≤ 1000000) : Calls Try.prog 4 #[iv x, iv m] w fun e w' => e = .returned (iv (smallV x m)) ∧ w' = w := by
 refine calls_of_run (F := [(0, _), (1, _)]) Try.func4 rfl Try.ntmps4 rfl rfl ?_
 have hO0 := Own.init w
 refine run_seq <| run_region <| rl_v rfl rfl rfl (ov_assign rfl rfl) <| rl_nil <| run_seq <| run_region <| rl_v rfl rfl rfl (ov_move rfl rfl) <| rl_v rfl rfl rfl (ov_conv rfl Try.underlying2 Try.underlying51 rfl) <| rl_v rfl rfl rfl (ov_move rfl rfl) <| rl_v rfl rfl rfl (ov_add rfl rfl rfl (by omega)) ?_
 refine rl_v rfl rfl rfl (ov_conv rfl Try.underlying2 Try.underlying51 rfl) <| rl_v rfl rfl rfl (ov_rem rfl rfl rfl (wrap_u64_nonneg _) (wrap_u64_pos _ h0 h1)) <| rl_v rfl rfl rfl (ov_conv rfl Try.underlying51 Try.underlying2 rfl) <| rl_v rfl rfl rfl (ov_assign rfl rfl) <| rl_nil <| run_ret Try.func4 (res1 Try.results4 rfl) ?_
 exact ⟨rfl, rfl⟩
def DD (N : Nat) (L : Int → Nat) (D0 : Int → Int → Int) (r c : Int) : Int := if r ≠ c ∧ r < N ∧ c < L r then smallV (D0 r c) 30 else 0
theorem DD_rng (N : Nat) (L : Int → Nat) (D0 : Int → Int → Int) (r c : Int) : 0 ≤ DD N L D0 r c ∧ DD N L D0 r c ≤ 30 := by
 unfold DD
 split
 ·exact small_rng _ 30 (by decide) (by decide)
 ·omega
theorem DD_valid (N : Nat) (L : Int → Nat) (D0 : Int → Int → Int) {n : Nat} (h1 : 1 ≤ n) (h2 : n ≤ 32) : Valid n (DD N L D0) :=
 ⟨h1, h2, fun r c => (DD_rng N L D0 r c).1, fun r c => by have := (DD_rng N L D0 r c).2; omega, fun r => if_neg fun h => h.1 rfl⟩
theorem tab_reads {B : Nat} {w0 w : World} {H : List (Option Blk)} (hO : Own B w0 w H) {b n k : Nat} {T : TypeId} {E : Int → TypeId} {RB : Int → Nat} {F : Int → Int → Value} (hk : H[k]? = some (some (vch b T n (fun r => .slice (some ⟨RB r, 0, none⟩) n n))))
  (hr : ∀ r : Int, 0 ≤ r → r < n → some (vch (RB r) (E r) n (F r)) ∈ H) : ITab w.heap.size w (some ⟨b, 0, none⟩) n (fun _ => n) F :=
 ⟨fun r => some ⟨RB r, 0, none⟩, fun _ => n, hO.readsI k hk, fun r h0 h1 => by
  obtain ⟨j, hj⟩ := List.mem_iff_getElem?.1 (hr r h0 h1)
  exact hO.readsI j hj⟩
end Go.Proofs.Ytijffdhailddoaa
set_option maxRecDepth 100000
namespace Go.Proofs.Ytijffdhailddoaa
open Go.RowKit Go.Proofs
def mnyP (n M : Nat) (D : Int → Int → Int) (G : Int → Int) (k : Int) : Int := (if k < M then smallV (G k) 50 else 0) + max 0 (-(ps n D k))
theorem mnyP_rng {n M : Nat} {D : Int → Int → Int} {G : Int → Int} (hv : Valid n D) (k : Int) : max 0 (-(ps n D k)) ≤ mnyP n M D G k ∧ 0 ≤ mnyP n M D G k ∧ mnyP n M D G k ≤ 33000000 := by
 have h1 := ps_rng hv k
 have h2 := small_rng (G k) 50 (by decide) (by decide)
 unfold mnyP
 split <;> omega
theorem mny_upd {n M kn : Nat} {D : Int → Int → Int} {G : Int → Int} {k m : Int} (hk : k = kn) (hm : m = if k < M then smallV (G k) 50 else 0) (i : Int) : upd (fun i => iv (mnyP n M D G i)) kn (iv (m + max 0 (-(ps n D k)))) i = iv (mnyP n M D G i) := by
 unfold upd
 by_cases e : i = kn
 ·rw [if_pos e, e, ← hk, hm]
  rfl
 ·rw [if_neg e]
theorem gl_range (n : Nat) (g : Int → Int) {i : Int} (h0 : 0 ≤ i) (h1 : i < n) : gl ((List.range n).map fun (j : Nat) => g (j : Int)) i = g i := by
 unfold gl
 rw [List.getD_eq_getElem?_getD, List.getElem?_map, List.getElem?_range (show i.toNat < n by omega)]
 show g ((i.toNat : Nat) : Int) = _
 rw [Int.toNat_of_nonneg h0]
theorem gl_repl (n : Nat) (i : Int) : gl (List.replicate n 0) i = 0 := by
 unfold gl
 rw [List.getD_eq_getElem?_getD, List.getElem?_replicate]
 split <;> rfl
theorem newN (n : Nat) (pat : Int) (f1 f2 : List Int) (e1 : f1.length = n) (e2 : f2.length = n) (ma ga : Option Addr) (mc gc B : Nat) (H : List (Option Blk)) (w0 w : World) (hO : Own B w0 w H) (h1 : SrcI H ma n (gl f1)) (h2 : SrcI H ga n (gl f2)) (hm : 1 ≤ n ∧ n ≤ 1000) (hp : 1 ≤ pat ∧ pat ≤ 1000) (hf1 : ∀ x ∈ f1, 0 ≤ x ∧ x ≤ 1000000000000) (hf2 : ∀ x ∈ f2, 0 ≤ x ∧ x ≤ 1000000000000) :
  Calls Try.prog 7 #[.agg #[iv n, iv pat, .slice ma n mc, .slice ga n gc]] w fun e w' => ∃ A, e = .returned (.tuple #[ptr A.W, iv 0]) ∧ WAt B w0 w' A (MW.init n pat f1 f2) [] H := by
 have h := newOk n pat f1 f2 ma ga mc gc B H w0 w hO (e1.symm ▸ h1) (e2.symm ▸ h2) (by omega) hp (by omega) (by omega) hf1 hf2
 rw [e1, e2] at h
 exact h
theorem bcode_ok {X : MW} {d : Dl} (h : d.Ok X) (hc : Calm X) (hd : X.deals.length < 1000) (hb : X.bag.length ≤ 3000) : bcode X d = 0 := by
 unfold Dl.Ok at h
 unfold bcode
 rw [if_neg (by unfold DlBad; omega)]
 have hdown : X.c.down = false := (hc 0 (.inl rfl)).1
 rw [if_neg (by rw [hdown]; exact Bool.noConfusion), if_neg (by omega)]
theorem begin0 (A : WA) (X : MW) (d : Dl) (B : Nat) (R : List (Option Blk)) (w0 w : World) (hG : Good X) (hb : X.bag.length ≤ 3000) (h0 : bcode X d = 0) (h : WAt B w0 w A X [] R) :
  Calls Try.prog 8 #[ptr A.W, .agg (dll d).toArray] w fun e w' => e = .returned (.tuple #[iv (X.deals.length + 1), iv 0]) ∧ WAt B w0 w' A (X.begin d) [] R :=
 (begin_any A X d B [] R w0 w hG (by omega) h).mono fun e w' h => by
  rw [if_pos h0, if_pos h0, h0] at h
  exact h
theorem phi_deliver {X : MW} (h : Good X) {i : Nat} (hi : i < X.bag.length) : phi (X.deliver i) ≤ phi X := by
 have hm := h.bg _ (getD_bag (i := (i : Int)) ⟨by omega, by omega⟩)
 have h1 := phi_dropAt hi
 have h2 := phi_bring (X := X.dropAt i) (m := X.bag.getD i Ms.z) hm.2
 unfold MW.deliver
 omega
theorem bag_phi (X : MW) : X.bag.length ≤ phi X := Nat.le_add_right _ _
theorem rem_rng {b : Nat} (x : Int) (h0 : 0 < b) (h1 : b ≤ 1000000) : 0 ≤ IntKind.i64.wrap (IntKind.u64.wrap x % IntKind.u64.wrap b) ∧ IntKind.i64.wrap (IntKind.u64.wrap x % IntKind.u64.wrap b) < b := by
 have h := mod_le x ((b : Int) - 1) (by omega) (by omega)
 rw [Int.sub_add_cancel] at h
 omega
theorem rem_ne {b : Nat} (h0 : 0 < b) (h1 : b ≤ 1000000) : IntKind.u64.wrap (b : Int) ≠ 0 := by
 have h := wrap_u64_pos ((b : Int) - 1) (by omega) (by omega)
 rw [Int.sub_add_cancel] at h
 exact h
theorem stP_rng {n : Nat} {p : Int → Int} {M : Int} (hs : sm p n = 0) {K : Nat} (h : Settled n p K) (hr : ∀ i, -M ≤ p i ∧ p i ≤ M) : ∀ k, k ≤ K → ∀ i, -M ≤ stP n p k i ∧ stP n p k i ≤ M
 | 0, _ => hr
 | k + 1, hk => by
  obtain ⟨a, b, ha, hb, _, _⟩ := step_ok (stP_sum hs k fun j hj => h.some j (by omega)) (h.some k (by omega))
  exact nxt_rng ha hb (stP_rng hs h hr k (by omega))
theorem moved_le {n : Nat} {p : Int → Int} {M : Int} (hs : sm p n = 0) {K : Nat} (h : Settled n p K) (hr : ∀ i, -M ≤ p i ∧ p i ≤ M) {k : Nat} (hk : k < K) : moved n (stP n p k) ≤ M := by
 have := (stP_rng hs h hr k (by omega) (getter n (stP n p k))).2
 unfold moved
 omega
theorem pay_ok {n : Nat} {p : Int → Int} (hs : sm p n = 0) {K : Nat} (h : Settled n p K) {f1 : List Int} (hl : f1.length = n) (hf : ∀ i : Int, 0 ≤ i → i < n → max 0 (-(p i)) ≤ gl f1 i) (i : Int) (i0 : 0 ≤ i) : paidT n p i K ≤ f1.getD i.toNat 0 := by
 by_cases i1 : i < n
 ·rw [(settled_paid hs h i0 i1).2]
  exact hf i i0 i1
 ·have e : paidT n p i K = 0 := by
   unfold paidT
   rw [sm_congr (g := fun _ => 0) fun j j0 j1 => if_neg fun e => by have := (h.amount hs (k := j.toNat) (by omega)).2.1.2; omega]
   rw [sm_const 0 (by omega)]
   omega
  rw [e, List.getD_eq_getElem?_getD, List.getElem?_eq_none (by omega)]
  exact Int.le_refl _
end Go.Proofs.Ytijffdhailddoaa
