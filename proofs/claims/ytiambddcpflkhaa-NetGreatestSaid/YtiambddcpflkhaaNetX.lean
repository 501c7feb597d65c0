/- Plain law of crises for NetGreatest: sums of payments; who has fallen; more cash. -/
import Derived.Test.YtiambddcpflkhaaNetT
set_option maxRecDepth 100000
namespace Go.Proofs.Ytiambddcpflkhaa
open Go.RowKit Go.Proofs

theorem row_paid {n : Nat} {D : Int → Int → Int} (hv : Valid n D) (i p : Int) (h0 : 0 ≤ p) (h1 : p ≤ ow n D i) :
    sm (fun j => p * D i j / ow n D i) n ≤ p ∧ p - sm (fun j => p * D i j / ow n D i) n ≤ sm (fun j => min 1 (D i j)) n := by
  have hc : 0 ≤ sm (fun j => min 1 (D i j)) n := sm_nonneg fun j _ _ => by have := hv.lo i j; omega
  by_cases hz : ow n D i = 0
  · have e : sm (fun j => p * D i j / ow n D i) n = 0 := by
      rw [hz, sm_congr (g := fun _ => 0) (fun j _ _ => Int.ediv_zero _), sm_const 0 (by omega), Int.mul_zero]
    omega
  · have ho := (ow_rng hv i).1
    have e1 : sm (fun j => p * D i j) n = p * ow n D i := sm_mul p (D i) n
    have e2 := sm_mul (ow n D i) (fun j => p * D i j / ow n D i) n
    have l1 : sm (fun j => ow n D i * (p * D i j / ow n D i)) n ≤ sm (fun j => p * D i j) n := sm_le fun j _ _ => by
      have := Int.mul_ediv_add_emod (p * D i j) (ow n D i)
      have := Int.emod_nonneg (p * D i j) (show ow n D i ≠ 0 from hz)
      omega
    have l2 : sm (fun j => p * D i j - ow n D i * min 1 (D i j)) n ≤ sm (fun j => ow n D i * (p * D i j / ow n D i)) n := sm_le fun j _ _ => by
      have h1 := Int.mul_ediv_add_emod (p * D i j) (ow n D i)
      have h2 := Int.emod_lt_of_pos (p * D i j) (show 0 < ow n D i by omega)
      by_cases hd : D i j = 0
      · rw [hd, Int.mul_zero, Int.zero_ediv, Int.mul_zero, show min (1 : Int) 0 = 0 by omega, Int.mul_zero]; exact Int.le_refl _
      · have hd1 := hv.lo i j
        rw [show min 1 (D i j) = 1 by omega, Int.mul_one]
        omega
    rw [sm_sub, sm_mul (ow n D i) (fun j => min 1 (D i j)) n, e1, e2] at l2
    rw [e1, e2] at l1
    rw [Int.mul_comm p] at l1 l2
    refine ⟨Int.le_of_mul_le_mul_left l1 (by omega), ?_⟩
    have l3 : ow n D i * (p - sm (fun j => p * D i j / ow n D i) n) ≤ ow n D i * sm (fun j => min 1 (D i j)) n := by
      rw [Int.mul_sub]; omega
    exact Int.le_of_mul_le_mul_left l3 (by omega)

theorem all_paid {n : Nat} {D : Int → Int → Int} (hv : Valid n D) {p : Int → Int} (hp : ∀ i : Int, 0 ≤ i → i < n → 0 ≤ p i ∧ p i ≤ ow n D i) :
    sm (rcv n D p) n ≤ sm p n ∧ sm p n - sm (rcv n D p) n ≤ sm (fun i => sm (fun j => min 1 (D i j)) n) n := by
  have e : sm (rcv n D p) n = sm (fun i => sm (fun j => p i * D i j / ow n D i) n) n := (sm_swap (fun j i => p i * D i j / ow n D i) n n)
  rw [e]
  refine ⟨sm_le fun i i0 i1 => (row_paid hv i (p i) (hp i i0 i1).1 (hp i i0 i1).2).1, ?_⟩
  rw [← sm_sub]
  exact sm_le fun i i0 i1 => (row_paid hv i (p i) (hp i i0 i1).1 (hp i i0 i1).2).2

theorem Fall.ends {n : Nat} {D : Int → Int → Int} {cash : Int → Int} {inn : Int → Bool} (hv : Valid n D) (hc : ∀ i : Int, 0 ≤ i → i < n → 0 ≤ cash i) : ∀ (k : Nat) (x : Int → Int), (sm x n).toNat = k → Fall n D cash inn x → ∃ p, Clr n D cash inn p := by
  intro k
  induction k using Nat.strongRecOn with
  | _ k ih =>
    intro x hx H
    rcases H.less hv hc with h | h
    · exact ⟨x, H.done h hv.le⟩
    · exact ih _ (by omega) _ rfl (H.step hv hc)
theorem Clr.exists {n : Nat} {D : Int → Int → Int} {cash : Int → Int} (hv : Valid n D) (hc : ∀ i : Int, 0 ≤ i → i < n → 0 ≤ cash i) (inn : Int → Bool) : ∃ p, Clr n D cash inn p :=
  Fall.ends hv hc _ _ rfl (Fall.start hv)

/-- The greatest payments of all are below those among some. -/
theorem Clr.below {n : Nat} {D : Int → Int → Int} {cash : Int → Int} {inn : Int → Bool} {p q : Int → Int} (hp : Clr n D cash (fun _ => true) p) (hq : Clr n D cash inn q) : ∀ i : Int, 0 ≤ i → i < n → p i ≤ q i :=
  hq.top p hp.rng fun i i0 i1 _ => Int.le_of_eq (hp.fix i i0 i1 rfl)

theorem fallen_fails {n : Nat} {D : Int → Int → Int} {cash : Int → Int} (hv : Valid n D) (hc : ∀ i : Int, 0 ≤ i → i < n → 0 ≤ cash i) {p : Int → Int} (hp : Clr n D cash (fun _ => true) p) : ∀ (k : Nat) (i : Int), 0 ≤ i → i < n → fallen n D cash k i = true → p i < ow n D i := by
  intro k
  induction k with
  | zero => intro i _ _ h; cases h
  | succ k ih =>
    intro i i0 i1 h
    rw [fallen, Bool.or_eq_true] at h
    rcases h with h | h
    · exact ih i i0 i1 h
    · have hm := of_decide_eq_true h
      obtain ⟨q, hq⟩ := Clr.exists (cash := cash) hv hc (fallen n D cash k)
      rw [wave_eq hq, pk_mem] at hm
      have hw := hm.2.2
      unfold wvP at hw
      rw [Bool.and_eq_true, decide_eq_true_eq] at hw
      have h1 := hp.fix i i0 i1 rfl
      have h2 := rcv_mono hv p q (hp.below hq) i
      omega

theorem fallen_iff {n : Nat} {D : Int → Int → Int} {cash : Int → Int} (hv : Valid n D) (hc : ∀ i : Int, 0 ≤ i → i < n → 0 ≤ cash i) {p : Int → Int} (hp : Clr n D cash (fun _ => true) p) {K : Nat} (hK : Waved n D cash K) (i : Int) (i0 : 0 ≤ i) (i1 : i < n) : fallen n D cash K i = true ↔ p i < ow n D i := by
  refine ⟨fallen_fails hv hc hp K i i0 i1, fun hi => ?_⟩
  obtain ⟨q, hq⟩ := Clr.exists (cash := cash) hv hc (fallen n D cash K)
  have hn := hK.none
  unfold wv at hn
  rw [wave_eq hq] at hn
  have hno : ∀ j : Int, 0 ≤ j → j < n → fallen n D cash K j = false → ow n D j ≤ cash j + rcv n D q j := fun j j0 j1 hf => by
    refine Classical.byContradiction fun hx => ?_
    have hm : j ∈ pk (wvP n D cash (fallen n D cash K) q) n := by
      rw [pk_mem]
      refine ⟨j0, j1, ?_⟩
      unfold wvP
      rw [hf]
      simp
      omega
    rw [hn] at hm
    cases hm
  have hqp : ∀ j : Int, 0 ≤ j → j < n → q j ≤ p j := hp.top q hq.rng fun j j0 j1 _ => by
    cases hf : fallen n D cash K j with
    | true => exact Int.le_of_eq (hq.fix j j0 j1 hf)
    | false => rw [hq.off j j0 j1 hf]; have := hno j j0 j1 hf; omega
  cases hf : fallen n D cash K i with
  | true => rfl
  | false =>
    have h1 := hq.off i i0 i1 hf
    have h2 := hqp i i0 i1
    omega

theorem pk_nodup (P : Int → Bool) (k : Nat) : (pk P k).Nodup := by
  induction k with
  | zero => exact List.nodup_nil
  | succ k ih =>
    unfold pk
    split
    · rw [List.nodup_append]
      refine ⟨ih, by simp, fun a ha b hb => ?_⟩
      have h1 := (pk_mem.1 ha).2.1
      have h2 : b = (k : Int) := by simpa using hb
      omega
    · exact ih
theorem not_before {l : List Int} (h : l.Nodup) {j : Int} (h0 : 0 ≤ j) (h1 : j < l.length) : lF l j ∉ l.take j.toNat := by
  intro hm
  obtain ⟨i, hi, e⟩ := List.getElem_of_mem hm
  have hi2 : i < j.toNat := by have := hi; rw [List.length_take] at this; omega
  rw [List.getElem_take] at e
  unfold lF at e
  rw [List.getD_eq_getElem?_getD, List.getElem?_eq_getElem (show j.toNat < l.length by omega)] at e
  have e' : l[i]'(by omega) = l[j.toNat]'(by omega) := e
  exact absurd e' (List.pairwise_iff_getElem.1 h i j.toNat (by omega) (by omega) hi2)
theorem wv_fresh {n : Nat} {D : Int → Int → Int} {cash : Int → Int} {K : Nat} {x : Int} (h : x ∈ wv n D cash K) : fallen n D cash K x = false := by
  unfold wv wave at h
  rw [pk_mem] at h
  have := h.2.2
  unfold wvP at this
  rw [Bool.and_eq_true] at this
  simpa using this.1

theorem Clr.more {n : Nat} {D : Int → Int → Int} {cash cash' : Int → Int} {p m : Int → Int} (hp : Clr n D cash (fun _ => true) p) (hm : Clr n D cash' (fun _ => true) m) (h : ∀ i : Int, 0 ≤ i → i < n → cash i ≤ cash' i) : ∀ i : Int, 0 ≤ i → i < n → p i ≤ m i :=
  hm.top p hp.rng fun i i0 i1 _ => by have h1 := hp.fix i i0 i1 rfl; have h2 := h i i0 i1; omega

/-- One less is still failed. -/
theorem fall_down {l : List Int} {f : Int → Bool} {j x : Int} {i : Int} (h0 : 0 ≤ j) (h1 : j < l.length) (hx : lF l j = x) : upd (fun i => f i && !decide (i ∈ l.take j.toNat)) x false i = (f i && !decide (i ∈ l.take (j + 1).toNat)) := by
  have e : l.take (j + 1).toNat = l.take j.toNat ++ [x] := by
    have hj : j.toNat < l.length := by omega
    rw [show (j + 1).toNat = j.toNat + 1 by omega, List.take_add_one, List.getElem?_eq_getElem hj]
    unfold lF at hx
    rw [List.getD_eq_getElem?_getD, List.getElem?_eq_getElem hj] at hx
    rw [show l[j.toNat] = x from hx]
    rfl
  unfold upd
  rw [e]
  by_cases q : i = x
  · rw [if_pos q, q]; simp
  · rw [if_neg q]; simp [q]
theorem mod50 (v : Int) : 0 ≤ IntKind.i64.wrap (IntKind.u64.wrap v % 50) ∧ IntKind.i64.wrap (IntKind.u64.wrap v % 50) ≤ 49 := by
  have h3 := Int.emod_lt_of_pos (IntKind.u64.wrap v) (show (0 : Int) < 50 by omega)
  have h4 := Int.emod_nonneg (IntKind.u64.wrap v) (show (50 : Int) ≠ 0 by omega)
  rw [IntWalk.i64_in _ (by omega)]
  omega
end Go.Proofs.Ytiambddcpflkhaa
