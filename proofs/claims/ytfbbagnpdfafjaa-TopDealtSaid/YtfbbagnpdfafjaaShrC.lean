import Derived.Test.YtfbbagnpdfafjaaShrB
set_option maxRecDepth 100000
namespace Go.Proofs.Ytfbbagnpdfafjaa
open Go.RowKit Go.Proofs
theorem ins_ex {r : Int → Int} {i : Int} : ∀ (k : Nat) (g : Int → Int) (j : Int), j.toNat = k → Ins r g i j → ∃ g', Srt r g' (i + 1)
 | 0, g, j, hk, h => ⟨g, h.done fun c => by have := h.rng; omega⟩
 | k + 1, g, j, hk, h => by
  have hr := h.rng
  by_cases c : 0 < j ∧ r (g (j - 1)) < r (g j)
  ·exact ins_ex k _ (j - 1) (by omega) (h.step (by omega) c.2)
  ·exact ⟨g, h.done c⟩
theorem srt_ex (r : Int → Int) : ∀ n : Nat, ∃ g, Srt r g n
 | 0 => ⟨fun i => i, ⟨fun a a0 a1 => by omega, fun v v0 v1 => by omega⟩, fun a b a0 ab b1 => by omega⟩
 | n + 1 => by
  obtain ⟨g, h⟩ := srt_ex r n
  have hc : ∀ a : Int, a < n → upd g n n a = g a := fun a ha => upd_ne _ _ (by omega)
  have h2 : Srt r (upd g n n) n := ⟨⟨fun a a0 a1 => by rw [hc a a1]; exact h.pm.1 a a0 a1, fun v v0 v1 => by
   obtain ⟨a, a0, a1, e⟩ := h.pm.2 v v0 v1
   exact ⟨a, a0, a1, by rw [hc a a1, e]⟩⟩, fun a b a0 ab b1 => by rw [hc a (by omega), hc b b1]; exact h.ord a b a0 ab b1⟩
  exact ins_ex _ _ _ rfl (Ins.init (by omega) h2 (upd_same _ _ _))
theorem giv_ex {r q g : Int → Int} {n : Int} (hs : Srt r g n) : ∀ k : Nat, (k : Int) ≤ n → ∃ out, Giv q g n k out
 | 0, _ => ⟨q, Giv.init (fun _ _ _ => rfl) hs.pm⟩
 | k + 1, hk => by
  obtain ⟨out, h⟩ := giv_ex hs k (by omega)
  exact ⟨_, h.step hs (by omega) (by omega)⟩
theorem shr_ex {total : Int} {n : Nat} {W : Int → Int} (ht : 0 ≤ total) (hW : ∀ i : Int, 0 ≤ i → i < n → 0 ≤ W i) : ∃ o, Shr total n W o := by
 by_cases hz : sm W n = 0
 ·exact ⟨fun _ => 0, by rw [if_pos hz, sm_const 0 (by omega)]; omega, fun i _ _ => .inl (by rw [hz, Int.ediv_zero]), fun i j _ _ _ _ e _ => by rw [hz, Int.ediv_zero] at e; omega⟩
 ·have hS : 0 < sm W n := by have := sm_nonneg hW; omega
  obtain ⟨g, hs⟩ := srt_ex (fun i => total * W i % sm W n) n
  have hl := left_rng hW hS ht
  obtain ⟨out, h⟩ := giv_ex (q := fun i => total * W i / sm W n) hs (total - sm (fun i => total * W i / sm W n) n).toNat (by omega)
  rw [Int.toNat_of_nonneg hl.1] at h
  exact ⟨out, Giv.shr hs hz rfl hl.1 h⟩
theorem shF_shr {total : Int} {n : Nat} {W : Int → Int} (ht : 0 ≤ total) (hW : ∀ i : Int, 0 ≤ i → i < n → 0 ≤ W i) : Shr total n W (shF total n W) := by
 obtain ⟨o, h⟩ := shr_ex ht hW
 exact shF_ok h
theorem Shr.nonneg {total : Int} {n : Nat} {W out : Int → Int} (h : Shr total n W out) (hW : ∀ i : Int, 0 ≤ i → i < n → 0 ≤ W i) (ht : 0 ≤ total) : ∀ i : Int, 0 ≤ i → i < n → 0 ≤ out i := fun i i0 i1 => by
 have hS := sm_nonneg hW
 have := Int.ediv_nonneg (Int.mul_nonneg ht (hW i i0 i1)) hS
 have := h.one i i0 i1
 omega
theorem Shr.le {total : Int} {n : Nat} {W out : Int → Int} (h : Shr total n W out) (hW : ∀ i : Int, 0 ≤ i → i < n → 0 ≤ W i) (ht : 0 ≤ total) (hts : total ≤ sm W n) : ∀ i : Int, 0 ≤ i → i < n → 0 ≤ out i ∧ out i ≤ W i := fun i i0 i1 => by
 have hS := sm_nonneg hW
 have h0 := h.nonneg hW ht
 refine ⟨h0 i i0 i1, ?_⟩
 have hw := hW i i0 i1
 by_cases hz : sm W n = 0
 ·have hsum := h.sum
  rw [if_pos hz] at hsum
  have := sm_pos h0 i i0 i1
  omega
 ·have hp : 0 < sm W n := by omega
  have hmul : total * W i ≤ sm W n * W i := Int.mul_le_mul_of_nonneg_right hts hw
  rcases h.one i i0 i1 with e | e
  ·rw [e]
   exact Int.ediv_le_of_le_mul hp (by rw [Int.mul_comm (W i)]; exact hmul)
  ·have hr := h.pos hW hp i0 i1 e
   have hd := Int.mul_ediv_add_emod (total * W i) (sm W n)
   rw [e]
   have hlt : sm W n * (total * W i / sm W n) < sm W n * W i := by omega
   have := Int.lt_of_mul_lt_mul_left hlt (Int.le_of_lt hp)
   omega
theorem Shr.all {total : Int} {n : Nat} {W out : Int → Int} (h : Shr total n W out) (ht : 0 ≤ total) (hts : total ≤ sm W n) : sm out n = total := by
 have := h.sum
 split at this <;> omega
end Go.Proofs.Ytfbbagnpdfafjaa
