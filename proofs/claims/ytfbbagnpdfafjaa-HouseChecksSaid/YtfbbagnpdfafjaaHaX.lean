import Derived.Test.YtfbbagnpdfafjaaHaU
set_option maxRecDepth 100000
namespace Go.Proofs.Ytfbbagnpdfafjaa
open Go.RowKit Go.Proofs
theorem HB.new {mem mon : Int} {mn : Nat} {P : Int → Int} {F : Int → Int → Int} {rate cap : Int} (hm : 2 ≤ mem ∧ mem < 20) (hn : 1 ≤ mon ∧ mon ≤ 12) (hk : mn ≤ 64) (hP : ∀ m : Int, 0 ≤ m → m < mon → 1 ≤ P m ∧ P m ≤ 1000) (hF : ∀ i : Int, 0 ≤ i → i < mn → ∀ m : Int, 0 ≤ m → m < mon → (F i m).natAbs ≤ 1000) (hr : 0 ≤ rate ∧ rate ≤ 1000) (hc : 0 ≤ cap ∧ cap ≤ 1000000000000) : HB 0 (HM.new mem mon mn P F rate cap) := by
 refine ⟨by show 2 ≤ mem.toNat ∧ mem.toNat < 20; omega, hn, hk, fun m m0 m1 => ?_, fun m hm' => if_neg (by show ¬ m < mon; have : mon ≤ m := hm'; omega), fun i i0 i1 m m0 m1 => ?_, hr, hc, by show (0 : Int) ≤ 0 ∧ (0 : Int) ≤ _; omega, fun i i0 i1 m m0 m1 => Nat.zero_le _, fun i i0 i1 m hm' => rfl, fun i i0 i1 => Nat.zero_le _, fun i i0 i1 => ⟨Int.le_refl _, by show (0 : Int) ≤ _; omega⟩, Nat.le_refl _, fun m m0 m1 => ?_, fun j j0 j1 hj => Bool.noConfusion hj, fun j j0 j1 hj => Bool.noConfusion hj⟩
 ·have h1 := hP m m0 m1
  show 1 ≤ cutM mon P m ∧ cutM mon P m ≤ 1000
  unfold cutM
  rw [if_pos (show m < mon from m1)]
  exact h1
 ·show (cutM mon (F i) m).natAbs ≤ 1000
  unfold cutM
  split
  ·exact hF i i0 i1 m m0 ‹_›
  ·exact Nat.zero_le _
 ·show sm (fun _ => 0) ((mem.toNat : Nat) : Int) = 0
  rw [sm_const 0 (by omega), Int.mul_zero]
end Go.Proofs.Ytfbbagnpdfafjaa
set_option maxRecDepth 100000
namespace Go.Proofs.Ytfbbagnpdfafjaa
open Go.RowKit Go.Proofs
theorem Row.valC {v : Value} {E : TypeId} {sz n : Nat} {f : Nat → Value} {c : Option Blk} (h : Row v E sz n f c) : ∃ ao cap, v = .slice ao n cap ∧ n ≤ cap := by
 rcases h with ⟨rfl, rfl, _⟩ | ⟨b, cap, g, rfl, h2, _⟩
 ·exact ⟨_, _, rfl, Nat.le_refl _⟩
 ·exact ⟨_, _, rfl, h2⟩
theorem OTab.tsrc {ao : Option Addr} {m cap : Nat} {T1 T2 : TypeId} {n : Nat} {L : Int → Nat} {F : Int → Int → Int} {H : List (Option Blk)} (h : OTab (.slice ao m cap) T1 T2 n L (fun r c => iv (F r c)) H) : TSrc H ao n L F := by
 obtain ⟨c, rv, ch, rfl, h2, h3⟩ := h
 have hv : ∀ r : Int, ∃ p : Option Addr × Nat, 0 ≤ r → r < n → rv r = .slice p.1 (L r) p.2 ∧ L r ≤ p.2 := fun r => by
  by_cases hr : 0 ≤ r ∧ r < n
  ·obtain ⟨q, rfl⟩ := Int.eq_ofNat_of_zero_le hr.1
   obtain ⟨x, y, e⟩ := Row.valC (h3 q (by omega))
   exact ⟨(x, y), fun _ _ => e⟩
  ·exact ⟨(none, 0), fun a b => absurd ⟨a, b⟩ hr⟩
 have hAC : ∀ r : Int, 0 ≤ r → r < n → rv r = .slice (Classical.choose (hv r)).1 (L r) (Classical.choose (hv r)).2 := fun r h0 hr => (Classical.choose_spec (hv r) h0 hr).1
 refine ⟨fun r => (Classical.choose (hv r)).1, fun r => (Classical.choose (hv r)).2, fun B w0 w ho => (h2.reads ho 0 rfl).congr hAC, fun r h0 hr B w0 w ho => ?_, fun r h0 hr => (Classical.choose_spec (hv r) h0 hr).2⟩
 obtain ⟨q, rfl⟩ := Int.eq_ofNat_of_zero_le h0
 have hk : (c :: (List.range n).map ch)[q + 1]? = some (ch q) := by
  have : q < n := by omega
  simp [this]
 have h3' := h3 q (by omega)
 rw [hAC q h0 hr] at h3'
 exact h3'.reads ho (q + 1) hk
theorem perm_pick2 {a b c : Option Blk} {M T : List (Option Blk)} : (a :: (M ++ (c :: b :: T))).Perm (b :: a :: (M ++ (c :: T))) := by
 have h := List.perm_middle (a := b) (l₁ := M ++ [c]) (l₂ := T)
 rw [List.append_assoc, List.append_assoc] at h
 exact (List.Perm.cons a h).trans (List.Perm.swap _ _ _)
end Go.Proofs.Ytfbbagnpdfafjaa
