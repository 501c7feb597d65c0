import Derived.Test.YtfbbagnpdfafjaaSfC
import Derived.Test.YtfbbagnpdfafjaaSum
set_option maxRecDepth 100000
namespace Go.Proofs.Ytfbbagnpdfafjaa
open Go.RowKit Go.Proofs
instance (n : Int) : Decidable (N3 n) := by unfold N3; exact inferInstance
def TogOk (a b : Int) : Prop := ¬ (a = 2 ∧ b ≠ 2 ∧ b ≠ 1 ∨ b = 2 ∧ a ≠ 2 ∧ a ≠ 1)
instance (a b : Int) : Decidable (TogOk a b) := by unfold TogOk; exact inferInstance
theorem okCfg {mem pat : Int} {f1 f2 : List Int} (hm : 1 ≤ mem ∧ mem ≤ 1000) (hp : 1 ≤ pat ∧ pat ≤ 1000) (h1 : (f1.length : Int) = mem) (h2 : (f2.length : Int) = mem) (hf1 : ∀ x ∈ f1, 0 ≤ x ∧ x ≤ 1000000000000) (hf2 : ∀ x ∈ f2, 0 ≤ x ∧ x ≤ 1000000000000) : ¬ CfgBad mem pat f1 f2 := by
 have key : ∀ f : List Int, (∀ x ∈ f, 0 ≤ x ∧ x ≤ 1000000000000) → ¬ BadP (gl f) f.length := by
  rintro f hf ⟨i, h0, h1, h2⟩
  have := hf (f.getD i.toNat 0) (by rw [List.getD_eq_getElem?_getD, List.getElem?_eq_getElem (by omega)]; exact List.getElem_mem _)
  unfold gl at h2
  omega
 have k1 := key f1 hf1
 have k2 := key f2 hf2
 unfold CfgBad
 rintro (h | h | h | h | h | h | h | h)
 ·omega
 ·omega
 ·omega
 ·omega
 ·exact h h1
 ·exact h h2
 ·exact k1 h
 ·exact k2 h
theorem newOk (mem pat : Int) (f1 f2 : List Int) (ma ga : Option Addr) (mc gc B : Nat) (H : List (Option Blk)) (w0 w : World) (hO : Own B w0 w H) (h1 : SrcI H ma f1.length (gl f1)) (h2 : SrcI H ga f2.length (gl f2)) (hm : 1 ≤ mem ∧ mem ≤ 1000) (hp : 1 ≤ pat ∧ pat ≤ 1000) (hl1 : (f1.length : Int) = mem) (hl2 : (f2.length : Int) = mem) (hf1 : ∀ x ∈ f1, 0 ≤ x ∧ x ≤ 1000000000000) (hf2 : ∀ x ∈ f2, 0 ≤ x ∧ x ≤ 1000000000000) :
  Calls Try.prog 50 #[.agg #[iv mem, iv pat, .slice ma f1.length mc, .slice ga f2.length gc]] w fun e w' => ∃ A, e = .returned (.tuple #[ptr A.W, iv 0]) ∧ WAt B w0 w' A (MW.init mem pat f1 f2) [] H :=
 (new8_any mem pat f1 f2 ma ga mc gc B H w0 w hO h1 h2 (by omega) (by omega)).mono fun _ _ h => h.elim (fun h => absurd h.1 (okCfg hm hp hl1 hl2 hf1 hf2)) (fun h => h.2)
theorem Good.init {mem pat : Int} {f1 f2 : List Int} (hm : 1 ≤ mem ∧ mem ≤ 1000) (hp : 1 ≤ pat ∧ pat ≤ 1000) (hl1 : (f1.length : Int) = mem) (hl2 : (f2.length : Int) = mem) (hf1 : ∀ x ∈ f1, 0 ≤ x ∧ x ≤ 1000000000000) (hf2 : ∀ x ∈ f2, 0 ≤ x ∧ x ≤ 1000000000000) : Good (MW.init mem pat f1 f2) := by
 have hz : ∀ n, ((MW.init mem pat f1 f2).lg n) = Lg.z := fun n => by unfold MW.lg; split; rfl; split <;> rfl
 have hf : ∀ n, (MW.init mem pat f1 f2).fst n = if n = 1 then f1 else f2 := fun n => rfl
 refine ⟨⟨hm, hp, fun n _ => ?_, fun n _ => ?_, Nat.zero_le _, fun d h1 h2 => ?_, fun n _ r hr => ?_, fun n _ => ?_, fun n _ => ?_, fun n _ => ?_, fun m hm => ?_, fun d => ?_, fun d => ?_⟩, fun d hd => ?_⟩
 ·rw [hf]; split; exact hl1; exact hl2
 ·rw [hf]; split; exact hf1; exact hf2
 ·have : d ≤ 0 := h2; omega
 ·rw [hz] at hr; exact nomatch hr
 ·rw [hz]; exact List.nodup_nil
 ·rw [hz]; exact ⟨Int.le_refl _, show (0 : Int) ≤ _ by decide⟩
 ·rw [hz]; exact Nat.le_refl _
 ·exact nomatch hm
 ·exact ⟨Int.le_refl _, show (0 : Int) < pat by omega⟩
 ·exact ⟨Int.le_refl _, show (0 : Int) ≤ 4 by decide⟩
 ·exact absurd (show (0 : Int) = 1 from hd) (by decide)
end Go.Proofs.Ytfbbagnpdfafjaa
