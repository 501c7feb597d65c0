import Derived.Test.YtijffdhailddoaaSfH
import Derived.Test.YtijffdhailddoaaSfE
set_option maxRecDepth 100000
namespace Go.Proofs.Ytijffdhailddoaa
open Go.RowKit Go.Proofs
theorem noRec {X : MW} (hG : Good X) {n : Int} (hn : N3 n) {k d : Int} (hd : (X.deals.length : Int) < d) : (k, d) ∉ (X.lg n).recs := fun hr => by
 have := (hG.rc n hn _ hr).1.2
 dsimp only at this
 omega
theorem Inv.begin {X : MW} (h : Inv X) (hG : Good X) (d : Dl) : Inv (X.begin d) := by
 have hD : Inv { X with deals := X.deals ++ [d] } := ⟨h.up, h.yes, h.do_, h.drop, h.ack, h.asking, h.doing, h.over, h.und, h.dec, h.done, h.drpd⟩
 have hne : ∀ m ∈ X.bag, m.d ≠ (X.deals.length : Int) + 1 := fun m hm e => by have := (hG.bg m hm).2.2; omega
 have hY : Inv ({ X with deals := X.deals ++ [d] } : MW) := hD
 have kn : ∀ e, e ≠ (X.deals.length : Int) + 1 → upd X.kn ((X.deals.length : Int) + 1) (Ds.s 1) e = X.kn e := fun e he => upd_ne _ _ he
 have hK : Inv (({ X with deals := X.deals ++ [d] } : MW).know ((X.deals.length : Int) + 1) (Ds.s 1)) := by
  refine ⟨h.up, h.yes, h.do_, fun m hm hk => ?_, fun m hm hk => ?_, fun e hs => ?_, fun e hs => ?_, fun e hs hc => ?_, fun e hs => ?_, h.dec, h.done, fun n e hn hr => ?_⟩
  ·have := h.drop m hm hk
   show (upd X.kn _ (Ds.s 1) m.d).st ≠ 1 ∧ _
   rw [kn _ (hne m hm)]; exact this
  ·have := h.ack m hm hk
   show (upd X.kn _ (Ds.s 1) m.d).st ≠ 1 ∧ _
   rw [kn _ (hne m hm)]; exact this
  ·by_cases q : e = (X.deals.length : Int) + 1
   ·show ((upd X.kn _ (Ds.s 1) e).h1 = true → _) ∧ _
    subst q
    have e1 : (({ X with deals := X.deals ++ [d] } : MW).know ((X.deals.length : Int) + 1) (Ds.s 1)).kn ((X.deals.length : Int) + 1) = Ds.s 1 := upd_same _ _ _
    rw [upd_same, e1]
    exact ⟨fun hh => Bool.noConfusion hh, fun hh => Bool.noConfusion hh⟩
   ·have e1 : (({ X with deals := X.deals ++ [d] } : MW).know ((X.deals.length : Int) + 1) (Ds.s 1)).kn e = X.kn e := kn e q
    rw [e1] at hs ⊢
    exact h.asking e hs
  ·by_cases q : e = (X.deals.length : Int) + 1
   ·subst q
    have e1 : (({ X with deals := X.deals ++ [d] } : MW).know ((X.deals.length : Int) + 1) (Ds.s 1)).kn ((X.deals.length : Int) + 1) = Ds.s 1 := upd_same _ _ _
    rw [e1] at hs
    exact absurd (show (1 : Int) = 2 from hs) (by decide)
   ·have e1 : (({ X with deals := X.deals ++ [d] } : MW).know ((X.deals.length : Int) + 1) (Ds.s 1)).kn e = X.kn e := kn e q
    rw [e1] at hs ⊢
    exact h.doing e hs
  ·by_cases q : e = (X.deals.length : Int) + 1
   ·subst q
    exact absurd hc (noRec hG (n := 0) (.inl rfl) (by omega))
   ·have e1 : (({ X with deals := X.deals ++ [d] } : MW).know ((X.deals.length : Int) + 1) (Ds.s 1)).kn e = X.kn e := kn e q
    rw [e1] at hs
    exact h.over e hs hc
  ·by_cases q : e = (X.deals.length : Int) + 1
   ·subst q
    exact noRec hG (n := 0) (.inl rfl) (by omega)
   ·have e1 : (({ X with deals := X.deals ++ [d] } : MW).know ((X.deals.length : Int) + 1) (Ds.s 1)).kn e = X.kn e := kn e q
    rw [e1] at hs
    exact h.und e hs
  ·by_cases q : e = (X.deals.length : Int) + 1
   ·subst q
    exact absurd hr (noRec hG (N3.s hn) (by omega))
   ·have e1 : (({ X with deals := X.deals ++ [d] } : MW).know ((X.deals.length : Int) + 1) (Ds.s 1)).kn e = X.kn e := kn e q
    rw [e1]
    exact h.drpd n e hn hr
 exact Inv.both hK false false (by decide) (by decide) (fun e => absurd e (by decide)) (fun e => absurd e (by decide))
theorem Inv.init (mem pat : Int) (f1 f2 : List Int) : Inv (MW.init mem pat f1 f2) := by
 have hz : ∀ n, (MW.init mem pat f1 f2).lg n = Lg.z := fun n => by unfold MW.lg; split; rfl; split <;> rfl
 have hc : ∀ d, ¬ Cd (MW.init mem pat f1 f2) d := fun d h => by cases h
 refine ⟨fun n _ _ => by rw [hz]; rfl, (fun m hm => nomatch hm), (fun m hm => nomatch hm), (fun m hm => nomatch hm), (fun m hm => nomatch hm), fun d hs => ?_, fun d hs => ?_, fun d hs => ?_, fun d _ => hc d, fun d h => absurd h (hc d), fun n d _ hr => ?_, fun n d _ hr => ?_⟩
 ·exact absurd (show (0 : Int) = 1 from hs) (by decide)
 ·exact absurd (show (0 : Int) = 2 from hs) (by decide)
 ·exact absurd (show (0 : Int) = 4 from hs) (by decide)
 ·rw [hz] at hr; exact nomatch hr
 ·rw [hz] at hr; exact nomatch hr
end Go.Proofs.Ytijffdhailddoaa
