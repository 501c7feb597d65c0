import Derived.Test.YteagflekbbchhaaSfH
import Derived.Test.YteagflekbbchhaaSfE
set_option maxRecDepth 100000
namespace Go.Proofs.Yteagflekbbchhaa
open Go.RowKit Go.Proofs
theorem noRec {X : MW} (hG : Good X) {n : Int} (hn : N3 n) {k d : Int} (hd : (X.deals.length : Int) < d) : (k, d) ∉ (X.lg n).recs := fun hr => by
 have := (hG.rc n hn _ hr).1.2
 dsimp only at this
 omega
theorem Inv.begin {X : MW} (h : Inv X) (hG : Good X) (d : Dl) : Inv (X.begin d) := by
 have hD : Inv { X with deals := X.deals ++ [d] } := ⟨h.up, h.yes, h.do_, h.drop, h.ack, h.asking, h.doing, h.over, h.und, h.dec, h.done, h.drpd⟩
 have hne : ∀ m ∈ X.bag, m.d ≠ (X.deals.length : Int) + 1 := fun m hm e => by have := (hG.bg m hm).2.2; omega
 have hY : Inv ({ X with deals := X.deals ++ [d] } : MW) := hD
 have kn : ∀ e, e ≠ (X.deals.length : Int) + 1 → upd X.kn ((X.deals.length : Int) + 1) (Ds.s 1) e = X.kn e := fun e he => upd_ne _ _ he
 have hK : Inv (({ X with deals := X.deals ++ [d] } : MW).know ((X.deals.length : Int) + 1) (Ds.s 1)) := by
  refine ⟨h.up, h.yes, h.do_, fun m hm hk => ?_, fun m hm hk => ?_, fun e hs => ?_, fun e hs => ?_, fun e hs hc => ?_, fun e hs => ?_, h.dec, h.done, fun n e hn hr => ?_⟩
  ·have := h.drop m hm hk
   show (upd X.kn _ (Ds.s 1) m.d).st ≠ 1 ∧ _
   rw [kn _ (hne m hm)]; exact this
  ·have := h.ack m hm hk
   show (upd X.kn _ (Ds.s 1) m.d).st ≠ 1 ∧ _
   rw [kn _ (hne m hm)]; exact this
  ·by_cases q : e = (X.deals.length : Int) + 1
   ·show ((upd X.kn _ (Ds.s 1) e).h1 = true → _) ∧ _
    subst q
    have e1 : (({ X with deals := X.deals ++ [d] } : MW).know ((X.deals.length : Int) + 1) (Ds.s 1)).kn ((X.deals.length : Int) + 1) = Ds.s 1 := upd_same _ _ _
    rw [upd_same, e1]
    exact ⟨fun hh => Bool.noConfusion hh, fun hh => Bool.noConfusion hh⟩
   ·have e1 : (({ X with deals := X.deals ++ [d] } : MW).know ((X.deals.length : Int) + 1) (Ds.s 1)).kn e = X.kn e := kn e q
    rw [e1] at hs ⊢
    exact h.asking e hs
  ·by_cases q : e = (X.deals.length : Int) + 1
   ·subst q
    have e1 : (({ X with deals := X.deals ++ [d] } : MW).know ((X.deals.length : Int) + 1) (Ds.s 1)).kn ((X.deals.length : Int) + 1) = Ds.s 1 := upd_same _ _ _
    rw [e1] at hs
    exact absurd (show (1 : Int) = 2 from hs) (by decide)
   ·have e1 : (({ X with deals := X.deals ++ [d] } : MW).know ((X.deals.length : Int) + 1) (Ds.s 1)).kn e = X.kn e := kn e q
    rw [e1] at hs ⊢
    exact h.doing e hs
  ·by_cases q : e = (X.deals.length : Int) + 1
   ·subst q
    exact absurd hc (noRec hG (n := 0) (.inl rfl) (by omega))
   ·have e1 : (({ X with deals := X.deals ++ [d] } : MW).know ((X.deals.length : Int) + 1) (Ds.s 1)).kn e = X.kn e := kn e q
    rw [e1] at hs
    exact h.over e hs hc
  ·by_cases q : e = (X.deals.length : Int) + 1
   ·subst q
    exact noRec hG (n := 0) (.inl rfl) (by omega)
   ·have e1 : (({ X with deals := X.deals ++ [d] } : MW).know ((X.deals.length : Int) + 1) (Ds.s 1)).kn e = X.kn e := kn e q
    rw [e1] at hs
    exact h.und e hs
  ·by_cases q : e = (X.deals.length : Int) + 1
   ·subst q
    exact absurd hr (noRec hG (N3.s hn) (by omega))
   ·have e1 : (({ X with deals := X.deals ++ [d] } : MW).know ((X.deals.length : Int) + 1) (Ds.s 1)).kn e = X.kn e := kn e q
    rw [e1]
    exact h.drpd n e hn hr
 exact Inv.both hK false false (by decide) (by decide) (fun e => absurd e (by decide)) (fun e => absurd e (by decide))
theorem keeps_begin (X : MW) (d : Dl) : Keeps X (X.begin d) := by
 intro n hn
 have e : (X.begin d).lg n = X.lg n := congrFun (MW.turn_same { X with deals := X.deals ++ [d] } _ _ _).1 n
 rw [e]
 exact Keep.refl _
theorem dlok {X : MW} {d : Dl} (h : bcode X d = 0) : d.Ok X ∧ X.deals.length < 1000 := by
 unfold bcode at h
 split at h; cases h
 next hb =>
 split at h; cases h
 split at h; cases h
 next hl =>
 unfold DlBad at hb
 unfold Dl.Ok
 refine ⟨⟨?_, ?_, ?_, ?_, ?_⟩, by omega⟩ <;> omega
theorem act_keeps {X : MW} (h : Inv X) (hG : Good X) (kind : Int) (d : Dl) (n kept : Int) (hk : kept ≤ 9223372036854775807) : Inv (X.act kind d n kept) ∧ Good (X.act kind d n kept) ∧ Keeps X (X.act kind d n kept) ∧ phi (X.act kind d n kept) ≤ phi X + 120000 := by
 have r : Inv X ∧ Good X ∧ Keeps X X ∧ phi X ≤ phi X + 120000 := ⟨h, hG, Keeps.refl X, by omega⟩
 have hkm := mod_u kept 20 (by decide)
 unfold MW.act
 dsimp only
 split
 ·split
  ·next e =>
   have := dlok e
   exact ⟨h.begin hG d, hG.begin this.1 this.2, keeps_begin X d, by have := phi_begin X d; omega⟩
  ·exact r
 ·split
  ·split
   ·next hi =>
    have hm := hG.bg _ (getD_bag hi)
    have hs := h.says (getD_bag hi)
    have hG1 := hG.dropAt n.toNat
    have h1 := h.dropAt n.toNat
    have p1 := phi_dropAt (X := X) (i := n.toNat) (by omega)
    have p2 := phi_bring (X := X.dropAt n.toNat) hm.2
    refine ⟨h1.bring hG1 hm hs, hG1.bring hm, ((Step.bag X _).trans (Step.bring hG1 hm)).keep, ?_⟩
    unfold MW.deliver
    omega
   ·exact r
  ·split
   ·split
    ·next hi =>
     have p1 := phi_dropAt (X := X) (i := n.toNat) (by omega)
     exact ⟨h.dropAt _, hG.dropAt _, (Step.bag X _).keep, by omega⟩
    ·exact r
   ·split
    ·split
     ·next hi =>
      have hi2 : 0 ≤ n ∧ n < X.bag.length := ⟨hi.1, hi.2.1⟩
      exact ⟨h.sends (h.says (getD_bag hi2)), hG.send (hG.bg _ (getD_bag hi2)), (Step.send X _).keep, by rw [phi_send]; omega⟩
     ·exact r
    ·split
     ·split
      ·next hn => exact ⟨h.tick0 hG hn, hG.tick0 hn, (Step.tick0 X n).keep, by have := phi_tick0 X n; have := hG.dn; omega⟩
      ·exact r
     ·split
      ·split
       ·next hn => exact ⟨h.crash hG hn.1 hn.2.1, hG.crash hn.1 _, (Step.crash hG hn.1 hn.2.1).keep, by have := phi_crash X n kept; omega⟩
       ·exact r
      ·split
       ·split
        ·next hn => exact ⟨h.restart hG hn, hG.restart hn, (Step.restart hn).keep, by have := phi_restart X n; omega⟩
        ·exact r
       ·split
        ·split
         ·next hn => exact ⟨h.unfuse hG hn.1 _, hG.unfuse hn.1 ⟨by omega, by omega⟩, (Step.unfuse hn.1 _).keep, by rw [phi_unfuse]; omega⟩
         ·exact r
        ·refine ⟨h.heal hG _, hG.heal _, (Step.heal hG _).keep, ?_⟩
         have p := phi_heal hG (IntKind.i64.wrap (IntKind.u64.wrap kept % 20)).toNat
         have q : 6 * X.deals.length * (IntKind.i64.wrap (IntKind.u64.wrap kept % 20)).toNat ≤ 6 * 1000 * 20 := Nat.mul_le_mul (by have := hG.dn; omega) (by omega)
         omega
theorem Inv.init (mem pat : Int) (f1 f2 : List Int) : Inv (MW.init mem pat f1 f2) := by
 have hz : ∀ n, (MW.init mem pat f1 f2).lg n = Lg.z := fun n => by unfold MW.lg; split; rfl; split <;> rfl
 have hc : ∀ d, ¬ Cd (MW.init mem pat f1 f2) d := fun d h => by cases h
 refine ⟨fun n _ _ => by rw [hz]; rfl, (fun m hm => nomatch hm), (fun m hm => nomatch hm), (fun m hm => nomatch hm), (fun m hm => nomatch hm), fun d hs => ?_, fun d hs => ?_, fun d hs => ?_, fun d _ => hc d, fun d h => absurd h (hc d), fun n d _ hr => ?_, fun n d _ hr => ?_⟩
 ·exact absurd (show (0 : Int) = 1 from hs) (by decide)
 ·exact absurd (show (0 : Int) = 2 from hs) (by decide)
 ·exact absurd (show (0 : Int) = 4 from hs) (by decide)
 ·rw [hz] at hr; exact nomatch hr
 ·rw [hz] at hr; exact nomatch hr
end Go.Proofs.Yteagflekbbchhaa
