import Derived.Test.YtijffdhailddoaaSgC
set_option maxRecDepth 100000
namespace Go.Proofs.Ytijffdhailddoaa
open Go.RowKit Go.Proofs
theorem restart_calmP {X : MW} (h : Calm X) {n : Int} (hn : N3 n) : X.restart n = X := by
 unfold MW.restart
 dsimp only
 rw [if_neg (by rw [(h n hn).1]; exact Bool.noConfusion)]
theorem unfuse_calmP {X : MW} (h : Calm X) {n : Int} (hn : N3 n) : X.unfuse n 0 = X := by
 have e : ({ X.lg n with fuse := 0 } : Lg) = X.lg n := by
  have := (h n hn).2
  cases q : X.lg n with
  | mk a b c d =>
   rw [q] at this
   have : c = 0 := this
   rw [this]
 unfold MW.unfuse
 rw [e]
 unfold MW.setLg MW.lg
 rcases hn with rfl | rfl | rfl <;> rfl
theorem wake_calmP {X : MW} (h : Calm X) : X.wake = X := by
 have k : ∀ n, N3 n → X.wake1 n = X := fun n hn => by unfold MW.wake1; rw [restart_calmP h hn, unfuse_calmP h hn]
 unfold MW.wake
 rw [k 0 (.inl rfl), k 1 (.inr (.inl rfl)), k 2 (.inr (.inr rfl))]
theorem cTick_no3 (X : MW) : ∀ k : Nat, Emits (fun x => x.k ≠ 3) X (X.cTick k)
 | 0 => Emits.refl _ X
 | k + 1 => by
  refine (cTick_no3 X k).trans ?_
  show Emits _ (X.cTick k) ((X.cTick k).cTick1 ((k : Int) + 1))
  unfold MW.cTick1
  dsimp only
  have kk : ∀ (Y : MW) (s : Ds), Emits (fun x : Ms => x.k ≠ 3) Y (Y.know ((k : Int) + 1) s) := fun Y s => Emits.same rfl
  split
  ·split
   ·exact (kk _ _).trans (Emits.turn fun t => (by decide : (5 : Int) ≠ 3))
   ·exact (kk _ _).trans (Emits.both _ _ fun t => (by decide : (1 : Int) ≠ 3))
  ·split
   ·exact Emits.both _ _ fun t => (by decide : (4 : Int) ≠ 3)
   ·split
    ·exact Emits.both _ _ fun t => (by decide : (5 : Int) ≠ 3)
    ·exact Emits.refl _ _
theorem round_of {X : MW} (hc : Calm X) (hG : Good X) : ∃ Y, Y = ({ X with bag := [] } : MW).bringAll X.bag ∧ X.round.lg = Y.lg ∧ (∀ d : Int, 1 ≤ d → d ≤ X.deals.length → X.round.kn d = tk Y.pat (Y.kn d)) ∧ (∀ d : Int, ¬ (1 ≤ d ∧ d ≤ X.deals.length) → X.round.kn d = Y.kn d) ∧ Emits (fun x => x.k ≠ 3) Y X.round ∧ cfg Y = cfg X := by
 obtain ⟨Y, hY, hcY, hGY, hcf, e⟩ := round_parts hc hG
 have h1 := MW.cTick_same Y X.deals.length
 refine ⟨Y, hY, ?_, fun d h0 h2 => ?_, fun d hd => ?_, ?_, hcf⟩
 ·rw [e, (MW.sTick_same _ 2 _).1, (MW.sTick_same _ 1 _).1, h1.1]
 ·rw [e, sTick_kn, sTick_kn, cTick_kn _ _ d h0 h2]
 ·rw [e, sTick_kn, sTick_kn, h1.2.2.2.1 d (by omega)]
 ·rw [e]
  exact (cTick_no3 Y _).trans (((sTick_emits _ 1 _).mono fun x hx => by omega).trans ((sTick_emits _ 2 _).mono fun x hx => by omega))
theorem tk_one {p : Int} {s : Ds} (h : (tk p s).st = 1) : s.st = 1 ∧ (tk p s).h1 = s.h1 ∧ (tk p s).h2 = s.h2 := by
 unfold tk at *
 split at h
 ·next e =>
  rw [if_pos e]
  split at h
  ·exact absurd (show (3 : Int) = 1 from h) (by decide)
  ·next q => rw [if_neg q]; exact ⟨e, rfl, rfl⟩
 ·next e => exact absurd h e
theorem Yes.round {X : MW} (h : Yes X) (hw : ∀ d : Int, ((({ X with bag := [] } : MW).bringAll X.bag).kn d).st = 1 → ((({ X with bag := [] } : MW).bringAll X.bag).kn d).wt + 1 ≠ X.pat) : Yes X.round := by
 obtain ⟨Y, rfl, e1, e2, e3, e4, e5⟩ := round_of h.calm h.good
 obtain ⟨hY, _, _⟩ := yes_all X.bag { X with bag := [] } h.empty h.sound
 have hp : (({ X with bag := [] } : MW).bringAll X.bag).pat = X.pat := cfg_pat e5
 have hdl : (({ X with bag := [] } : MW).bringAll X.bag).deals = X.deals := cfg_deals e5
 generalize ({ X with bag := [] } : MW).bringAll X.bag = Y at *
 have hcr : cfg X.round = cfg X := cfg_round X
 have hcd : ∀ d, Cd Y d → Cd X.round d := fun d hd => by
  have : X.round.lg 0 = Y.lg 0 := by rw [e1]
  show (4, d) ∈ (X.round.lg 0).recs
  rw [this]; exact hd
 refine ⟨h.calm.round h.good, h.good.round, h.inv.round h.good, h.linv.round h.good, h.pays.cfg hcr.symm, fun d h1 h2 => ?_, fun m hm => ?_, fun n d hn => ?_, fun d hd => ?_⟩
 ·rw [cfg_deals hcr] at h2
  rw [e2 d h1 h2]
  rcases hY.nd d h1 (by rw [hdl]; exact h2) with q | q
  ·left
   unfold tk
   rw [if_pos q, if_neg (by rw [hp]; exact hw d q)]
   exact q
  ·exact .inr (hcd d q)
 ·rcases e4.of hm with q | q
  ·exact hY.no m q
  ·exact q
 ·rw [e1]; exact hY.r3 n d hn
 ·by_cases hr : 1 ≤ d ∧ d ≤ X.deals.length
  ·rw [e2 d hr.1 hr.2] at hd ⊢
   obtain ⟨g1, g2, g3⟩ := tk_one hd
   rw [g2, g3]
   exact hY.ab d g1
  ·rw [e3 d hr] at hd ⊢
   exact hY.ab d hd
theorem Way.start {X : MW} (hw : Way X []) : Way { X with bag := [] } X.bag := fun d n h1 h2 hd hn => by
 rcases hw d n h1 h2 hd hn with q | q | q | q | q
 ·exact .inl q
 ·exact nomatch q
 ·exact .inr (.inl q)
 ·exact nomatch q
 ·exact .inr (.inr (.inr (.inl q)))
theorem Way.round {X : MW} (h : Yes X) (hw : Way X []) : Way2 { X.round with bag := [] } X.round.bag := by
 obtain ⟨Y, rfl, e1, e2, e3, e4, e5⟩ := round_of h.calm h.good
 obtain ⟨hY, hE, hW, _, _⟩ := yes_all X.bag { X with bag := [] } h.empty h.sound
 have hW := hW hw.start
 have hdl : (({ X with bag := [] } : MW).bringAll X.bag).deals = X.deals := cfg_deals e5
 have hdr : X.round.deals = X.deals := cfg_deals (cfg_round X)
 intro d n h1 h2 hd hn
 have h2' : d ≤ X.deals.length := by
  have : d ≤ (X.round.deals.length : Int) := h2
  rwa [hdr] at this
 have hd' : (X.round.kn d).st = 1 := hd
 rw [e2 d h1 h2'] at hd'
 obtain ⟨g1, g2, g3⟩ := tk_one hd'
 have hh : hdn n (X.round.kn d) = hdn n ((({ X with bag := [] } : MW).bringAll X.bag).kn d) := by
  rw [e2 d h1 h2']
  unfold hdn
  rw [g2, g3]
 rcases hW d n h1 (by rw [hdl]; exact h2') g1 hn with q | q | q | q | q
 ·left; show hdn n (X.round.kn d) = true; rw [hh]; exact q
 ·exact nomatch q
 ·exact .inr (e4.mem q)
 ·exact nomatch q
 ·rcases hE.of q with q | q
  ·exact nomatch q
  ·exact absurd rfl q.1
theorem Way2.noAsk {X : MW} (h : Yes X) (hw : Way2 { X with bag := [] } X.bag) : NoAsk (({ X with bag := [] } : MW).bringAll X.bag) := fun d h1 h2 hd => by
 obtain ⟨hY, _, _, hW, _⟩ := yes_all X.bag { X with bag := [] } h.empty h.sound
 have hW := hW hw
 have q1 := hW d 1 h1 h2 hd (.inl rfl)
 have q2 := hW d 2 h1 h2 hd (.inr rfl)
 refine hY.ab d hd ⟨?_, ?_⟩
 ·rcases q1 with q | q
  ·exact q
  ·exact nomatch q
 ·rcases q2 with q | q
  ·exact q
  ·exact nomatch q
end Go.Proofs.Ytijffdhailddoaa
