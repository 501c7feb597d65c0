/- Chapter 8, plain: at last nothing is under way. -/
import Derived.Test.YteagflekbbchhaaSfS
set_option maxRecDepth 100000
namespace Go.Proofs.Yteagflekbbchhaa
open Go.RowKit Go.Proofs

/-- What the coordinator knows of a deal behind an answer. -/
def acked (s : Ds) (f : Int) : Ds := if (s.hear f).h1 = true ∧ (s.hear f).h2 = true then { s.hear f with st := 4 } else s.hear f
theorem cTake_kn {X : MW} {m : Ms} (h : (X.kn m.d).st ≠ 1) (d : Int) : (X.cTake m).1.kn d = if (m.k = 6 ∧ ((X.kn m.d).st = 2 ∨ (X.kn m.d).st = 3)) ∧ d = m.d then acked (X.kn m.d) m.f else X.kn d := by
  unfold MW.cTake
  dsimp only
  rw [if_neg fun g => h g.2]
  split
  · next g => rw [if_neg (by omega)]; rfl
  · split
    · next g => rw [if_neg (by omega)]; rfl
    · rw [if_neg fun g => h g.2]
      split
      · next g =>
        show upd X.kn m.d _ d = _
        unfold upd
        by_cases q : d = m.d
        · rw [if_pos q, if_pos (show (m.k = 6 ∧ ((X.kn m.d).st = 2 ∨ (X.kn m.d).st = 3)) ∧ d = m.d from ⟨g, q⟩)]; rfl
        · rw [if_neg q, if_neg fun h => q h.2]
      · next g => rw [if_neg fun h => g h.1]
/-- How what is known of a deal goes on when nothing is asked for. -/
structure Goes (s t : Ds) : Prop where
  open_ : t.st = 2 ∨ t.st = 3 → s.st = t.st ∧ (s.h1 = true → t.h1 = true) ∧ (s.h2 = true → t.h2 = true)
  shut : s.st = 0 ∨ s.st = 4 → t = s
  both : (s.st = 2 ∨ s.st = 3 → ¬ (s.h1 = true ∧ s.h2 = true)) → (t.st = 2 ∨ t.st = 3 → ¬ (t.h1 = true ∧ t.h2 = true))
theorem Goes.refl (s : Ds) : Goes s s := ⟨fun _ => ⟨rfl, id, id⟩, fun _ => rfl, id⟩
theorem Goes.trans {s t u : Ds} (h1 : Goes s t) (h2 : Goes t u) : Goes s u :=
  ⟨fun h => by
    obtain ⟨a, b, c⟩ := h2.open_ h
    obtain ⟨a', b', c'⟩ := h1.open_ (by rw [a]; exact h)
    exact ⟨a'.trans a, fun x => b (b' x), fun x => c (c' x)⟩, fun h => by
    have e := h1.shut h
    rw [h2.shut (by rw [e]; exact h), e], fun h => h2.both (h1.both h)⟩
theorem goes_acked {s : Ds} {f : Int} (hs : s.st = 2 ∨ s.st = 3) : Goes s (acked s f) := by
  have hh := hear_wt s f
  have h1 : s.h1 = true → (s.hear f).h1 = true := fun h => by unfold Ds.hear; split; rfl; exact h
  have h2 : s.h2 = true → (s.hear f).h2 = true := fun h => by unfold Ds.hear; split; exact h; rfl
  unfold acked
  split
  · exact ⟨fun h => by have : (4 : Int) = 2 ∨ (4 : Int) = 3 := h; omega, fun h => by omega, fun _ h => by have : (4 : Int) = 2 ∨ (4 : Int) = 3 := h; omega⟩
  · next q => exact ⟨fun _ => ⟨hh.2.symm, h1, h2⟩, fun h => by omega, fun _ _ => q⟩
def GoesK (X Y : MW) : Prop := ∀ d, Goes (X.kn d) (Y.kn d)
theorem GoesK.refl (X : MW) : GoesK X X := fun _ => Goes.refl _
theorem GoesK.trans {X Y Z : MW} (h1 : GoesK X Y) (h2 : GoesK Y Z) : GoesK X Z := fun d => (h1 d).trans (h2 d)
theorem goes_bring {X : MW} (hc : Calm X) (hq : NoAsk X) {m : Ms} (hm : MsOk X m) : GoesK X (X.bring m) := fun d => by
  rw [bring_calm hc hm]
  split
  · rw [cTake_kn (hq m.d hm.2.1 hm.2.2)]
    split
    · next g => rw [g.2]; exact goes_acked g.1.2
    · exact Goes.refl _
  · rw [sTake_kn]; exact Goes.refl _
theorem goes_bringAll : ∀ (l : List Ms) (X : MW), Calm X → Good X → NoAsk X → (∀ m ∈ l, MsOk X m) → GoesK X (X.bringAll l)
  | [], X, _, _, _, _ => GoesK.refl X
  | m :: l, X, hc, hG, hq, hl => by
    have hm := hl m (List.mem_cons_self ..)
    exact (goes_bring hc hq hm).trans (goes_bringAll l (X.bring m) (hc.bring hm) (hG.bring hm) (hq.bring hG hm) fun x hx => (hl x (List.mem_cons_of_mem _ hx)).cfg (cfg_bring X m).symm)
/-- In a round after the last question a tick leaves what is known. -/
theorem round_kn {X : MW} (h : Still1 X) : ∀ d, X.round.kn d = (({ X with bag := [] } : MW).bringAll X.bag).kn d := fun d => by
  obtain ⟨Y, eY, hY, hGY, hcY, e⟩ := round_parts h.calm h.good
  have hqY : NoAsk Y := by
    rw [eY]
    exact h.ask.step ((Step.bag X []).trans (Step.bringAll _ _ (h.good.sub fun _ h => nomatch h) fun m hm => h.good.bg m hm)) (cfg_bringAll _ _)
  rw [← eY, e, sTick_kn, sTick_kn]
  by_cases q : 1 ≤ d ∧ d ≤ X.deals.length
  · rw [cTick_kn _ _ d q.1 q.2]
    unfold tk
    rw [if_neg (hqY d q.1 (by rw [cfg_deals hcY]; exact q.2))]
  · exact (MW.cTick_same Y X.deals.length).2.2.2.1 d (by omega)
theorem round_goes {X : MW} (h : Still1 X) : GoesK X X.round := fun d => by
  rw [round_kn h d]
  exact goes_bringAll X.bag { X with bag := [] } h.calm (h.good.sub fun _ h => nomatch h) h.ask (fun m hm => h.good.bg m hm) d

/-- Nothing is asked for, prepared, or about to be. -/
structure Still2 (X : MW) : Prop extends Still1 X where
  prep : NoPrep X
  inv : Inv X
theorem Still2.round {X : MW} (h : Still2 X) : Still2 X.round := ⟨h.toStill1.round, h.toStill1.noPrep h.prep, h.inv.round h.good⟩
/-- Which messages a round brings forth. -/
def Emit2 (l : List Ms) (x : Ms) : Prop := ((∃ m ∈ l, m.k = 2) ∧ (x.k = 4 ∨ x.k = 5)) ∨ ((∃ m ∈ l, m.k = 4 ∨ m.k = 5) ∧ x.k = 6)
theorem bringAll_emit2 : ∀ (l : List Ms) (X : MW), Calm X → Good X → NoAsk X → (∀ m ∈ l, MsOk X m ∧ m.k ≠ 1) → Emits (Emit2 l) X (X.bringAll l)
  | [], X, _, _, _, _ => Emits.refl _ X
  | m :: l, X, hc, hG, hq, hl => by
    have hm := hl m (List.mem_cons_self ..)
    have h1 : Emits (Emit2 (m :: l)) X (X.bring m) := by
      rw [bring_calm hc hm.1]
      split
      · exact (cTake_emits (hq m.d hm.1.2.1 hm.1.2.2)).1.mono fun x hx => .inl ⟨⟨m, List.mem_cons_self .., hx.1⟩, hx.2⟩
      · exact (sTake_emits (by have := hm.1.1; omega) hm.2).mono fun x hx => .inr ⟨⟨m, List.mem_cons_self .., hx.1⟩, hx.2⟩
    have h2 := bringAll_emit2 l (X.bring m) (hc.bring hm.1) (hG.bring hm.1) (hq.bring hG hm.1) fun x hx => ⟨(hl x (List.mem_cons_of_mem _ hx)).1.cfg (cfg_bring X m).symm, (hl x (List.mem_cons_of_mem _ hx)).2⟩
    refine h1.trans (h2.mono fun x hx => ?_)
    rcases hx with ⟨⟨y, hy, h3⟩, h4⟩ | ⟨⟨y, hy, h3⟩, h4⟩
    · exact .inl ⟨⟨y, List.mem_cons_of_mem _ hy, h3⟩, h4⟩
    · exact .inr ⟨⟨y, List.mem_cons_of_mem _ hy, h3⟩, h4⟩
theorem sTick_none {X : MW} {n : Int} : ∀ k : Nat, (∀ d : Int, 1 ≤ d → d ≤ k → (X.lg n).state d ≠ 1) → X.sTick n k = X
  | 0, _ => rfl
  | k + 1, h => by
    show (X.sTick n k).sTick1 n ((k : Int) + 1) = X
    rw [sTick_none k fun d h1 h2 => h d h1 (by omega)]
    unfold MW.sTick1
    rw [if_neg (h _ (by omega) (by omega))]
/-- Deals that wait for answers. -/
def Open (X : MW) : Prop := ∃ d : Int, (1 ≤ d ∧ d ≤ X.deals.length) ∧ ((X.kn d).st = 2 ∨ (X.kn d).st = 3)
theorem cTick_none {X : MW} (hq : NoAsk X) (ho : ¬ Open X) : ∀ k : Nat, k ≤ X.deals.length → X.cTick k = X
  | 0, _ => rfl
  | k + 1, hk => by
    show (X.cTick k).cTick1 ((k : Int) + 1) = X
    rw [cTick_none hq ho k (by omega)]
    unfold MW.cTick1
    dsimp only
    have h1 := hq ((k : Int) + 1) (by omega) (by omega)
    rw [if_neg h1, if_neg fun e => ho ⟨(k : Int) + 1, by omega, .inl e⟩, if_neg fun e => ho ⟨(k : Int) + 1, by omega, .inr e⟩]
/-- The parts of such a round. -/
theorem still2_parts {X : MW} (h : Still2 X) : ∃ Y, Y = ({ X with bag := [] } : MW).bringAll X.bag ∧ Emits (Emit2 X.bag) { X with bag := [] } Y ∧ NoAsk Y ∧ NoPrep Y ∧ cfg Y = cfg X ∧ X.round = Y.cTick X.deals.length := by
  obtain ⟨Y, eY, hY, hGY, hcY, e⟩ := round_parts h.calm h.good
  have hqY : NoAsk Y := by
    rw [eY]
    exact h.ask.step ((Step.bag X []).trans (Step.bringAll _ _ (h.good.sub fun _ h => nomatch h) fun m hm => h.good.bg m hm)) (cfg_bringAll _ _)
  have hp : NoPrep Y := fun n d hn h1 h2 hs => by
    rw [eY] at hs
    rw [cfg_deals hcY] at h2
    exact h.prep n d hn h1 h2 (bringAll_state hn X.bag { X with bag := [] } h.calm (fun m hm => ⟨h.good.bg m hm, h.bag m hm⟩) hs).1
  have he : Emits (Emit2 X.bag) { X with bag := [] } Y := by
    rw [eY]
    exact bringAll_emit2 X.bag { X with bag := [] } h.calm (h.good.sub fun _ h => nomatch h) h.ask fun m hm => ⟨h.good.bg m hm, h.bag m hm⟩
  refine ⟨Y, eY, he, hqY, hp, hcY, ?_⟩
  have l0 := (MW.cTick_same Y X.deals.length).1
  have z1 : (Y.cTick X.deals.length).sTick 1 X.deals.length = Y.cTick X.deals.length := sTick_none _ fun d h1 h2 => by rw [l0]; exact hp 1 d (.inl rfl) h1 (by rw [cfg_deals hcY]; exact h2)
  have z2 : (Y.cTick X.deals.length).sTick 2 X.deals.length = Y.cTick X.deals.length := sTick_none _ fun d h1 h2 => by rw [l0]; exact hp 2 d (.inr rfl) h1 (by rw [cfg_deals hcY]; exact h2)
  rw [e, z1, z2]
theorem bag456 {X : MW} (h : Still2 X) : ∀ x ∈ X.round.bag, x.k = 4 ∨ x.k = 5 ∨ x.k = 6 := by
  obtain ⟨Y, eY, he, hqY, hp, hcY, e⟩ := still2_parts h
  intro x hx
  rw [e] at hx
  rcases (cTick_emits hqY _ (by rw [cfg_deals hcY]; exact Nat.le_refl _)).of hx with hx | hx
  · rcases he.of hx with hx | hx
    · exact nomatch hx
    · rcases hx with ⟨_, h4⟩ | ⟨_, h4⟩ <;> omega
  · omega
theorem bag6 {X : MW} (h : Still2 X) (hb : ∀ x ∈ X.bag, x.k = 4 ∨ x.k = 5 ∨ x.k = 6) (ho : ¬ Open X) : ∀ x ∈ X.round.bag, x.k = 6 ∧ ∃ m ∈ X.bag, m.k = 4 ∨ m.k = 5 := by
  obtain ⟨Y, eY, he, hqY, hp, hcY, e⟩ := still2_parts h
  have hoY : ¬ Open Y := fun ⟨d, hd, hs⟩ => by
    refine ho ⟨d, by rw [cfg_deals hcY] at hd; exact hd, ?_⟩
    have hg := goes_bringAll X.bag { X with bag := [] } h.calm (h.good.sub fun _ h => nomatch h) h.ask (fun m hm => h.good.bg m hm) d
    rw [← eY] at hg
    have := (hg.open_ hs).1
    have e2 : (X.kn d).st = (Y.kn d).st := this
    rw [e2]; exact hs
  intro x hx
  rw [e, cTick_none hqY hoY _ (by rw [cfg_deals hcY]; exact Nat.le_refl _)] at hx
  rcases he.of hx with hx | hx
  · exact nomatch hx
  · rcases hx with ⟨⟨m, hm, h2⟩, _⟩ | ⟨hm, h6⟩
    · have := hb m hm; omega
    · exact ⟨h6, hm⟩
theorem not_open {X : MW} (h : Still1 X) (ho : ¬ Open X) : ¬ Open X.round := fun ⟨d, hd, hs⟩ => by
  rw [cfg_deals (cfg_round X)] at hd
  have := ((round_goes h d).open_ hs).1
  exact ho ⟨d, hd, by rw [this]; exact hs⟩
end Go.Proofs.Yteagflekbbchhaa
