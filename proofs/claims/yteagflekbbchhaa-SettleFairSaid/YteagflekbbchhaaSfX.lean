/- Chapter 8, plain: what becomes of one deal. -/
import Derived.Test.YteagflekbbchhaaSfW
set_option maxRecDepth 100000
namespace Go.Proofs.Yteagflekbbchhaa
open Go.RowKit Go.Proofs

theorem rounds_add (X : MW) (j : Nat) : ∀ i, (X.rounds j).rounds i = X.rounds (j + i)
  | 0 => rfl
  | i + 1 => by
    show ((X.rounds j).rounds i).round = (X.rounds (j + i)).round
    rw [rounds_add X j i]
theorem state_none {X : MW} (hG : Good X) {n d : Int} (hn : N3 n) (hd : (X.deals.length : Int) < d) : (X.lg n).state d = 0 := by
  unfold Lg.state
  rw [if_neg (noRec hG hn hd), if_neg (noRec hG hn hd), if_neg (noRec hG hn hd)]
theorem free_cfg {X Y : MW} (hc : cfg X = cfg Y) {n : Int} (hl : (X.lg n).recs = (Y.lg n).recs) (i : Int) : X.free n i = Y.free n i := by
  unfold MW.free MW.bal MW.held
  rw [accs_cfg hc, hl]
theorem amt_cfg {X Y : MW} (hc : cfg X = cfg Y) (n d : Int) : X.amount n d = Y.amount n d ∧ X.payer n d = Y.payer n d := by
  have h1 : X.deal d = Y.deal d := by unfold MW.deal; rw [cfg_deals hc]
  unfold MW.amount MW.payer
  rw [h1]
  exact ⟨rfl, rfl⟩
theorem cTick_emitsAny (X : MW) : ∀ k : Nat, Emits (fun _ => True) X (X.cTick k)
  | 0 => Emits.refl _ X
  | k + 1 => by
    refine (cTick_emitsAny X k).trans ?_
    show Emits _ (X.cTick k) ((X.cTick k).cTick1 ((k : Int) + 1))
    unfold MW.cTick1
    dsimp only
    have b : ∀ (Z : MW) (q e : Int) (h1 h2 : Bool), Z.bag = (X.cTick k).bag → Emits (fun _ => True) (X.cTick k) (Z.both q e h1 h2) := fun Z q e h1 h2 hb => (Emits.same hb).trans (Emits.both h1 h2 fun _ => trivial)
    split
    · split
      · exact b _ _ _ _ _ rfl
      · exact b _ _ _ _ _ rfl
    · split
      · exact b _ _ _ _ _ rfl
      · split
        · exact b _ _ _ _ _ rfl
        · exact Emits.refl _ _
/-- Whether both can pay. -/
def can (X : MW) (d : Dl) : Prop := d.m ≤ X.free 1 (d.b - 1) ∧ d.g ≤ X.free 2 (d.s - 1)
theorem fair_step {X : MW} (hX : Quiet X) {d : Dl} (hok : d.Ok X) (hlt : X.deals.length < 1000) (hpat : 2 ≤ X.pat) :
    Quiet ((X.begin d).heal (X.pat + 8).toNat) ∧ ∀ n, n = 1 ∨ n = 2 → ((((X.begin d).heal (X.pat + 8).toNat).lg n).state ((X.deals.length : Int) + 1) = 2 ↔ can X d) := by
  obtain ⟨hc1, hG1, hI1, hB1⟩ := hX.begin_ok hok hlt
  have hlen : (X.begin d).deals.length = X.deals.length + 1 := by
    have h : cfg (X.begin d) = cfg { X with deals := X.deals ++ [d] } := cfg_turn { X with deals := X.deals ++ [d] } ((X.deals.length : Int) + 1) 1 1
    rw [cfg_deals h]; simp
  have hcf : cfg (X.begin d) = cfg { X with deals := X.deals ++ [d] } := cfg_turn { X with deals := X.deals ++ [d] } ((X.deals.length : Int) + 1) 1 1
  have hp1 : (X.begin d).pat = X.pat := congrArg (fun p => p.2.1) hcf
  have hbag : (X.begin d).bag = [⟨0, 1, 1, (X.deals.length : Int) + 1⟩, ⟨0, 2, 1, (X.deals.length : Int) + 1⟩] := by
    show (X.bag ++ [_]) ++ [_] = _
    rw [hX.none]; rfl
  have hkn : (X.begin d).kn ((X.deals.length : Int) + 1) = Ds.s 1 := by
    have := (MW.turn_same { X with deals := X.deals ++ [d] } ((X.deals.length : Int) + 1) 1 1).2.2.2
    show (MW.turn { X with deals := X.deals ++ [d] } ((X.deals.length : Int) + 1) 1 1).kn _ = _
    rw [this, upd_same]
  have hlg : (X.begin d).lg = X.lg := (MW.turn_same { X with deals := X.deals ++ [d] } ((X.deals.length : Int) + 1) 1 1).1
  have hdl : (X.begin d).deal ((X.deals.length : Int) + 1) = d := by
    unfold MW.deal
    rw [cfg_deals hcf]
    show (X.deals ++ [d]).getD ((X.deals.length : Int) + 1 - 1).toNat Dl.z = d
    rw [show ((X.deals.length : Int) + 1 - 1).toNat = X.deals.length by omega, List.getD_eq_getElem?_getD]
    simp
  have hfree : ∀ n, n = 1 ∨ n = 2 → ∀ i, (X.begin d).free n i = X.free n i := fun n hn i => by
    have e1 := free_cfg (n := n) hcf (by rw [hlg]; rfl) i
    rw [e1]
    unfold MW.free MW.bal MW.held
    have := accs_app (X := X) (x := d) (n := n) (l := (X.lg n).recs) fun r hr => (hX.good.rc n (N3.s hn) r hr).1
    show (MW.accs { X with deals := X.deals ++ [d] } n (X.lg n).recs).1 i - (MW.accs { X with deals := X.deals ++ [d] } n (X.lg n).recs).2 i = _
    rw [this]
  have hst0 : ∀ n, n = 1 ∨ n = 2 → ((X.begin d).lg n).state ((X.deals.length : Int) + 1) = 0 := fun n hn => by rw [hlg]; exact state_none hX.good (N3.s hn) (by omega)
  have ham : (X.begin d).amount 1 ((X.deals.length : Int) + 1) = d.m ∧ (X.begin d).amount 2 ((X.deals.length : Int) + 1) = d.g ∧ (X.begin d).payer 1 ((X.deals.length : Int) + 1) = d.b - 1 ∧ (X.begin d).payer 2 ((X.deals.length : Int) + 1) = d.s - 1 := by
    unfold MW.amount MW.payer
    rw [hdl]
    exact ⟨rfl, rfl, rfl, rfl⟩
  have hdr : 1 ≤ (X.deals.length : Int) + 1 ∧ (X.deals.length : Int) + 1 ≤ (X.begin d).deals.length := by rw [hlen]; omega
  generalize hnd : (X.deals.length : Int) + 1 = nd at *
  generalize hX1 : X.begin d = X1 at *
  have hheal : X1.heal (X.pat + 8).toNat = X1.rounds (X.pat.toNat + 8) := by
    unfold MW.heal
    rw [wake_calm hc1]
    congr 1
    omega
  have hQ : Quiet (X1.rounds (X.pat.toNat + 8)) := quiet_end hc1 hG1 hI1 (by rw [hp1]; omega) (HB.rounds hB1 hc1 hG1 _)
  rw [hheal]
  refine ⟨hQ, ?_⟩
  -- the first round
  obtain ⟨Y, eY, hY, hGY, hcY, e⟩ := round_parts hc1 hG1
  have a1 := ask_first (X := { X1 with bag := [] }) hc1 (n := 1) (d := nd) (.inl rfl) hdr (hst0 1 (.inl rfl))
  have hZ1 : Calm (({ X1 with bag := [] } : MW).bring ⟨0, 1, 1, nd⟩) := Calm.bring (X := { X1 with bag := [] }) hc1 (.mk0 (.inl rfl) hdr)
  have hl2 : (({ X1 with bag := [] } : MW).bring ⟨0, 1, 1, nd⟩).lg 2 = X1.lg 2 := a1.2.2.1 2 (.inr rfl) (by decide)
  have hdr2 : 1 ≤ nd ∧ nd ≤ (({ X1 with bag := [] } : MW).bring ⟨0, 1, 1, nd⟩).deals.length := by rw [cfg_deals a1.2.2.2]; exact hdr
  have a2 := ask_first hZ1 (n := 2) (d := nd) (.inr rfl) hdr2 (by rw [hl2]; exact hst0 2 (.inr rfl))
  have hf2 : (({ X1 with bag := [] } : MW).bring ⟨0, 1, 1, nd⟩).free 2 (d.s - 1) = X.free 2 (d.s - 1) := by
    rw [free_cfg (Y := X1) a1.2.2.2 (by rw [hl2]), hfree 2 (.inr rfl)]
  have am2 := amt_cfg (X := ({ X1 with bag := [] } : MW).bring ⟨0, 1, 1, nd⟩) (Y := X1) a1.2.2.2 2 nd
  have hYe : Y = (({ X1 with bag := [] } : MW).bring ⟨0, 1, 1, nd⟩).bring ⟨0, 2, 1, nd⟩ := by rw [eY, hbag]; rfl
  have hYb : Y.bag = [vote (decide (d.m ≤ X.free 1 (d.b - 1))) 1 nd, vote (decide (d.g ≤ X.free 2 (d.s - 1))) 2 nd] := by
    rw [hYe, a2.1, a1.1, am2.1, am2.2, ham.2.1, ham.2.2.2, hf2]
    have e1 : ({ X1 with bag := [] } : MW).amount 1 nd = d.m := ham.1
    have e2 : ({ X1 with bag := [] } : MW).payer 1 nd = d.b - 1 := ham.2.2.1
    have e3 : ({ X1 with bag := [] } : MW).free 1 (d.b - 1) = X.free 1 (d.b - 1) := hfree 1 (.inl rfl) _
    rw [e1, e2, e3]
    rfl
  have hYk : Y.kn = X1.kn := by rw [hYe, a2.2.1, a1.2.1]
  have em := ((cTick_emitsAny Y X1.deals.length).trans ((sTick_emits (Y.cTick X1.deals.length) 1 X1.deals.length).mono fun _ _ => trivial)).trans ((sTick_emits ((Y.cTick X1.deals.length).sTick 1 X1.deals.length) 2 X1.deals.length).mono fun _ _ => trivial)
  rw [← e] at em
  obtain ⟨t, ht, _⟩ := em
  rw [hYb] at ht
  have hk2 : X1.round.kn nd = { Ds.s 1 with wt := 1 } := by
    rw [e, sTick_kn, sTick_kn, cTick_kn _ _ nd hdr.1 hdr.2, hYk, hkn, cfg_pat hcY, hp1]
    unfold tk
    rw [if_pos (show (Ds.s 1).st = 1 from rfl), if_neg (show ¬ (Ds.s 1).wt + 1 = X.pat from fun e => by have : (0 : Int) + 1 = X.pat := e; omega)]
    rfl
  -- the second round
  have hc2 := hc1.round hG1
  have hG2 := hG1.round
  have hI2 := hI1.round hG1
  have hdr3 : 1 ≤ nd ∧ nd ≤ X1.round.deals.length := by rw [cfg_deals (cfg_round X1)]; exact hdr
  have hF : X1.rounds (X.pat.toNat + 8) = X1.round.round.rounds (X.pat.toNat + 6) := by rw [show X.pat.toNat + 8 = 2 + (X.pat.toNat + 6) by omega, ← rounds_add]; rfl
  rw [hF] at hQ ⊢
  generalize X1.round = X2 at *
  have hV : Good { X2 with bag := [] } := hG2.sub (fun _ h => nomatch h)
  have hIV : Inv { X2 with bag := [] } := hI2.sub (fun _ h => nomatch h)
  have o := hear_two (X := { X2 with bag := [] }) hc2 hV (d := nd) hdr3 (by show (X2.kn nd).st = 1; rw [hk2]; rfl) (by show (X2.kn nd).h1 = false ∧ (X2.kn nd).h2 = false; rw [hk2]; exact ⟨rfl, rfl⟩) (decide (d.m ≤ X.free 1 (d.b - 1))) (decide (d.g ≤ X.free 2 (d.s - 1)))
  have m1 : vote (decide (d.m ≤ X.free 1 (d.b - 1))) 1 nd ∈ X2.bag := by rw [ht]; simp
  have m2 : vote (decide (d.g ≤ X.free 2 (d.s - 1))) 2 nd ∈ X2.bag := by rw [ht]; simp
  generalize vote (decide (d.m ≤ X.free 1 (d.b - 1))) 1 nd = u1 at *
  generalize vote (decide (d.g ≤ X.free 2 (d.s - 1))) 2 nd = u2 at *
  have k1 := hG2.bg _ m1
  have k2 := hG2.bg _ m2
  have st1 : Step { X2 with bag := [] } (({ X2 with bag := [] } : MW).bring u1) := Step.bring hV k1
  have i1 : Inv (({ X2 with bag := [] } : MW).bring u1) := hIV.bring hV k1 (hI2.says m1)
  have g1 : Good (({ X2 with bag := [] } : MW).bring u1) := hV.bring k1
  have k2' : MsOk (({ X2 with bag := [] } : MW).bring u1) u2 := MsOk.cfg (X := { X2 with bag := [] }) (cfg_bring _ _).symm k2
  have i2 : Inv ((({ X2 with bag := [] } : MW).bring u1).bring u2) := i1.bring g1 k2' (Says.step (X := { X2 with bag := [] }) st1 k2 (hI2.says m2))
  have g2 : Good ((({ X2 with bag := [] } : MW).bring u1).bring u2) := g1.bring k2'
  have c2 : Calm ((({ X2 with bag := [] } : MW).bring u1).bring u2) := (Calm.bring (X := { X2 with bag := [] }) hc2 k1).bring k2'
  have hcW : cfg ((({ X2 with bag := [] } : MW).bring u1).bring u2) = cfg X2 := (cfg_bring _ _).trans (cfg_bring _ _)
  obtain ⟨Y2, eY2, hY2, hGY2, hcY2, e2⟩ := round_parts hc2 hG2
  have eY3 : Y2 = ((({ X2 with bag := [] } : MW).bring u1).bring u2).bringAll t := by rw [eY2, ht]; rfl
  have stp : Step ((({ X2 with bag := [] } : MW).bring u1).bring u2) (X2.round.rounds (X.pat.toNat + 6)) := by
    have sA : Step ((({ X2 with bag := [] } : MW).bring u1).bring u2) Y2 := by
      rw [eY3]
      exact Step.bringAll t _ g2 fun m hm => (hG2.bg m (by rw [ht]; exact List.mem_append_right _ hm)).cfg hcW.symm
    have sB : Step Y2 X2.round := by
      rw [e2]
      exact ((Step.cTick _ _).trans (Step.sTick _ _ _)).trans (Step.sTick _ _ _)
    exact (sA.trans sB).trans (Step.rounds hG2.round _)
  generalize (({ X2 with bag := [] } : MW).bring u1).bring u2 = W at *
  have hcan : Cd (X2.round.rounds (X.pat.toNat + 6)) nd ↔ can X d := by
    unfold can
    by_cases q : d.m ≤ X.free 1 (d.b - 1) ∧ d.g ≤ X.free 2 (d.s - 1)
    · have hw := o.1 (decide_eq_true q.1) (decide_eq_true q.2)
      exact ⟨fun _ => q, fun _ => (stp.sf (.inl rfl) (Sf.of_mem (n := 0) (i2.up 0 (.inl rfl) (c2 0 (.inl rfl)).1) hw)).cd⟩
    · have hw := o.2 fun h => q ⟨of_decide_eq_true h.1, of_decide_eq_true h.2⟩
      exact ⟨fun h => ((stp.cd nd h).elim hw.1 hw.2).elim, fun h => absurd h q⟩
  have hlenF : (X2.round.rounds (X.pat.toNat + 6)).deals.length = X2.deals.length := by rw [cfg_deals (cfg_rounds _ _), cfg_deals (cfg_round _)]
  intro n hn
  rw [← hcan]
  exact ⟨done_cd hQ.inv hn, fun h => cd_done hQ.inv hQ.prep hdr3.1 (by rw [hlenF]; exact hdr3.2) h hn⟩
/-- A new world is quiet. -/
theorem quiet_init {mem pat : Int} {f1 f2 : List Int} (h : Good (MW.init mem pat f1 f2)) : Quiet (MW.init mem pat f1 f2) := by
  have hz : ∀ n, (MW.init mem pat f1 f2).lg n = Lg.z := fun n => by unfold MW.lg; split; rfl; split <;> rfl
  have hd : ∀ d : Int, 1 ≤ d → d ≤ (MW.init mem pat f1 f2).deals.length → False := fun d h1 h2 => by have : d ≤ 0 := h2; omega
  exact { calm := fun n _ => by rw [hz]; exact ⟨rfl, rfl⟩
          good := h
          ask := fun d h1 h2 => (hd d h1 h2).elim
          bag := fun m hm => nomatch hm
          prep := fun n d _ h1 h2 => (hd d h1 h2).elim
          inv := Inv.init _ _ _ _
          none := rfl
          shut := fun ⟨d, h1, _⟩ => hd d h1.1 h1.2
          hb := fun d hs => by
            have : (0 : Int) = 2 ∨ (0 : Int) = 3 := hs
            omega }
end Go.Proofs.Yteagflekbbchhaa
