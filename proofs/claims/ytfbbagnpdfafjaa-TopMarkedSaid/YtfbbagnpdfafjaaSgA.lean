import Derived.Test.YtfbbagnpdfafjaaSfQ
set_option maxRecDepth 100000
namespace Go.Proofs.Ytfbbagnpdfafjaa
open Go.RowKit Go.Proofs
theorem sTake_emits1 {X : MW} {n : Int} {m : Ms} : Emits (fun x => x.k ≠ 1) X (X.sTake n m).1 := by
 have w : ∀ r, Emits (fun x : Ms => x.k ≠ 1) X (X.wr n r) := fun r => Emits.same (setLg_bag _ _ _)
 have s2 : ∀ (Y : MW) d, Emits (fun x : Ms => x.k ≠ 1) Y (Y.send ⟨n, 0, 2, d⟩) := fun Y d => Emits.send (by show (2 : Int) ≠ 1; decide)
 have s3 : ∀ (Y : MW) d, Emits (fun x : Ms => x.k ≠ 1) Y (Y.send ⟨n, 0, 3, d⟩) := fun Y d => Emits.send (by show (3 : Int) ≠ 1; decide)
 have s6 : ∀ (Y : MW) d, Emits (fun x : Ms => x.k ≠ 1) Y (Y.send ⟨n, 0, 6, d⟩) := fun Y d => Emits.send (by show (6 : Int) ≠ 1; decide)
 unfold MW.sTake MW.sAsk
 dsimp only
 split
 ·split
  ·split
   ·split
    ·exact (w _).trans (s2 _ _)
    ·exact w _
   ·exact s3 _ _
  ·split
   ·exact s2 _ _
   ·exact s3 _ _
 ·split
  ·split
   ·split
    ·exact (w _).trans (s6 _ _)
    ·exact w _
   ·split
    ·exact s6 _ _
    ·exact Emits.refl _ _
  ·split
   ·split
    ·split
     ·exact (w _).trans (s6 _ _)
     ·exact w _
    ·split
     ·exact s6 _ _
     ·exact Emits.refl _ _
   ·exact Emits.refl _ _
theorem bring_emits {X : MW} (hc : Calm X) (hq : NoAsk X) {m : Ms} (hm : MsOk X m) : Emits (fun x => x.k ≠ 1) X (X.bring m) := by
 rw [bring_calm hc hm]
 split
 ·exact (cTake_emits (hq m.d hm.2.1 hm.2.2)).1.mono fun x hx => by omega
 ·exact sTake_emits1
theorem NoAsk.bring {X : MW} (h : NoAsk X) (hG : Good X) {m : Ms} (hm : MsOk X m) : NoAsk (X.bring m) := h.step (Step.bring hG hm) (cfg_bring X m)
theorem bringAll_emits : ∀ (l : List Ms) (X : MW), Calm X → Good X → NoAsk X → (∀ m ∈ l, MsOk X m) → Emits (fun x => x.k ≠ 1) X (X.bringAll l)
 | [], X, _, _, _, _ => Emits.refl _ X
 | m :: l, X, hc, hG, hq, hl => by
  have hm := hl m (List.mem_cons_self ..)
  exact (bring_emits hc hq hm).trans (bringAll_emits l (X.bring m) (hc.bring hm) (hG.bring hm) (hq.bring hG hm) fun x hx => (hl x (List.mem_cons_of_mem _ hx)).cfg (cfg_bring X m).symm)
theorem bringAll_answers : ∀ (l : List Ms) (X : MW), Calm X → Good X → NoAsk X → (∀ m ∈ l, MsOk X m) → ∀ m ∈ l, m.k = 2 → m.t = 0 → ∃ k, (k = 4 ∨ k = 5) ∧ ⟨0, m.f, k, m.d⟩ ∈ (X.bringAll l).bag
 | [], _, _, _, _, _, m, hm, _, _ => nomatch hm
 | a :: l, X, hc, hG, hq, hl, m, hm, h2, h0 => by
  have ha := hl a (List.mem_cons_self ..)
  have hl' : ∀ x ∈ l, MsOk (X.bring a) x := fun x hx => (hl x (List.mem_cons_of_mem _ hx)).cfg (cfg_bring X a).symm
  rcases List.mem_cons.1 hm with rfl | hm
  ·obtain ⟨k, hk, hin⟩ := (cTake_emits (hq m.d ha.2.1 ha.2.2)).2 h2
   have hb : X.bring m = (X.cTake m).1 := by rw [bring_calm hc ha, if_pos h0]
   rw [← hb] at hin
   exact ⟨k, hk, (bringAll_emits l (X.bring m) (hc.bring ha) (hG.bring ha) (hq.bring hG ha) hl').mem hin⟩
  ·exact bringAll_answers l (X.bring a) (hc.bring ha) (hG.bring ha) (hq.bring hG ha) hl' m hm h2 h0
theorem cTick_emits {X : MW} (hq : NoAsk X) : ∀ k : Nat, k ≤ X.deals.length → Emits (fun x => x.k = 4 ∨ x.k = 5) X (X.cTick k)
 | 0, _ => Emits.refl _ X
 | k + 1, hk => by
  refine (cTick_emits hq k (by omega)).trans ?_
  obtain ⟨_, _, _, e4, _⟩ := MW.cTick_same X k
  have hs : ((X.cTick k).kn ((k : Int) + 1)).st ≠ 1 := by rw [e4 _ (.inr (by omega))]; exact hq _ (by omega) (by omega)
  show Emits _ (X.cTick k) ((X.cTick k).cTick1 ((k : Int) + 1))
  unfold MW.cTick1
  dsimp only
  rw [if_neg hs]
  split
  ·exact Emits.both _ _ fun t => .inl rfl
  ·split
   ·exact Emits.both _ _ fun t => .inr rfl
   ·exact Emits.refl _ _
theorem sTick_emits (X : MW) (n : Int) : ∀ k : Nat, Emits (fun x => x.k = 2) X (X.sTick n k)
 | 0 => Emits.refl _ X
 | k + 1 => by
  refine (sTick_emits X n k).trans ?_
  show Emits _ (X.sTick n k) ((X.sTick n k).sTick1 n ((k : Int) + 1))
  unfold MW.sTick1
  split
  ·exact Emits.send rfl
  ·exact Emits.refl _ _
theorem sTick_has (X : MW) (n : Int) : ∀ (k : Nat) (d : Int), 1 ≤ d → d ≤ k → (X.lg n).state d = 1 → ⟨n, 0, 2, d⟩ ∈ (X.sTick n k).bag
 | 0, d, h1, h2, _ => by omega
 | k + 1, d, h1, h2, hs => by
  have e := (MW.sTick_same X n k).1
  show _ ∈ ((X.sTick n k).sTick1 n ((k : Int) + 1)).bag
  unfold MW.sTick1
  by_cases q : d = (k : Int) + 1
  ·subst q
   rw [if_pos (by rw [e]; exact hs)]
   exact List.mem_append_right _ (List.mem_singleton.2 rfl)
  ·have ih := sTick_has X n k d h1 (by omega) hs
   split
   ·exact List.mem_append_left _ ih
   ·exact ih
def Prep (X : MW) : Prop := ∀ n d : Int, n = 1 ∨ n = 2 → 1 ≤ d → d ≤ X.deals.length → (X.lg n).state d = 1 → ⟨n, 0, 2, d⟩ ∈ X.bag
theorem round_prep {X : MW} (hc : Calm X) (hG : Good X) : Prep X.round := by
 obtain ⟨Y, _, hY, hGY, hcY, e⟩ := round_parts hc hG
 intro n d hn h1 h2 hs
 rw [cfg_deals (cfg_round X)] at h2
 have l0 := (MW.cTick_same Y X.deals.length).1
 have l1 := (MW.sTick_same (Y.cTick X.deals.length) 1 X.deals.length).1
 have l2 := (MW.sTick_same ((Y.cTick X.deals.length).sTick 1 X.deals.length) 2 X.deals.length).1
 rw [e] at hs ⊢
 rw [l2] at hs
 rcases hn with rfl | rfl
 ·rw [l1] at hs
  exact (sTick_emits _ 2 _).mem (sTick_has _ 1 _ d h1 h2 hs)
 ·exact sTick_has _ 2 _ d h1 h2 hs
theorem round_noAsk {X : MW} (hc : Calm X) (hG : Good X) (hq : NoAsk X) : (∀ x ∈ X.round.bag, x.k ≠ 1) ∧ NoAsk X.round := by
 refine ⟨?_, hq.step (Step.round hG) (cfg_round X)⟩
 obtain ⟨Y, eY, hY, hGY, hcY, e⟩ := round_parts hc hG
 have hqY : NoAsk Y := by
  rw [eY]
  exact hq.step ((Step.bag X []).trans (Step.bringAll _ _ (hG.sub fun _ h => nomatch h) fun m hm => hG.bg m hm)) (cfg_bringAll _ _)
 have e0 : Emits (fun x => x.k ≠ 1) { X with bag := [] } Y := by
  rw [eY]; exact bringAll_emits X.bag { X with bag := [] } hc (hG.sub fun _ h => nomatch h) hq fun m hm => hG.bg m hm
 have e1 : Emits (fun x : Ms => x.k ≠ 1) Y (Y.cTick X.deals.length) := (cTick_emits hqY _ (by rw [cfg_deals hcY]; exact Nat.le_refl _)).mono fun x hx => by omega
 have e2 := (sTick_emits (Y.cTick X.deals.length) 1 X.deals.length).mono (Q := fun x => x.k ≠ 1) fun x hx => by omega
 have e3 := (sTick_emits ((Y.cTick X.deals.length).sTick 1 X.deals.length) 2 X.deals.length).mono (Q := fun x => x.k ≠ 1) fun x hx => by omega
 intro x hx
 rw [e] at hx
 exact ((((e0.trans e1).trans e2).trans e3).of hx).elim (fun h => nomatch h) id
theorem round_answers {X : MW} (hc : Calm X) (hG : Good X) (hq : NoAsk X) {n d : Int} (hin : ⟨n, 0, 2, d⟩ ∈ X.bag) : ∃ k, (k = 4 ∨ k = 5) ∧ ⟨0, n, k, d⟩ ∈ X.round.bag := by
 obtain ⟨Y, eY, hY, hGY, hcY, e⟩ := round_parts hc hG
 have hqY : NoAsk Y := by
  rw [eY]
  exact hq.step ((Step.bag X []).trans (Step.bringAll _ _ (hG.sub fun _ h => nomatch h) fun m hm => hG.bg m hm)) (cfg_bringAll _ _)
 obtain ⟨k, hk, h⟩ := bringAll_answers X.bag { X with bag := [] } hc (hG.sub fun _ h => nomatch h) hq (fun m hm => hG.bg m hm) _ hin rfl rfl
 rw [← eY] at h
 refine ⟨k, hk, ?_⟩
 rw [e]
 exact (sTick_emits _ 2 _).mem ((sTick_emits _ 1 _).mem ((cTick_emits hqY _ (by rw [cfg_deals hcY]; exact Nat.le_refl _)).mem h))
theorem state_app_ne {l : Lg} {k e d : Int} (h : e ≠ d) : (l.write (k, e)).state d = l.state d := by
 have key : ∀ q : Int, (q, d) ∈ l.recs ++ [(k, e)] ↔ (q, d) ∈ l.recs := fun q => by
  simp only [List.mem_append, List.mem_singleton, Prod.mk.injEq]
  exact ⟨fun h2 => h2.elim id fun h3 => absurd h3.2.symm h, fun h2 => .inl h2⟩
 unfold Lg.state
 rw [write_recs]
 simp only [key]
theorem state_app_23 {l : Lg} {k d : Int} (h : k = 2 ∨ k = 3) : (l.write (k, d)).state d ≠ 1 := by
 unfold Lg.state
 rw [write_recs]
 split
 ·decide
 ·next h3 =>
  split
  ·decide
  ·next h2 =>
   exfalso
   rcases h with rfl | rfl
   ·exact h2 (by simp)
   ·exact h3 (by simp)
theorem wr_lg {X : MW} {n m : Int} {r : Rc} (hn : n = 1 ∨ n = 2) (hm : N3 m) : (X.wr n r).lg m = if m = n then (X.lg n).write r else X.lg m := by
 unfold MW.wr; exact lg_setLg (N3.s hn) hm
theorem sTake_state {X : MW} {n j d : Int} {m : Ms} (hn : n = 1 ∨ n = 2) (hj : j = 1 ∨ j = 2) (hk : m.k ≠ 1) (h : ((X.sTake n m).1.lg j).state d = 1) : (X.lg j).state d = 1 ∧ ¬ ((m.k = 4 ∨ m.k = 5) ∧ j = n ∧ d = m.d) := by
 have w : ∀ r : Rc, r.1 = 2 ∨ r.1 = 3 → r.2 = m.d → ((X.wr n r).lg j).state d = 1 → (X.lg j).state d = 1 ∧ ¬ ((m.k = 4 ∨ m.k = 5) ∧ j = n ∧ d = m.d) := fun r hr hd hs => by
  obtain ⟨k, e⟩ := r
  dsimp only at hr hd
  subst hd
  rw [wr_lg hn (N3.s hj)] at hs
  split at hs
  ·next q =>
   subst q
   by_cases q2 : m.d = d
   ·subst q2; exact absurd hs (state_app_23 hr)
   ·rw [state_app_ne q2] at hs
    exact ⟨hs, fun h => q2 h.2.2.symm⟩
  ·next q => exact ⟨hs, fun h => q h.2.1⟩
 have z : ∀ Y : MW, Y.lg = X.lg → ((X.lg n).state m.d ≠ 1 ∨ ¬ (m.k = 4 ∨ m.k = 5)) → (Y.lg j).state d = 1 → (X.lg j).state d = 1 ∧ ¬ ((m.k = 4 ∨ m.k = 5) ∧ j = n ∧ d = m.d) := fun Y e hx hs => by
  rw [e] at hs
  refine ⟨hs, fun hh => ?_⟩
  obtain ⟨h1, rfl, rfl⟩ := hh
  exact hx.elim (fun h => h hs) (fun h => h h1)
 unfold MW.sTake at h
 dsimp only at h
 rw [if_neg hk] at h
 split at h
 ·split at h
  ·split at h
   ·exact w _ (.inl rfl) rfl h
   ·exact w _ (.inl rfl) rfl h
  ·next q =>
   split at h
   ·exact z _ rfl (.inl q) h
   ·exact z _ rfl (.inl q) h
 ·split at h
  ·split at h
   ·split at h
    ·exact w _ (.inr rfl) rfl h
    ·exact w _ (.inr rfl) rfl h
   ·next q =>
    split at h
    ·exact z _ rfl (.inl q) h
    ·exact z _ rfl (.inl q) h
  ·next q4 q5 => exact z _ rfl (.inr fun h => h.elim q4 q5) h
theorem bring_state {X : MW} (hc : Calm X) {m : Ms} (hm : MsOk X m) (hk : m.k ≠ 1) {j d : Int} (hj : j = 1 ∨ j = 2) (h : ((X.bring m).lg j).state d = 1) : (X.lg j).state d = 1 ∧ ¬ ((m.k = 4 ∨ m.k = 5) ∧ j = m.t ∧ d = m.d) := by
 rw [bring_calm hc hm] at h
 split at h
 ·next e => rw [cTake_site X m hj] at h; exact ⟨h, fun hh => by have := hh.2.1; omega⟩
 ·next e => exact sTake_state (by have := hm.1; omega) hj hk h
theorem bringAll_state {j d : Int} (hj : j = 1 ∨ j = 2) : ∀ (l : List Ms) (X : MW), Calm X → (∀ m ∈ l, MsOk X m ∧ m.k ≠ 1) → ((X.bringAll l).lg j).state d = 1 → (X.lg j).state d = 1 ∧ ∀ m ∈ l, ¬ ((m.k = 4 ∨ m.k = 5) ∧ j = m.t ∧ d = m.d)
 | [], _, _, _, h => ⟨h, fun _ h => nomatch h⟩
 | a :: l, X, hc, hl, h => by
  have ha := hl a (List.mem_cons_self ..)
  obtain ⟨h1, h2⟩ := bringAll_state hj l (X.bring a) (hc.bring ha.1) (fun x hx => ⟨(hl x (List.mem_cons_of_mem _ hx)).1.cfg (cfg_bring X a).symm, (hl x (List.mem_cons_of_mem _ hx)).2⟩) h
  obtain ⟨h3, h4⟩ := bring_state hc ha.1 ha.2 hj h1
  exact ⟨h3, fun m hm => (List.mem_cons.1 hm).elim (fun e => by rw [e]; exact h4) (h2 m)⟩
theorem round_state {X : MW} (hc : Calm X) (hG : Good X) (hk : ∀ m ∈ X.bag, m.k ≠ 1) {j d : Int} (hj : j = 1 ∨ j = 2) (h : (X.round.lg j).state d = 1) : (X.lg j).state d = 1 ∧ ∀ m ∈ X.bag, ¬ ((m.k = 4 ∨ m.k = 5) ∧ j = m.t ∧ d = m.d) := by
 obtain ⟨Y, eY, hY, hGY, hcY, e⟩ := round_parts hc hG
 have l0 := (MW.cTick_same Y X.deals.length).1
 have l1 := (MW.sTick_same (Y.cTick X.deals.length) 1 X.deals.length).1
 have l2 := (MW.sTick_same ((Y.cTick X.deals.length).sTick 1 X.deals.length) 2 X.deals.length).1
 rw [e, l2, l1, l0, eY] at h
 exact bringAll_state hj X.bag { X with bag := [] } hc (fun m hm => ⟨hG.bg m hm, hk m hm⟩) h
def NoPrep (X : MW) : Prop := ∀ n d : Int, n = 1 ∨ n = 2 → 1 ≤ d → d ≤ X.deals.length → (X.lg n).state d ≠ 1
structure Still1 (X : MW) : Prop where
 calm : Calm X
 good : Good X
 ask : NoAsk X
 bag : ∀ m ∈ X.bag, m.k ≠ 1
theorem Still1.round {X : MW} (h : Still1 X) : Still1 X.round := ⟨h.calm.round h.good, h.good.round, (round_noAsk h.calm h.good h.ask).2, (round_noAsk h.calm h.good h.ask).1⟩
theorem Still1.two {X : MW} (h : Still1 X) (hp : Prep X) : NoPrep X.round.round := fun n d hn h1 h2 hs => by
 have s1 := h.round
 obtain ⟨a1, a2⟩ := round_state s1.calm s1.good s1.bag hn hs
 obtain ⟨b1, _⟩ := round_state h.calm h.good h.bag hn a1
 rw [cfg_deals (cfg_round _), cfg_deals (cfg_round _)] at h2
 obtain ⟨k, hk, hin⟩ := round_answers h.calm h.good h.ask (hp n d hn h1 h2 b1)
 exact a2 _ hin ⟨hk, rfl, rfl⟩
theorem Still1.noPrep {X : MW} (h : Still1 X) (hp : NoPrep X) : NoPrep X.round := fun n d hn h1 h2 hs => by
 rw [cfg_deals (cfg_round _)] at h2
 exact hp n d hn h1 h2 (round_state h.calm h.good h.bag hn hs).1
theorem still_pat {X : MW} (hc : Calm X) (hG : Good X) {k : Nat} (hk : X.pat ≤ k) : Still1 (X.rounds (k + 1)) := by
 have hq := noAsk_pat hc hG hk
 have hc' := hc.rounds hG k
 have hG' := hG.rounds k
 exact ⟨hc'.round hG', hG'.round, (round_noAsk hc' hG' hq).2, (round_noAsk hc' hG' hq).1⟩
theorem noPrep_pat {X : MW} (hc : Calm X) (hG : Good X) {k : Nat} (hk : X.pat ≤ k) : ∀ j : Nat, Still1 (X.rounds (k + 3 + j)) ∧ NoPrep (X.rounds (k + 3 + j))
 | 0 => by
  have h := still_pat hc hG hk
  exact ⟨h.round.round, h.two (round_prep (hc.rounds hG k) (hG.rounds k))⟩
 | j + 1 => by
  obtain ⟨h1, h2⟩ := noPrep_pat hc hG hk j
  exact ⟨h1.round, h1.noPrep h2⟩
end Go.Proofs.Ytfbbagnpdfafjaa
set_option maxRecDepth 100000
namespace Go.Proofs.Ytfbbagnpdfafjaa
open Go.RowKit Go.Proofs
theorem cd_doneP {X : MW} (h : Inv X) (hp : NoPrep X) {d : Int} (h1 : 1 ≤ d) (h2 : d ≤ X.deals.length) (hc : Cd X d) {n : Int} (hn : n = 1 ∨ n = 2) : (X.lg n).state d = 2 := by
 have hd := h.dec d hc
 have hm : (1, d) ∈ (X.lg n).recs := by
  rcases hn with rfl | rfl
  ·exact hd.1.1.mem
  ·exact hd.1.2.mem
 have h3 := hd.2 n hn
 have hnp := hp n d hn h1 h2
 unfold Lg.state at hnp ⊢
 rw [if_neg h3] at hnp ⊢
 split
 ·rfl
 ·next q => rw [if_neg q, if_pos hm] at hnp; exact absurd rfl hnp
structure EndedP (X Y : MW) : Prop where
 inv : Inv Y
 good : Good Y
 linv : LInv Y
 still : Still1 Y
 noprep : NoPrep Y
 step : Step X Y
 cfg : cfg Y = cfg X
theorem endedP {X : MW} (h : Inv X) (hG : Good X) (hl : LInv X) {k : Nat} (hk : X.pat + 3 ≤ k) : EndedP X (X.heal k) := by
 obtain ⟨j, rfl⟩ : ∃ j : Nat, k = X.pat.toNat + 3 + j := ⟨k - (X.pat.toNat + 3), by have := hG.pat; omega⟩
 have hp : X.wake.pat ≤ (X.pat.toNat : Int) := by rw [cfg_pat (cfg_wake X)]; omega
 obtain ⟨a, b⟩ := noPrep_pat (Calm.wake X) hG.wake hp j
 exact ⟨h.heal hG _, hG.heal _, hl.heal hG _, a, b, Step.heal hG _, cfg_heal X _⟩
def owes (X : MW) (i : Int) : Int := sm (fun j => if X.payer 1 (j + 1) = i then X.amount 1 (j + 1) else 0) X.deals.length
structure Pays (X : MW) : Prop where
 money : ∀ i : Int, 0 ≤ i → owes X i ≤ (X.fst 1).getD i.toNat 0
 goods : ∀ d : Int, X.amount 2 d = 0
theorem deal_cfg {X Y : MW} (h : cfg X = cfg Y) (d : Int) : X.deal d = Y.deal d := by unfold MW.deal; rw [cfg_deals h]
theorem Pays.cfg {X Y : MW} (h : Pays X) (hc : cfg X = cfg Y) : Pays Y := by
 have e : owes Y = owes X := by
  unfold owes MW.payer MW.amount
  rw [cfg_deals hc]
  funext i
  congr 1
  funext j
  rw [deal_cfg hc]
 refine ⟨fun i h0 => ?_, fun d => ?_⟩
 ·rw [e, ← cfg_fst hc]; exact h.money i h0
 ·have := h.goods d
  unfold MW.amount at *
  rw [← deal_cfg hc]; exact this
theorem can_pay {X : MW} (hG : Good X) (hL : LInv X) (hp : Pays X) {n d : Int} (hn : n = 1 ∨ n = 2) (hd : 1 ≤ d ∧ d ≤ X.deals.length) (hs : (X.lg n).state d = 0) : X.amount n d ≤ X.free n (X.payer n d) := by
 obtain ⟨e1, e2⟩ := accs_form hG (hL n hn) (srec hG hn) (X.payer n d)
 have hf : X.free n (X.payer n d) = (X.fst n).getD (X.payer n d).toNat 0 + (sm (fun j => dlt X n (X.lg n).recs (j + 1) (X.payer n d)) X.deals.length - sm (fun j => hld X n (X.lg n).recs (j + 1) (X.payer n d)) X.deals.length) := by
  unfold MW.free MW.bal MW.held
  rw [e1, e2]; omega
 rw [hf, ← sm_sub]
 have hnn := fst_nonneg hG hn (X.payer n d)
 rcases hn with rfl | rfl
 ·have hok := hG.dl d hd.1 hd.2
  have hi0 : 0 ≤ X.payer 1 d := by unfold MW.payer; rw [if_pos rfl]; have := hok.1; omega
  have hm := hp.money (X.payer 1 d) hi0
  have hst : (1, d) ∉ (X.lg 1).recs ∧ (2, d) ∉ (X.lg 1).recs ∧ (3, d) ∉ (X.lg 1).recs := by
   unfold Lg.state at hs
   split at hs
   ·omega
   ·next h3 =>
    split at hs
    ·omega
    ·next h2 =>
     split at hs
     ·omega
     ·next h1 => exact ⟨h1, h2, h3⟩
  have am : ∀ j : Int, 0 ≤ j → j < X.deals.length → 0 ≤ X.amount 1 (j + 1) := fun j h0 h1 => by
   have := hG.dl (j + 1) (by omega) (by omega)
   unfold MW.amount
   rw [if_pos rfl]
   exact this.2.2.2.1.1
  have hpos : ∀ j : Int, 0 ≤ j → j < X.deals.length → 0 ≤ dlt X 1 (X.lg 1).recs (j + 1) (X.payer 1 d) - hld X 1 (X.lg 1).recs (j + 1) (X.payer 1 d) + (if X.payer 1 (j + 1) = X.payer 1 d then X.amount 1 (j + 1) else 0) := fun j h0 h1 => by
   have ha := am j h0 h1
   unfold dlt hld
   by_cases h2 : (2, j + 1) ∈ (X.lg 1).recs
   ·have hq : ¬ ((1, j + 1) ∈ (X.lg 1).recs ∧ (2, j + 1) ∉ (X.lg 1).recs ∧ (3, j + 1) ∉ (X.lg 1).recs ∧ X.payer 1 d = X.payer 1 (j + 1)) := fun h => h.2.1 h2
    rw [if_pos h2, if_neg hq]
    by_cases q1 : X.payer 1 d = X.payee 1 (j + 1)
    ·rw [if_pos q1]
     by_cases q2 : X.payer 1 d = X.payer 1 (j + 1)
     ·rw [if_pos q2, if_pos q2.symm]; omega
     ·rw [if_neg q2, if_neg fun h => q2 h.symm]; omega
    ·rw [if_neg q1]
     by_cases q2 : X.payer 1 d = X.payer 1 (j + 1)
     ·rw [if_pos q2, if_pos q2.symm]; omega
     ·rw [if_neg q2, if_neg fun h => q2 h.symm]; omega
   ·rw [if_neg h2]
    by_cases q : (1, j + 1) ∈ (X.lg 1).recs ∧ (2, j + 1) ∉ (X.lg 1).recs ∧ (3, j + 1) ∉ (X.lg 1).recs ∧ X.payer 1 d = X.payer 1 (j + 1)
    ·rw [if_pos q, if_pos q.2.2.2.symm]; omega
    ·rw [if_neg q]
     split <;> omega
  have hsm := sm_pos hpos (d - 1) (by omega) (by omega)
  rw [sm_add] at hsm
  have hval : dlt X 1 (X.lg 1).recs (d - 1 + 1) (X.payer 1 d) - hld X 1 (X.lg 1).recs (d - 1 + 1) (X.payer 1 d) + (if X.payer 1 (d - 1 + 1) = X.payer 1 d then X.amount 1 (d - 1 + 1) else 0) = X.amount 1 d := by
   rw [Int.sub_add_cancel]
   unfold dlt hld
   rw [if_neg hst.2.1, if_neg (fun h => hst.1 h.1), if_pos rfl]
   omega
  rw [hval] at hsm
  unfold owes at hm
  omega
 ·have z : sm (fun j => dlt X 2 (X.lg 2).recs (j + 1) (X.payer 2 d) - hld X 2 (X.lg 2).recs (j + 1) (X.payer 2 d)) X.deals.length = sm (fun _ => 0) X.deals.length := sm_congr fun j _ _ => by
   have ha := hp.goods (j + 1)
   unfold dlt hld
   rw [ha]
   simp
  rw [z, sm_const 0 (by omega), hp.goods d]
  omega
theorem cTake_other (X : MW) (m : Ms) {d : Int} (hd : d ≠ m.d) : ((X.cTake m).1.kn d) = X.kn d := by
 have kn : ∀ (Y : MW) (s : Ds), (Y.know m.d s).kn d = Y.kn d := fun Y s => upd_ne _ _ hd
 have kt : ∀ (Y : MW) (st k : Int), (Y.turn m.d st k).kn d = Y.kn d := fun Y st k => by rw [(MW.turn_same _ _ _ _).2.2.2]; exact upd_ne _ _ hd
 have kw : ∀ (Y : MW) (r : Rc), (Y.wr 0 r).kn = Y.kn := fun Y r => setLg_kn Y 0 _
 unfold MW.cTake
 dsimp only
 repeat' split
 all_goals first | rfl | rw [kt, kw, kn] | rw [kw, kn] | rw [kn] | rw [kt]
theorem cTake_one {X : MW} (hc : Calm X) {m : Ms} (hk : m.k ≠ 3) {d : Int} (h1 : (X.kn d).st = 1) :
  ((d = m.d ∧ m.k = 2) ∧ (((X.cTake m).1.kn d).st = 2 ∨ ((X.cTake m).1.kn d = (X.kn d).hear m.f ∧ ¬ (((X.kn d).hear m.f).h1 = true ∧ ((X.kn d).hear m.f).h2 = true)))) ∨ (¬ (d = m.d ∧ m.k = 2) ∧ (X.cTake m).1.kn d = X.kn d) := by
 by_cases e : d = m.d
 ·subst e
  have hok : (X.know m.d ((X.kn m.d).hear m.f)).ok 0 = true := Calm.ok (hc.know _ _) (.inl rfl)
  by_cases k2 : m.k = 2
  ·left
   refine ⟨⟨rfl, k2⟩, ?_⟩
   unfold MW.cTake
   dsimp only
   rw [if_pos ⟨k2, h1⟩]
   split
   ·left
    first | rw [if_pos hok] | skip
    show (((_ : MW).turn m.d 2 4).kn m.d).st = 2
    rw [(MW.turn_same _ _ _ _).2.2.2, upd_same]
    rfl
   ·next q => exact .inr ⟨upd_same _ _ _, q⟩
  ·right
   refine ⟨fun h => k2 h.2, ?_⟩
   unfold MW.cTake
   dsimp only
   rw [if_neg (fun h => k2 h.1), if_neg (fun h => k2 h.1), if_neg k2, if_neg (fun h => hk h.1), if_neg (fun h => by have := h.2; omega)]
 ·exact .inr ⟨fun h => e h.1, cTake_other X m e⟩
end Go.Proofs.Ytfbbagnpdfafjaa
