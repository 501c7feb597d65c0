import Derived.Test.YtfbbagnpdfafjaaSgA
set_option maxRecDepth 100000
namespace Go.Proofs.Ytfbbagnpdfafjaa
open Go.RowKit Go.Proofs
structure Yes (X : MW) : Prop where
 calm : Calm X
 good : Good X
 inv : Inv X
 linv : LInv X
 pays : Pays X
 nd : ∀ d : Int, 1 ≤ d → d ≤ X.deals.length → (X.kn d).st = 1 ∨ Cd X d
 no : ∀ m ∈ X.bag, m.k ≠ 3
 r3 : ∀ n d : Int, n = 1 ∨ n = 2 → (3, d) ∉ (X.lg n).recs
 ab : ∀ d : Int, (X.kn d).st = 1 → ¬ ((X.kn d).h1 = true ∧ (X.kn d).h2 = true)
theorem cd_keep {X Y : MW} (hI : Inv X) (hc : Calm X) (h : Keeps X Y) {d : Int} (hd : Cd X d) : Cd Y d := by
 have h1 : Sf X 0 (4, d) := Sf.of_mem (hI.up 0 (.inl rfl) (hc 0 (.inl rfl)).1) hd
 exact (show Sf Y 0 (4, d) from h 0 (.inl rfl) _ h1).cd
theorem sTake_yes {X : MW} (h : Yes X) {m : Ms} (hm : MsOk X m) (hs : Says X m) (ht : m.t = 1 ∨ m.t = 2) :
  Emits (fun x => x.k ≠ 1 ∧ x.k ≠ 3) X (X.sTake m.t m).1 ∧ (∀ n d : Int, n = 1 ∨ n = 2 → (3, d) ∉ ((X.sTake m.t m).1.lg n).recs) ∧ (m.k = 1 → ⟨m.t, 0, 2, m.d⟩ ∈ (X.sTake m.t m).1.bag) := by
 have hn3 : N3 m.t := N3.s ht
 have hok := h.calm.ok hn3
 have w : ∀ r : Rc, Emits (fun x : Ms => x.k ≠ 1 ∧ x.k ≠ 3) X (X.wr m.t r) := fun r => Emits.same (setLg_bag _ _ _)
 have s2 : ∀ (Y : MW), Emits (fun x : Ms => x.k ≠ 1 ∧ x.k ≠ 3) Y (Y.send ⟨m.t, 0, 2, m.d⟩) := fun Y => Emits.send ⟨(by decide : (2 : Int) ≠ 1), (by decide : (2 : Int) ≠ 3)⟩
 have s6 : ∀ (Y : MW), Emits (fun x : Ms => x.k ≠ 1 ∧ x.k ≠ 3) Y (Y.send ⟨m.t, 0, 6, m.d⟩) := fun Y => Emits.send ⟨(by decide : (6 : Int) ≠ 1), (by decide : (6 : Int) ≠ 3)⟩
 have wl : ∀ (k : Int), k ≠ 3 → ∀ n d : Int, n = 1 ∨ n = 2 → (3, d) ∉ ((X.wr m.t (k, m.d)).lg n).recs := fun k hk n d hn hin => by
  unfold MW.wr at hin
  rw [lg_setLg hn3 (N3.s hn)] at hin
  split at hin
  ·next e =>
   rw [write_recs] at hin
   rcases List.mem_append.1 hin with hin | hin
   ·exact h.r3 m.t d ht hin
   ·have := List.mem_singleton.1 hin
    simp only [Prod.mk.injEq] at this
    exact hk this.1.symm
  ·exact h.r3 n d hn hin
 have hst3 : (X.lg m.t).state m.d ≠ 3 := fun e => by
  unfold Lg.state at e
  rw [if_neg (h.r3 m.t m.d ht)] at e
  split at e
  ·omega
  ·split at e <;> omega
 unfold MW.sTake
 dsimp only
 by_cases k1 : m.k = 1
 ·rw [if_pos k1]
  unfold MW.sAsk
  by_cases q0 : (X.lg m.t).state m.d = 0
  ·rw [if_pos q0, if_pos (can_pay h.good h.linv h.pays ht hm.2 q0), if_pos hok]
   exact ⟨(w _).trans (s2 _), wl 1 (by decide), fun _ => List.mem_append_right _ (List.mem_singleton.2 rfl)⟩
  ·have q12 : (X.lg m.t).state m.d = 1 ∨ (X.lg m.t).state m.d = 2 := by
    unfold Lg.state at q0 hst3 ⊢
    repeat' split at q0
    all_goals simp_all
   rw [if_neg q0, if_pos q12]
   exact ⟨s2 _, h.r3, fun _ => List.mem_append_right _ (List.mem_singleton.2 rfl)⟩
 ·rw [if_neg k1]
  by_cases k4 : m.k = 4
  ·rw [if_pos k4]
   split
   ·first | rw [if_pos hok] | skip
    exact ⟨(w _).trans (s6 _), wl 2 (by decide), fun q => absurd q k1⟩
   ·split
    ·exact ⟨s6 _, h.r3, fun q => absurd q k1⟩
    ·exact ⟨Emits.refl _ _, h.r3, fun q => absurd q k1⟩
  ·rw [if_neg k4]
   by_cases k5 : m.k = 5
   ·rw [if_pos k5]
    have hne : (X.lg m.t).state m.d ≠ 1 := fun e => by
     obtain ⟨g1, g2⟩ := hs.2.2.1 k5
     rcases h.nd m.d hm.2.1 hm.2.2 with q | q
     ·exact g1 q
     ·obtain ⟨a, b⟩ := g2 q
      have hin : (2, m.d) ∈ (X.lg m.t).recs := by
       rcases ht with e1 | e1 <;> rw [e1]
       ·exact a.mem
       ·exact b.mem
      unfold Lg.state at e
      rw [if_neg (h.r3 m.t m.d ht), if_pos hin] at e
      omega
    rw [if_neg hne]
    split
    ·exact ⟨s6 _, h.r3, fun q => absurd q k1⟩
    ·exact ⟨Emits.refl _ _, h.r3, fun q => absurd q k1⟩
   ·rw [if_neg k5]
    exact ⟨Emits.refl _ _, h.r3, fun q => absurd q k1⟩
theorem cTake_bag {X : MW} (hc : Calm X) {m : Ms} (hk : m.k ≠ 3) : Emits (fun x => x.k ≠ 1 ∧ x.k ≠ 3) X (X.cTake m).1 := by
 have hok : (X.know m.d ((X.kn m.d).hear m.f)).ok 0 = true := Calm.ok (hc.know _ _) (.inl rfl)
 have s : ∀ (Y : MW) (k : Int), k = 4 ∨ k = 5 → Emits (fun x : Ms => x.k ≠ 1 ∧ x.k ≠ 3) Y (Y.send ⟨0, m.f, k, m.d⟩) := fun Y k h => Emits.send (by show k ≠ 1 ∧ k ≠ 3; omega)
 have t : ∀ (Y : MW), Emits (fun x : Ms => x.k ≠ 1 ∧ x.k ≠ 3) Y (Y.turn m.d 2 4) := fun Y => Emits.turn fun t => ⟨(by decide : (4 : Int) ≠ 1), (by decide : (4 : Int) ≠ 3)⟩
 have kw : ∀ (s : Ds) (r : Rc), Emits (fun x : Ms => x.k ≠ 1 ∧ x.k ≠ 3) X ((X.know m.d s).wr 0 r) := fun s r => Emits.same (setLg_bag _ _ _)
 have kk : ∀ (s : Ds), Emits (fun x : Ms => x.k ≠ 1 ∧ x.k ≠ 3) X (X.know m.d s) := fun s => Emits.same rfl
 unfold MW.cTake
 dsimp only
 split
 ·split
  ·first | rw [if_pos hok] | skip
   exact (kw _ _).trans (t _)
  ·exact kk _
 ·split
  ·exact s _ 4 (.inl rfl)
  ·split
   ·exact s _ 5 (.inr rfl)
   ·rw [if_neg (fun q => hk q.1)]
    split
    ·exact kk _
    ·exact Emits.refl _ _
theorem Yes.bring {X : MW} (h : Yes X) {m : Ms} (hm : MsOk X m) (hs : Says X m) (hk : m.k ≠ 3) : Yes (X.bring m) ∧ Emits (fun x => x.k ≠ 1 ∧ x.k ≠ 3) X (X.bring m) := by
 have hc' := h.calm.bring hm
 have hG' := h.good.bring hm
 have hI' := h.inv.bring h.good hm hs
 have hL' := h.linv.bring hm
 have hcf : cfg (X.bring m) = cfg X := cfg_bring X m
 have hst := Step.bring h.good hm
 have hE : Emits (fun x => x.k ≠ 1 ∧ x.k ≠ 3) X (X.bring m) := by
  rw [bring_calm h.calm hm]
  split
  ·exact cTake_bag h.calm hk
  ·exact (sTake_yes h hm hs (by have := hm.1; omega)).1
 have kn1 : ∀ d : Int, (X.kn d).st = 1 → (((X.bring m).kn d).st = 1 ∨ ((X.bring m).kn d).st = 2) ∧ (((X.bring m).kn d).st = 1 → ¬ (((X.bring m).kn d).h1 = true ∧ ((X.bring m).kn d).h2 = true)) := fun d hd => by
  rw [bring_calm h.calm hm]
  split
  ·rcases cTake_one h.calm hk hd with ⟨_, q | ⟨q, qq⟩⟩ | ⟨_, q⟩
   ·exact ⟨.inr q, fun e => by omega⟩
   ·rw [q]
    exact ⟨.inl (by rw [(hear_wt _ _).2]; exact hd), fun _ => qq⟩
   ·rw [q]; exact ⟨.inl hd, fun e => h.ab d e⟩
  ·rw [sTake_kn]; exact ⟨.inl hd, fun e => h.ab d e⟩
 refine ⟨⟨hc', hG', hI', hL', h.pays.cfg hcf.symm, fun d h1 h2 => ?_, fun x hx => ?_, fun n d hn => ?_, fun d hd => ?_⟩, hE⟩
 ·rw [cfg_deals hcf] at h2
  rcases h.nd d h1 h2 with q | q
  ·rcases (kn1 d q).1 with q | q
   ·exact .inl q
   ·exact .inr (hI'.doing d q).1
  ·exact .inr (cd_keep h.inv h.calm hst.keep q)
 ·rcases hE.of hx with q | q
  ·exact h.no x q
  ·exact q.2
 ·rw [bring_calm h.calm hm]
  split
  ·rw [cTake_site X m hn]; exact h.r3 n d hn
  ·exact (sTake_yes h hm hs (by have := hm.1; omega)).2.1 n d hn
 ·exact (kn1 d (hst.ask d hd)).2 hd
theorem Yes.sub {X : MW} (h : Yes X) {l : List Ms} (hl : ∀ m ∈ l, m ∈ X.bag) : Yes { X with bag := l } :=
 ⟨h.calm, h.good.sub hl, h.inv.sub hl, h.linv.bag l, h.pays.cfg rfl, h.nd, fun m hm => h.no m (hl m hm), h.r3, h.ab⟩
end Go.Proofs.Ytfbbagnpdfafjaa
set_option maxRecDepth 100000
namespace Go.Proofs.Ytfbbagnpdfafjaa
open Go.RowKit Go.Proofs
def hdn (n : Int) (s : Ds) : Bool := if n = 1 then s.h1 else s.h2
def Way (X : MW) (l : List Ms) : Prop := ∀ d n : Int, 1 ≤ d → d ≤ X.deals.length → (X.kn d).st = 1 → n = 1 ∨ n = 2 → hdn n (X.kn d) = true ∨ ⟨n, 0, 2, d⟩ ∈ l ∨ ⟨n, 0, 2, d⟩ ∈ X.bag ∨ ⟨0, n, 1, d⟩ ∈ l ∨ ⟨0, n, 1, d⟩ ∈ X.bag
def Way2 (X : MW) (l : List Ms) : Prop := ∀ d n : Int, 1 ≤ d → d ≤ X.deals.length → (X.kn d).st = 1 → n = 1 ∨ n = 2 → hdn n (X.kn d) = true ∨ ⟨n, 0, 2, d⟩ ∈ l
theorem hear_hd {s : Ds} {n f : Int} (h : hdn n s = true) : hdn n (s.hear f) = true := by
  unfold hdn Ds.hear at *
  split
  · next e => rw [if_pos e] at h; split
              · rfl
              · exact h
  · next e => rw [if_neg e] at h; split
              · exact h
              · rfl
theorem hear_own {s : Ds} {n : Int} (hn : n = 1 ∨ n = 2) : hdn n (s.hear n) = true := by
 unfold hdn Ds.hear
 rcases hn with rfl | rfl <;> rfl
theorem bring_kn {X : MW} (h : Yes X) {m : Ms} (hm : MsOk X m) (hs : Says X m) (hk : m.k ≠ 3) {d : Int} (hd : ((X.bring m).kn d).st = 1) :
  (X.kn d).st = 1 ∧ (∀ n, hdn n (X.kn d) = true → hdn n ((X.bring m).kn d) = true) ∧ (m.t = 0 → m.k = 2 → m.d = d → hdn m.f ((X.bring m).kn d) = true) ∧ ((X.bring m).kn d).wt = (X.kn d).wt := by
 have h1 := (Step.bring h.good hm).ask d hd
 rw [bring_calm h.calm hm] at hd ⊢
 split at hd
 ·next e =>
  rw [if_pos e]
  have hf : m.f = 1 ∨ m.f = 2 := by have := hm.1; omega
  rcases cTake_one h.calm hk h1 with ⟨_, q | ⟨q, _⟩⟩ | ⟨q0, q⟩
  ·omega
  ·rw [q]
   exact ⟨h1, fun n hn => hear_hd hn, fun _ _ _ => hear_own hf, (hear_wt _ _).1⟩
  ·rw [q]
   exact ⟨h1, fun n hn => hn, fun _ k2 e2 => absurd ⟨e2.symm, k2⟩ q0, rfl⟩
 ·next e =>
  rw [if_neg e, sTake_kn]
  exact ⟨h1, fun n hn => hn, fun e0 => absurd e0 e, rfl⟩
theorem Way.bring {X : MW} (h : Yes X) {m : Ms} {l : List Ms} (hm : MsOk X m) (hs : Says X m) (hk : m.k ≠ 3) (hw : Way X (m :: l)) : Way (X.bring m) l := fun d n h1 h2 hd hn => by
 obtain ⟨g1, g2, g3, _⟩ := bring_kn h hm hs hk hd
 have hE := (h.bring hm hs hk).2
 rw [cfg_deals (cfg_bring X m)] at h2
 rcases hw d n h1 h2 g1 hn with q | q | q | q | q
 ·exact .inl (g2 n q)
 ·rcases List.mem_cons.1 q with e | q
  ·left
   subst e
   exact g3 rfl rfl rfl
  ·exact .inr (.inl q)
 ·exact .inr (.inr (.inl (hE.mem q)))
 ·rcases List.mem_cons.1 q with e | q
  ·right; right; left
   subst e
   rw [bring_calm h.calm hm, if_neg (show ¬ n = 0 by omega)]
   exact (sTake_yes h hm hs hn).2.2 rfl
  ·exact .inr (.inr (.inr (.inl q)))
 ·exact .inr (.inr (.inr (.inr (hE.mem q))))
theorem Way2.bring {X : MW} (h : Yes X) {m : Ms} {l : List Ms} (hm : MsOk X m) (hs : Says X m) (hk : m.k ≠ 3) (hw : Way2 X (m :: l)) : Way2 (X.bring m) l := fun d n h1 h2 hd hn => by
 obtain ⟨g1, g2, g3, _⟩ := bring_kn h hm hs hk hd
 rw [cfg_deals (cfg_bring X m)] at h2
 rcases hw d n h1 h2 g1 hn with q | q
 ·exact .inl (g2 n q)
 ·rcases List.mem_cons.1 q with e | q
  ·left
   subst e
   exact g3 rfl rfl rfl
  ·exact .inr q
def Fresh (X : MW) (k : Int) : Prop := ∀ d : Int, (X.kn d).st = 1 → (X.kn d).wt ≤ k
theorem Fresh.bring {X : MW} {k : Int} (h : Yes X) {m : Ms} (hm : MsOk X m) (hs : Says X m) (hk : m.k ≠ 3) (hw : Fresh X k) : Fresh (X.bring m) k := fun d hd => by
 obtain ⟨g1, _, _, g4⟩ := bring_kn h hm hs hk hd
 rw [g4]; exact hw d g1
def Sound (X : MW) (l : List Ms) : Prop := ∀ m ∈ l, (MsOk X m ∧ Says X m) ∧ m.k ≠ 3
theorem Sound.next {X : MW} {a : Ms} {l : List Ms} (h : Yes X) (hl : Sound X (a :: l)) : Sound (X.bring a) l := fun x hx => by
 obtain ⟨⟨h1, h2⟩, h3⟩ := hl x (List.mem_cons_of_mem _ hx)
 obtain ⟨⟨a1, a2⟩, a3⟩ := hl a (List.mem_cons_self ..)
 exact ⟨⟨h1.cfg (cfg_bring X a).symm, h2.step (Step.bring h.good a1) h1⟩, h3⟩
theorem yes_all : ∀ (l : List Ms) (X : MW), Yes X → Sound X l → Yes (X.bringAll l) ∧ Emits (fun x => x.k ≠ 1 ∧ x.k ≠ 3) X (X.bringAll l) ∧ (Way X l → Way (X.bringAll l) []) ∧ (Way2 X l → Way2 (X.bringAll l) []) ∧ (∀ k, Fresh X k → Fresh (X.bringAll l) k)
 | [], X, h, _ => ⟨h, Emits.refl _ X, id, id, fun _ => id⟩
 | a :: l, X, h, hl => by
  obtain ⟨⟨a1, a2⟩, a3⟩ := hl a (List.mem_cons_self ..)
  obtain ⟨h1, h2⟩ := h.bring a1 a2 a3
  obtain ⟨g1, g2, g3, g4, g5⟩ := yes_all l (X.bring a) h1 (hl.next h)
  exact ⟨g1, h2.trans g2, fun w => g3 (w.bring h a1 a2 a3), fun w => g4 (w.bring h a1 a2 a3), fun k w => g5 k (w.bring h a1 a2 a3)⟩
theorem Yes.sound {X : MW} (h : Yes X) : Sound { X with bag := [] } X.bag := fun m hm => ⟨⟨h.good.bg m hm, h.inv.says hm⟩, h.no m hm⟩
theorem Yes.empty {X : MW} (h : Yes X) : Yes { X with bag := [] } := h.sub fun _ h => nomatch h
end Go.Proofs.Ytfbbagnpdfafjaa
set_option maxRecDepth 100000
namespace Go.Proofs.Ytfbbagnpdfafjaa
open Go.RowKit Go.Proofs
theorem restart_calmP {X : MW} (h : Calm X) {n : Int} (hn : N3 n) : X.restart n = X := by
 unfold MW.restart
 dsimp only
 rw [if_neg (by rw [(h n hn).1]; exact Bool.noConfusion)]
theorem unfuse_calmP {X : MW} (h : Calm X) {n : Int} (hn : N3 n) : X.unfuse n 0 = X := by
 have e : ({ X.lg n with fuse := 0 } : Lg) = X.lg n := by
  have := (h n hn).2
  cases q : X.lg n with
  | mk a b c d =>
   rw [q] at this
   have : c = 0 := this
   rw [this]
 unfold MW.unfuse
 rw [e]
 unfold MW.setLg MW.lg
 rcases hn with rfl | rfl | rfl <;> rfl
theorem wake_calmP {X : MW} (h : Calm X) : X.wake = X := by
 have k : ∀ n, N3 n → X.wake1 n = X := fun n hn => by unfold MW.wake1; rw [restart_calmP h hn, unfuse_calmP h hn]
 unfold MW.wake
 rw [k 0 (.inl rfl), k 1 (.inr (.inl rfl)), k 2 (.inr (.inr rfl))]
theorem cTick_no3 (X : MW) : ∀ k : Nat, Emits (fun x => x.k ≠ 3) X (X.cTick k)
 | 0 => Emits.refl _ X
 | k + 1 => by
  refine (cTick_no3 X k).trans ?_
  show Emits _ (X.cTick k) ((X.cTick k).cTick1 ((k : Int) + 1))
  unfold MW.cTick1
  dsimp only
  have kk : ∀ (Y : MW) (s : Ds), Emits (fun x : Ms => x.k ≠ 3) Y (Y.know ((k : Int) + 1) s) := fun Y s => Emits.same rfl
  split
  ·split
   ·exact (kk _ _).trans (Emits.turn fun t => (by decide : (5 : Int) ≠ 3))
   ·exact (kk _ _).trans (Emits.both _ _ fun t => (by decide : (1 : Int) ≠ 3))
  ·split
   ·exact Emits.both _ _ fun t => (by decide : (4 : Int) ≠ 3)
   ·split
    ·exact Emits.both _ _ fun t => (by decide : (5 : Int) ≠ 3)
    ·exact Emits.refl _ _
theorem round_of {X : MW} (hc : Calm X) (hG : Good X) : ∃ Y, Y = ({ X with bag := [] } : MW).bringAll X.bag ∧ X.round.lg = Y.lg ∧ (∀ d : Int, 1 ≤ d → d ≤ X.deals.length → X.round.kn d = tk Y.pat (Y.kn d)) ∧ (∀ d : Int, ¬ (1 ≤ d ∧ d ≤ X.deals.length) → X.round.kn d = Y.kn d) ∧ Emits (fun x => x.k ≠ 3) Y X.round ∧ cfg Y = cfg X := by
 obtain ⟨Y, hY, hcY, hGY, hcf, e⟩ := round_parts hc hG
 have h1 := MW.cTick_same Y X.deals.length
 refine ⟨Y, hY, ?_, fun d h0 h2 => ?_, fun d hd => ?_, ?_, hcf⟩
 ·rw [e, (MW.sTick_same _ 2 _).1, (MW.sTick_same _ 1 _).1, h1.1]
 ·rw [e, sTick_kn, sTick_kn, cTick_kn _ _ d h0 h2]
 ·rw [e, sTick_kn, sTick_kn, h1.2.2.2.1 d (by omega)]
 ·rw [e]
  exact (cTick_no3 Y _).trans (((sTick_emits _ 1 _).mono fun x hx => by omega).trans ((sTick_emits _ 2 _).mono fun x hx => by omega))
theorem tk_one {p : Int} {s : Ds} (h : (tk p s).st = 1) : s.st = 1 ∧ (tk p s).h1 = s.h1 ∧ (tk p s).h2 = s.h2 := by
 unfold tk at *
 split at h
 ·next e =>
  rw [if_pos e]
  split at h
  ·exact absurd (show (3 : Int) = 1 from h) (by decide)
  ·next q => rw [if_neg q]; exact ⟨e, rfl, rfl⟩
 ·next e => exact absurd h e
theorem Yes.round {X : MW} (h : Yes X) (hw : ∀ d : Int, ((({ X with bag := [] } : MW).bringAll X.bag).kn d).st = 1 → ((({ X with bag := [] } : MW).bringAll X.bag).kn d).wt + 1 ≠ X.pat) : Yes X.round := by
 obtain ⟨Y, rfl, e1, e2, e3, e4, e5⟩ := round_of h.calm h.good
 obtain ⟨hY, _, _⟩ := yes_all X.bag { X with bag := [] } h.empty h.sound
 have hp : (({ X with bag := [] } : MW).bringAll X.bag).pat = X.pat := cfg_pat e5
 have hdl : (({ X with bag := [] } : MW).bringAll X.bag).deals = X.deals := cfg_deals e5
 generalize ({ X with bag := [] } : MW).bringAll X.bag = Y at *
 have hcr : cfg X.round = cfg X := cfg_round X
 have hcd : ∀ d, Cd Y d → Cd X.round d := fun d hd => by
  have : X.round.lg 0 = Y.lg 0 := by rw [e1]
  show (4, d) ∈ (X.round.lg 0).recs
  rw [this]; exact hd
 refine ⟨h.calm.round h.good, h.good.round, h.inv.round h.good, h.linv.round h.good, h.pays.cfg hcr.symm, fun d h1 h2 => ?_, fun m hm => ?_, fun n d hn => ?_, fun d hd => ?_⟩
 ·rw [cfg_deals hcr] at h2
  rw [e2 d h1 h2]
  rcases hY.nd d h1 (by rw [hdl]; exact h2) with q | q
  ·left
   unfold tk
   rw [if_pos q, if_neg (by rw [hp]; exact hw d q)]
   exact q
  ·exact .inr (hcd d q)
 ·rcases e4.of hm with q | q
  ·exact hY.no m q
  ·exact q
 ·rw [e1]; exact hY.r3 n d hn
 ·by_cases hr : 1 ≤ d ∧ d ≤ X.deals.length
  ·rw [e2 d hr.1 hr.2] at hd ⊢
   obtain ⟨g1, g2, g3⟩ := tk_one hd
   rw [g2, g3]
   exact hY.ab d g1
  ·rw [e3 d hr] at hd ⊢
   exact hY.ab d hd
theorem Way.start {X : MW} (hw : Way X []) : Way { X with bag := [] } X.bag := fun d n h1 h2 hd hn => by
 rcases hw d n h1 h2 hd hn with q | q | q | q | q
 ·exact .inl q
 ·exact nomatch q
 ·exact .inr (.inl q)
 ·exact nomatch q
 ·exact .inr (.inr (.inr (.inl q)))
theorem Way.round {X : MW} (h : Yes X) (hw : Way X []) : Way2 { X.round with bag := [] } X.round.bag := by
 obtain ⟨Y, rfl, e1, e2, e3, e4, e5⟩ := round_of h.calm h.good
 obtain ⟨hY, hE, hW, _, _⟩ := yes_all X.bag { X with bag := [] } h.empty h.sound
 have hW := hW hw.start
 have hdl : (({ X with bag := [] } : MW).bringAll X.bag).deals = X.deals := cfg_deals e5
 have hdr : X.round.deals = X.deals := cfg_deals (cfg_round X)
 intro d n h1 h2 hd hn
 have h2' : d ≤ X.deals.length := by
  have : d ≤ (X.round.deals.length : Int) := h2
  rwa [hdr] at this
 have hd' : (X.round.kn d).st = 1 := hd
 rw [e2 d h1 h2'] at hd'
 obtain ⟨g1, g2, g3⟩ := tk_one hd'
 have hh : hdn n (X.round.kn d) = hdn n ((({ X with bag := [] } : MW).bringAll X.bag).kn d) := by
  rw [e2 d h1 h2']
  unfold hdn
  rw [g2, g3]
 rcases hW d n h1 (by rw [hdl]; exact h2') g1 hn with q | q | q | q | q
 ·left; show hdn n (X.round.kn d) = true; rw [hh]; exact q
 ·exact nomatch q
 ·exact .inr (e4.mem q)
 ·exact nomatch q
 ·rcases hE.of q with q | q
  ·exact nomatch q
  ·exact absurd rfl q.1
theorem Way2.noAsk {X : MW} (h : Yes X) (hw : Way2 { X with bag := [] } X.bag) : NoAsk (({ X with bag := [] } : MW).bringAll X.bag) := fun d h1 h2 hd => by
 obtain ⟨hY, _, _, hW, _⟩ := yes_all X.bag { X with bag := [] } h.empty h.sound
 have hW := hW hw
 have q1 := hW d 1 h1 h2 hd (.inl rfl)
 have q2 := hW d 2 h1 h2 hd (.inr rfl)
 refine hY.ab d hd ⟨?_, ?_⟩
 ·rcases q1 with q | q
  ·exact q
  ·exact nomatch q
 ·rcases q2 with q | q
  ·exact q
  ·exact nomatch q
end Go.Proofs.Ytfbbagnpdfafjaa
