/- Chapter 8, plain: Heal, long enough, leaves nothing under way. -/
import Derived.Test.YteagflekbbchhaaSfU
set_option maxRecDepth 100000
namespace Go.Proofs.Yteagflekbbchhaa
open Go.RowKit Go.Proofs

def hd (n : Int) (s : Ds) : Bool := if n = 1 then s.h1 else s.h2
theorem Goes.hd {s t : Ds} (h : Goes s t) (ht : t.st = 2 ∨ t.st = 3) (n : Int) (hn : hd n s = true) : hd n t = true := by
  unfold Proofs.Yteagflekbbchhaa.hd at *
  obtain ⟨_, h1, h2⟩ := h.open_ ht
  split
  · next e => rw [if_pos e] at hn; exact h1 hn
  · next e => rw [if_neg e] at hn; exact h2 hn
/-- Whoever has not answered has been told again. -/
def U0 (X : MW) : Prop := ∀ d : Int, 1 ≤ d → d ≤ X.deals.length → ∀ n, n = 1 ∨ n = 2 → (X.kn d).st = 2 ∨ (X.kn d).st = 3 → hd n (X.kn d) = false → ∃ k, (k = 4 ∧ (X.kn d).st = 2 ∨ k = 5 ∧ (X.kn d).st = 3) ∧ ⟨0, n, k, d⟩ ∈ X.bag
/-- .. or answers. -/
def U1 (X : MW) : Prop := ∀ d : Int, 1 ≤ d → d ≤ X.deals.length → ∀ n, n = 1 ∨ n = 2 → (X.kn d).st = 2 ∨ (X.kn d).st = 3 → hd n (X.kn d) = false → ⟨n, 0, 6, d⟩ ∈ X.bag
theorem cTick_tells {X : MW} (hq : NoAsk X) : ∀ k : Nat, k ≤ X.deals.length → ∀ d : Int, 1 ≤ d → d ≤ k → ∀ n, n = 1 ∨ n = 2 → (X.kn d).st = 2 ∨ (X.kn d).st = 3 → hd n (X.kn d) = false → ∃ q, (q = 4 ∧ (X.kn d).st = 2 ∨ q = 5 ∧ (X.kn d).st = 3) ∧ ⟨0, n, q, d⟩ ∈ (X.cTick k).bag
  | 0, _, d, h1, h2, _, _, _, _ => by omega
  | k + 1, hk, d, h1, h2, n, hn, hs, hh => by
    obtain ⟨_, e2, _, e4, _⟩ := MW.cTick_same X k
    have hsk : ((X.cTick k).kn ((k : Int) + 1)).st ≠ 1 := by rw [e4 _ (.inr (by omega))]; exact hq _ (by omega) (by omega)
    have em : Emits (fun x => x.k = 4 ∨ x.k = 5) (X.cTick k) ((X.cTick k).cTick1 ((k : Int) + 1)) := by
      unfold MW.cTick1
      dsimp only
      rw [if_neg hsk]
      split
      · exact Emits.both _ _ fun t => .inl rfl
      · split
        · exact Emits.both _ _ fun t => .inr rfl
        · exact Emits.refl _ _
    by_cases q : d = (k : Int) + 1
    · subst q
      have ek : (X.cTick k).kn ((k : Int) + 1) = X.kn ((k : Int) + 1) := e4 _ (.inr (by omega))
      have hb : n = 1 ∧ ((X.cTick k).kn ((k : Int) + 1)).h1 = false ∨ n = 2 ∧ ((X.cTick k).kn ((k : Int) + 1)).h2 = false := by
        rw [ek]
        unfold hd at hh
        rcases hn with rfl | rfl
        · exact .inl ⟨rfl, by simpa using hh⟩
        · exact .inr ⟨rfl, by simpa using hh⟩
      show ∃ q, _ ∧ _ ∈ ((X.cTick k).cTick1 ((k : Int) + 1)).bag
      unfold MW.cTick1
      dsimp only
      rw [if_neg hsk]
      rcases hs with hs | hs
      · rw [if_pos (by rw [ek]; exact hs)]
        exact ⟨4, .inl ⟨rfl, hs⟩, both_mem hb⟩
      · rw [if_neg (by rw [ek]; omega), if_pos (by rw [ek]; exact hs)]
        exact ⟨5, .inr ⟨rfl, hs⟩, both_mem hb⟩
    · obtain ⟨q, h3, h4⟩ := cTick_tells hq k (by omega) d h1 (by omega) n hn hs hh
      exact ⟨q, h3, em.mem h4⟩
theorem tick_kn2 {X Y : MW} (hqY : NoAsk Y) (hcY : cfg Y = cfg X) {d : Int} (h1 : 1 ≤ d) (h2 : d ≤ X.deals.length) : (Y.cTick X.deals.length).kn d = Y.kn d := by
  rw [cTick_kn _ _ d h1 h2]
  unfold tk
  rw [if_neg (hqY d h1 (by rw [cfg_deals hcY]; exact h2))]
theorem round_U0 {X : MW} (h : Still2 X) : U0 X.round := by
  obtain ⟨Y, eY, he, hqY, hp, hcY, e⟩ := still2_parts h
  intro d h1 h2 n hn hs hh
  rw [cfg_deals (cfg_round X)] at h2
  rw [e] at hs hh ⊢
  rw [tick_kn2 hqY hcY h1 h2] at hs hh ⊢
  exact cTick_tells hqY _ (by rw [cfg_deals hcY]; exact Nat.le_refl _) d h1 h2 n hn hs hh
/-- Between messages. -/
structure Mid (X : MW) : Prop where
  calm : Calm X
  good : Good X
  ask : NoAsk X
  prep : NoPrep X
  inv : Inv X
theorem Mid.bring {X : MW} (h : Mid X) {m : Ms} (hm : MsOk X m) (hk : m.k ≠ 1) (hs : Says X m) : Mid (X.bring m) :=
  ⟨h.calm.bring hm, h.good.bring hm, h.ask.bring h.good hm, fun n d hn h1 h2 he => by
    rw [cfg_deals (cfg_bring X m)] at h2
    exact h.prep n d hn h1 h2 (bring_state h.calm hm hk hn he).1, h.inv.bring h.good hm hs⟩
theorem Still2.mid {X : MW} (h : Still2 X) : Mid { X with bag := [] } := ⟨h.calm, h.good.sub (fun _ h => nomatch h), h.ask, h.prep, h.inv.sub (fun _ h => nomatch h)⟩
def LOkm (X : MW) (l : List Ms) : Prop := ∀ m ∈ l, (MsOk X m ∧ m.k ≠ 1) ∧ Says X m
theorem LOkm.next {X : MW} {a : Ms} {l : List Ms} (h : Mid X) (hl : LOkm X (a :: l)) : LOkm (X.bring a) l := fun x hx => by
  have ha := hl a (List.mem_cons_self ..)
  have hx := hl x (List.mem_cons_of_mem _ hx)
  exact ⟨⟨hx.1.1.cfg (cfg_bring X a).symm, hx.1.2⟩, hx.2.step (Step.bring h.good ha.1.1) hx.1.1⟩
theorem Still2.lok {X : MW} (h : Still2 X) : LOkm { X with bag := [] } X.bag := fun m hm => ⟨⟨h.good.bg m hm, h.bag m hm⟩, h.inv.says hm⟩
theorem bringAll_acks : ∀ (l : List Ms) (X : MW), Mid X → LOkm X l → ∀ m ∈ l, m.t = 1 ∨ m.t = 2 → (m.k = 4 ∧ Sf X 0 (4, m.d) ∨ m.k = 5 ∧ ¬ Cd X m.d) → ⟨m.t, 0, 6, m.d⟩ ∈ (X.bringAll l).bag
  | [], _, _, _, m, hm, _, _ => nomatch hm
  | a :: l, X, hX, hl, m, hm, ht, hk => by
    have ha := hl a (List.mem_cons_self ..)
    have hst := Step.bring hX.good ha.1.1
    have hX' := hX.bring ha.1.1 ha.1.2 ha.2
    have hl' := LOkm.next hX hl
    have em := bringAll_emits l (X.bring a) hX'.calm hX'.good hX'.ask fun x hx => (hl' x hx).1.1
    rcases List.mem_cons.1 hm with rfl | hm
    · refine em.mem ?_
      rw [bring_calm hX.calm ha.1.1, if_neg (by omega)]
      have h1 := hX.prep m.t m.d ht ha.1.1.2.1 ha.1.1.2.2
      unfold MW.sTake
      dsimp only
      rcases hk with ⟨k4, hs⟩ | ⟨k5, hs⟩
      · have h2 := cd_done hX.inv hX.prep ha.1.1.2.1 ha.1.1.2.2 hs.cd ht
        rw [if_neg (by omega), if_pos k4, if_neg h1, if_pos h2]
        exact List.mem_append_right _ (List.mem_singleton.2 rfl)
      · have h2 : ((X.lg m.t).state m.d) ≠ 2 := fun e => hs (done_cd hX.inv ht e)
        rw [if_neg (by omega), if_neg (by omega), if_pos k5, if_neg h1, if_pos h2]
        exact List.mem_append_right _ (List.mem_singleton.2 rfl)
    · refine bringAll_acks l (X.bring a) hX' hl' m hm ht ?_
      have hmd := (hl m (List.mem_cons_of_mem _ hm)).1.1.2
      rcases hk with ⟨k4, hs⟩ | ⟨k5, hs⟩
      · exact .inl ⟨k4, hst.sf (.inl rfl) hs⟩
      · exact .inr ⟨k5, fun hc => (hst.cd _ hc).elim hs (hX.ask m.d hmd.1 hmd.2)⟩
theorem round_U1 {X : MW} (h : Still2 X) (hu : U0 X) : U1 X.round := by
  obtain ⟨Y, eY, he, hqY, hp, hcY, e⟩ := still2_parts h
  intro d h1 h2 n hn hs hh
  rw [cfg_deals (cfg_round X)] at h2
  have hg := round_goes h.toStill1 d
  have hst := (hg.open_ hs).1
  have hh0 : hd n (X.kn d) = false := by
    cases q : hd n (X.kn d)
    · rfl
    · exact absurd ((hg.hd hs n q).symm.trans hh) (by decide)
  obtain ⟨k, hk, hin⟩ := hu d h1 h2 n hn (by rw [hst]; exact hs) hh0
  rw [e]
  refine (cTick_emits hqY _ (by rw [cfg_deals hcY]; exact Nat.le_refl _)).mem ?_
  rw [eY]
  refine bringAll_acks X.bag { X with bag := [] } h.mid h.lok _ hin hn ?_
  rcases hk with ⟨rfl, h3⟩ | ⟨rfl, h3⟩
  · exact .inl ⟨rfl, h.inv.do_ _ hin rfl⟩
  · exact .inr ⟨rfl, h.inv.und d (.inr h3)⟩
theorem bringAll_hears : ∀ (l : List Ms) (X : MW), Mid X → LOkm X l → ∀ m ∈ l, m.t = 0 → m.k = 6 → ((X.bringAll l).kn m.d).st = 2 ∨ ((X.bringAll l).kn m.d).st = 3 → hd m.f ((X.bringAll l).kn m.d) = true
  | [], _, _, _, m, hm, _, _, _ => nomatch hm
  | a :: l, X, hX, hl, m, hm, ht, hk, hs => by
    have ha := hl a (List.mem_cons_self ..)
    have hX' := hX.bring ha.1.1 ha.1.2 ha.2
    have hl' := LOkm.next hX hl
    have hg := goes_bringAll l (X.bring a) hX'.calm hX'.good hX'.ask (fun x hx => (hl' x hx).1.1) m.d
    rcases List.mem_cons.1 hm with rfl | hm
    · refine hg.hd hs m.f ?_
      have hs' : ((X.bring m).kn m.d).st = 2 ∨ ((X.bring m).kn m.d).st = 3 := by rw [(hg.open_ hs).1]; exact hs
      rw [bring_calm hX.calm ha.1.1, if_pos ht, cTake_kn (hX.ask m.d ha.1.1.2.1 ha.1.1.2.2)] at hs' ⊢
      by_cases q : (m.k = 6 ∧ ((X.kn m.d).st = 2 ∨ (X.kn m.d).st = 3)) ∧ m.d = m.d
      · rw [if_pos q] at hs' ⊢
        have hf : m.f = 1 ∨ m.f = 2 := by have := ha.1.1.1; omega
        unfold acked at hs' ⊢
        by_cases q2 : ((X.kn m.d).hear m.f).h1 = true ∧ ((X.kn m.d).hear m.f).h2 = true
        · rw [if_pos q2] at hs'
          have : (4 : Int) = 2 ∨ (4 : Int) = 3 := hs'
          omega
        · rw [if_neg q2]
          unfold hd Ds.hear
          rcases hf with e | e <;> rw [e] <;> simp
      · rw [if_neg q] at hs'
        exact absurd ⟨⟨hk, hs'⟩, rfl⟩ q
    · exact bringAll_hears l (X.bring a) hX' hl' m hm ht hk hs
def HB (X : MW) : Prop := ∀ d, (X.kn d).st = 2 ∨ (X.kn d).st = 3 → ¬ ((X.kn d).h1 = true ∧ (X.kn d).h2 = true)
theorem round_HB {X : MW} (h : Still1 X) (hb : HB X) : HB X.round := fun d => (round_goes h d).both (hb d)
theorem round_close {X : MW} (h : Still2 X) (hu : U1 X) (hb : HB X) : ¬ Open X.round := fun ⟨d, hdr, hs⟩ => by
  rw [cfg_deals (cfg_round X)] at hdr
  have hg := round_goes h.toStill1 d
  have hst := (hg.open_ hs).1
  have key : ∀ n, n = 1 ∨ n = 2 → hd n (X.round.kn d) = true := fun n hn => by
    cases q : hd n (X.kn d)
    · have hin := hu d hdr.1 hdr.2 n hn (by rw [hst]; exact hs) q
      rw [round_kn h.toStill1 d] at hs ⊢
      exact bringAll_hears X.bag { X with bag := [] } h.mid h.lok _ hin rfl rfl hs
    · exact hg.hd hs n q
  exact round_HB h.toStill1 hb d hs ⟨key 1 (.inl rfl), key 2 (.inr rfl)⟩
/-- Nothing is under way. -/
structure Quiet (X : MW) : Prop extends Still2 X where
  none : X.bag = []
  shut : ¬ Open X
  hb : HB X
theorem quiet_end {X : MW} (hc : Calm X) (hG : Good X) (hI : Inv X) {k : Nat} (hk : X.pat ≤ k) (hb : HB (X.rounds (k + 3))) : Quiet (X.rounds (k + 8)) := by
  obtain ⟨s3, p3⟩ := noPrep_pat hc hG hk 0
  have X3 : Still2 (X.rounds (k + 3)) := ⟨s3, p3, hI.rounds hG _⟩
  have X4 := X3.round
  have b4 := bag456 X3
  have X5 := X4.round
  have b5 := bag456 X4
  have u4 : U0 (X.rounds (k + 3)).round := round_U0 X3
  have u5 : U1 (X.rounds (k + 3)).round.round := round_U1 X4 u4
  have hb4 := round_HB X3.toStill1 hb
  have hb5 := round_HB X4.toStill1 hb4
  have X6 := X5.round
  have b6 := bag456 X5
  have o6 := round_close X5 u5 hb5
  have hb6 := round_HB X5.toStill1 hb5
  have X7 := X6.round
  have b7 := bag6 X6 b6 o6
  have o7 := not_open X6.toStill1 o6
  have hb7 := round_HB X6.toStill1 hb6
  have X8 := X7.round
  have b8 := bag6 X7 (fun x hx => .inr (.inr (b7 x hx).1)) o7
  refine ⟨X8, ?_, not_open X7.toStill1 o7, round_HB X7.toStill1 hb7⟩
  cases q : (X.rounds (k + 8)).bag with
  | nil => rfl
  | cons x l =>
    obtain ⟨_, m, hm, h45⟩ := b8 x (by show x ∈ (X.rounds (k + 8)).bag; rw [q]; exact List.mem_cons_self ..)
    have := (b7 m hm).1
    omega
end Go.Proofs.Yteagflekbbchhaa
