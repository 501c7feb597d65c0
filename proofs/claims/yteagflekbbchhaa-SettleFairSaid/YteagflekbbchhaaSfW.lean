/- Chapter 8, plain: a deal that both can pay is done, one that one of both cannot pay is not. -/
import Derived.Test.YteagflekbbchhaaSfV
set_option maxRecDepth 100000
namespace Go.Proofs.Yteagflekbbchhaa
open Go.RowKit Go.Proofs

def hb1 (s : Ds) : Prop := s.st = 2 ∨ s.st = 3 → ¬ (s.h1 = true ∧ s.h2 = true)
theorem hb1_s (k : Int) : hb1 (Ds.s k) := fun _ h => Bool.noConfusion h.1
theorem HB.know {X : MW} (h : HB X) {d : Int} {s : Ds} (hs : hb1 s) : HB (X.know d s) := fun e => by
  show hb1 (upd X.kn d s e)
  unfold upd
  split
  · exact hs
  · exact h e
theorem HB.same {X Y : MW} (h : HB X) (e : Y.kn = X.kn) : HB Y := fun d => by rw [e]; exact h d
theorem HB.turn {X : MW} (h : HB X) (d st k : Int) : HB (X.turn d st k) := (HB.know h (hb1_s st)).same (MW.both_same _ _ _ _ _).2.2.2
theorem HB.wr {X : MW} (h : HB X) (n : Int) (r : Rc) : HB (X.wr n r) := h.same (setLg_kn X n _)
theorem HB.cTake {X : MW} (h : HB X) (m : Ms) : HB (X.cTake m).1 := by
  have hh := hear_wt (X.kn m.d) m.f
  have h1 : (X.kn m.d).st = 1 → HB (X.know m.d ((X.kn m.d).hear m.f)) := fun e => HB.know h fun g => by rw [hh.2] at g; omega
  unfold MW.cTake
  dsimp only
  split
  · next g =>
    split
    · split
      · exact HB.turn (HB.wr (h1 g.2) _ _) _ _ _
      · exact HB.wr (h1 g.2) 0 (4, m.d)
    · exact h1 g.2
  · split
    · exact h
    · split
      · exact h
      · split
        · exact HB.turn h _ _ _
        · split
          · refine HB.know h ?_
            split
            · intro g
              have : (4 : Int) = 2 ∨ (4 : Int) = 3 := g
              omega
            · next q => exact fun _ => q
          · exact h
theorem HB.bring {X : MW} (h : HB X) (hc : Calm X) {m : Ms} (hm : MsOk X m) : HB (X.bring m) := by
  rw [bring_calm hc hm]
  split
  · exact HB.cTake h m
  · exact h.same (sTake_kn X _ m)
theorem HB.bringAll : ∀ (l : List Ms) (X : MW), HB X → Calm X → (∀ m ∈ l, MsOk X m) → HB (X.bringAll l)
  | [], _, h, _, _ => h
  | m :: l, X, h, hc, hl => HB.bringAll l (X.bring m) (HB.bring h hc (hl m (List.mem_cons_self ..))) (hc.bring (hl m (List.mem_cons_self ..))) fun x hx => (hl x (List.mem_cons_of_mem _ hx)).cfg (cfg_bring X m).symm
theorem HB.round {X : MW} (h : HB X) (hc : Calm X) (hG : Good X) : HB X.round := by
  obtain ⟨Y, eY, hY, hGY, hcY, e⟩ := round_parts hc hG
  have hB : HB Y := by
    rw [eY]
    exact HB.bringAll X.bag { X with bag := [] } h hc fun m hm => hG.bg m hm
  intro d
  rw [e, sTick_kn, sTick_kn]
  by_cases q : 1 ≤ d ∧ d ≤ X.deals.length
  · rw [cTick_kn _ _ d q.1 q.2]
    unfold tk
    split
    · next g =>
      split
      · exact hb1_s 3
      · intro g2
        have : (Y.kn d).st = 2 ∨ (Y.kn d).st = 3 := g2
        omega
    · exact hB d
  · rw [(MW.cTick_same Y X.deals.length).2.2.2.1 d (by omega)]
    exact hB d
theorem HB.rounds {X : MW} (h : HB X) (hc : Calm X) (hG : Good X) : ∀ k, HB (X.rounds k)
  | 0 => h
  | k + 1 => HB.round (HB.rounds h hc hG k) (hc.rounds hG k) (hG.rounds k)

/-! ### Waking a calm world -/
theorem restart_calm {X : MW} (h : Calm X) {n : Int} (hn : N3 n) : X.restart n = X := by
  unfold MW.restart
  dsimp only
  rw [if_neg (by rw [(h n hn).1]; exact Bool.noConfusion)]
theorem unfuse_calm {X : MW} (h : Calm X) {n : Int} (hn : N3 n) : X.unfuse n 0 = X := by
  have e : ({ X.lg n with fuse := 0 } : Lg) = X.lg n := by
    have := (h n hn).2
    cases q : X.lg n with
    | mk a b c d =>
      rw [q] at this
      have : c = 0 := this
      rw [this]
  unfold MW.unfuse
  rw [e]
  unfold MW.setLg MW.lg
  rcases hn with rfl | rfl | rfl <;> rfl
theorem wake_calm {X : MW} (h : Calm X) : X.wake = X := by
  have k : ∀ n, N3 n → X.wake1 n = X := fun n hn => by unfold MW.wake1; rw [restart_calm h hn, unfuse_calm h hn]
  unfold MW.wake
  rw [k 0 (.inl rfl), k 1 (.inr (.inl rfl)), k 2 (.inr (.inr rfl))]

/-! ### The first two rounds of a deal -/
theorem Quiet.begin_ok {X : MW} (h : Quiet X) {d : Dl} (hok : d.Ok X) (hlt : X.deals.length < 1000) : Calm (X.begin d) ∧ Good (X.begin d) ∧ Inv (X.begin d) ∧ HB (X.begin d) :=
  ⟨Calm.turn (X := { X with deals := X.deals ++ [d] }) h.calm _ _ _, h.good.begin hok hlt, h.inv.begin h.good d, HB.turn (X := { X with deals := X.deals ++ [d] }) h.hb _ _ _⟩
/-- What a site answers to a first question. -/
def vote (ok : Bool) (n d : Int) : Ms := ⟨n, 0, if ok then 2 else 3, d⟩
theorem ask_first {X : MW} (hc : Calm X) {n d : Int} (hn : n = 1 ∨ n = 2) (hd : 1 ≤ d ∧ d ≤ X.deals.length) (hs : (X.lg n).state d = 0) : (X.bring ⟨0, n, 1, d⟩).bag = X.bag ++ [vote (decide (X.amount n d ≤ X.free n (X.payer n d))) n d] ∧ (X.bring ⟨0, n, 1, d⟩).kn = X.kn ∧ (∀ k, k = 1 ∨ k = 2 → k ≠ n → (X.bring ⟨0, n, 1, d⟩).lg k = X.lg k) ∧ cfg (X.bring ⟨0, n, 1, d⟩) = cfg X := by
  have hm : MsOk X ⟨0, n, 1, d⟩ := .mk0 hn hd
  refine ⟨?_, ?_, ?_, cfg_bring _ _⟩
  all_goals
    rw [bring_calm hc hm, if_neg (show ¬ n = 0 by omega)]
  · unfold MW.sTake MW.sAsk vote
    dsimp only
    rw [if_pos rfl, if_pos hs]
    by_cases q : X.amount n d ≤ X.free n (X.payer n d)
    · rw [if_pos q, if_pos (hc.ok (N3.s hn))]
      simp only [q, decide_true, if_true]
      show (X.wr n (1, d)).bag ++ _ = _
      rw [show (X.wr n (1, d)).bag = X.bag from setLg_bag _ _ _]
    · rw [if_neg q]
      simp only [q, decide_false, Bool.false_eq_true, if_false]
      rfl
  · exact sTake_kn X n _
  · intro k hk hkn
    have w : ∀ r, (X.wr n r).lg k = X.lg k := fun r => by rw [wr_lg hn (N3.s hk), if_neg hkn]
    show ((X.sTake n ⟨0, n, 1, d⟩).1.lg k) = _
    unfold MW.sTake MW.sAsk
    dsimp only
    rw [if_pos rfl]
    repeat' split
    all_goals first | exact w _ | rfl
theorem vote_ok {X : MW} {o : Bool} {n d : Int} (hn : n = 1 ∨ n = 2) (hd : 1 ≤ d ∧ d ≤ X.deals.length) : MsOk X (vote o n d) := .mkS hn hd
theorem no_vote {X : MW} (hc : Calm X) {n d : Int} (hn : n = 1 ∨ n = 2) (hd : 1 ≤ d ∧ d ≤ X.deals.length) (hst : (X.kn d).st = 1) : X.bring (vote false n d) = X.turn d 3 5 := by
  rw [bring_calm hc (vote_ok hn hd), if_pos (show (vote false n d).t = 0 from rfl)]
  unfold MW.cTake vote
  dsimp only
  rw [if_neg (fun h => by have : (3 : Int) = 2 := h.1; omega), if_neg (fun h => by have : (3 : Int) = 2 := h.1; omega), if_neg (by decide), if_pos ⟨rfl, hst⟩]
theorem late_vote {X : MW} (hc : Calm X) {o : Bool} {n d : Int} (hn : n = 1 ∨ n = 2) (hd : 1 ≤ d ∧ d ≤ X.deals.length) (hst : (X.kn d).st = 3) : (X.bring (vote o n d)).kn = X.kn ∧ (X.bring (vote o n d)).c = X.c := by
  rw [bring_calm hc (vote_ok hn hd), if_pos (show (vote o n d).t = 0 from rfl)]
  unfold MW.cTake vote
  cases o
  · dsimp only
    rw [hst, if_neg (fun h => by have := h.2; omega), if_neg (fun h => by have := h.2; omega), if_neg (show ¬ (if false = true then (2 : Int) else 3) = 2 by decide), if_neg (fun h => by have := h.2; omega), if_neg (fun h => absurd h.1 (by decide))]
    exact ⟨rfl, rfl⟩
  · dsimp only
    rw [hst, if_neg (fun h => by have := h.2; omega), if_neg (fun h => by have := h.2; omega), if_pos (show (if true = true then (2 : Int) else 3) = 2 by decide)]
    exact ⟨rfl, rfl⟩
theorem yes_vote {X : MW} (hc : Calm X) {n d : Int} (hn : n = 1 ∨ n = 2) (hd : 1 ≤ d ∧ d ≤ X.deals.length) (hst : (X.kn d).st = 1) :
    X.bring (vote true n d) = if ((X.kn d).hear n).h1 = true ∧ ((X.kn d).hear n).h2 = true then ((X.know d ((X.kn d).hear n)).wr 0 (4, d)).turn d 2 4 else X.know d ((X.kn d).hear n) := by
  rw [bring_calm hc (vote_ok hn hd), if_pos (show (vote true n d).t = 0 from rfl)]
  have hok : (X.know d ((X.kn d).hear n)).ok 0 = true := Calm.ok (hc.know _ _) (.inl rfl)
  unfold MW.cTake vote
  dsimp only
  rw [if_pos ⟨rfl, hst⟩]
  split
  · first | rfl | rw [if_pos hok]
  · rfl
/-- The coordinator, asked for, hears two votes. -/
theorem hear_two {X : MW} (hc : Calm X) (hG : Good X) {d : Int} (hd : 1 ≤ d ∧ d ≤ X.deals.length) (hst : (X.kn d).st = 1) (hh : (X.kn d).h1 = false ∧ (X.kn d).h2 = false) (o1 o2 : Bool) :
    (o1 = true → o2 = true → Cd ((X.bring (vote o1 1 d)).bring (vote o2 2 d)) d) ∧ (¬ (o1 = true ∧ o2 = true) → ¬ Cd ((X.bring (vote o1 1 d)).bring (vote o2 2 d)) d ∧ (((X.bring (vote o1 1 d)).bring (vote o2 2 d)).kn d).st ≠ 1) := by
  have hnc : ¬ Cd X d := hG.asg d hst
  have hc1 : Calm (X.bring (vote o1 1 d)) := hc.bring (vote_ok (.inl rfl) hd)
  have hd1 : 1 ≤ d ∧ d ≤ (X.bring (vote o1 1 d)).deals.length := by rw [cfg_deals (cfg_bring X _)]; exact hd
  cases o1 with
  | false =>
    refine ⟨fun h => Bool.noConfusion h, fun _ => ?_⟩
    have e1 := no_vote hc (n := 1) (.inl rfl) hd hst
    rw [e1] at hc1 hd1 ⊢
    have e2 : ((X.turn d 3 5).kn d).st = 3 := by rw [(MW.turn_same X d 3 5).2.2.2, upd_same]; rfl
    have e3 : (X.turn d 3 5).c = X.c := congrFun (MW.turn_same X d 3 5).1 0
    obtain ⟨l1, l2⟩ := late_vote hc1 (o := o2) (n := 2) (.inr rfl) hd1 e2
    unfold Cd
    rw [l1, l2, e2, e3]
    exact ⟨hnc, by decide⟩
  | true =>
    have e1 := yes_vote hc (n := 1) (.inl rfl) hd hst
    have eh : (X.kn d).hear 1 = { X.kn d with h1 := true } := by unfold Ds.hear; rw [if_pos rfl]
    rw [eh, if_neg (fun h => by have h2 : (X.kn d).h2 = true := h.2; rw [hh.2] at h2; exact Bool.noConfusion h2)] at e1
    have k1 : (X.know d { X.kn d with h1 := true }).kn d = { X.kn d with h1 := true } := upd_same _ _ _
    rw [e1] at hc1 hd1 ⊢
    have hst1 : ((X.know d { X.kn d with h1 := true }).kn d).st = 1 := by rw [k1]; exact hst
    cases o2 with
    | true =>
      refine ⟨fun _ _ => ?_, fun h => absurd ⟨rfl, rfl⟩ h⟩
      have e2 := yes_vote hc1 (n := 2) (.inr rfl) hd1 hst1
      rw [k1] at e2
      rw [if_pos (by unfold Ds.hear; rw [if_neg (by decide)]; exact ⟨rfl, rfl⟩)] at e2
      rw [e2]
      show (4, d) ∈ (MW.turn _ d 2 4).c.recs
      rw [show ∀ Y : MW, (Y.turn d 2 4).c = Y.c from fun Y => congrFun (MW.turn_same Y d 2 4).1 0]
      show (4, d) ∈ (X.c.write (4, d)).recs
      rw [write_recs]
      simp
    | false =>
      refine ⟨fun _ h => Bool.noConfusion h, fun _ => ?_⟩
      rw [no_vote hc1 (n := 2) (.inr rfl) hd1 hst1]
      unfold Cd
      rw [show ∀ Y : MW, (Y.turn d 3 5).c = Y.c from fun Y => congrFun (MW.turn_same Y d 3 5).1 0, (MW.turn_same _ d 3 5).2.2.2, upd_same]
      exact ⟨hnc, by decide⟩
end Go.Proofs.Yteagflekbbchhaa
