import Derived.Test.YtijffdhailddoaaSfP
set_option maxRecDepth 100000
namespace Go.Proofs.Ytijffdhailddoaa
open Go.RowKit Go.Proofs
def tk (pat : Int) (s : Ds) : Ds := if s.st = 1 then if s.wt + 1 = pat then Ds.s 3 else { s with wt := s.wt + 1 } else s
theorem cTick1_kn (X : MW) (d : Int) : (X.cTick1 d).kn d = tk X.pat (X.kn d) := by
 have b : ∀ (Y : MW) (k e : Int) (h1 h2 : Bool), (Y.both k e h1 h2).kn = Y.kn := fun Y k e h1 h2 => (MW.both_same Y k e h1 h2).2.2.2
 unfold MW.cTick1 tk
 dsimp only
 split
 ·split
  ·rw [(MW.turn_same _ _ _ _).2.2.2, upd_same]
  ·rw [b]; exact upd_same _ _ _
 ·split
  ·rw [b]
  ·split
   ·rw [b]
   ·rfl
theorem cTick_kn (X : MW) : ∀ (k : Nat) (d : Int), 1 ≤ d → d ≤ k → (X.cTick k).kn d = tk X.pat (X.kn d)
 | 0, d, h1, h2 => by omega
 | k + 1, d, h1, h2 => by
  obtain ⟨_, _, e3, e4, _⟩ := MW.cTick_same X k
  obtain ⟨_, _, _, f4, _⟩ := MW.cTick1_same (X.cTick k) ((k : Int) + 1)
  by_cases q : d = (k : Int) + 1
  ·subst q
   show ((X.cTick k).cTick1 ((k : Int) + 1)).kn ((k : Int) + 1) = _
   rw [cTick1_kn, e3, e4 _ (.inr (by omega))]
  ·show ((X.cTick k).cTick1 ((k : Int) + 1)).kn d = _
   rw [f4 d q]
   exact cTick_kn X k d h1 (by omega)
def Waited (k : Nat) (X : MW) : Prop := ∀ d : Int, 1 ≤ d → d ≤ X.deals.length → (X.kn d).st = 1 → (k : Int) ≤ (X.kn d).wt
theorem cTake_wt (X : MW) (m : Ms) (d : Int) (h : ((X.cTake m).1.kn d).st = 1) : (X.kn d).st = 1 ∧ ((X.cTake m).1.kn d).wt = (X.kn d).wt := by
 have hh := hear_wt (X.kn m.d) m.f
 have kn : ∀ (Y : MW) (e : Int) (s : Ds), (Y.know e s).kn d = if d = e then s else Y.kn d := fun _ _ _ => rfl
 have kt : ∀ (Y : MW) (e st k : Int), (Y.turn e st k).kn d = if d = e then Ds.s st else Y.kn d := fun Y e st k => by rw [(MW.turn_same _ _ _ _).2.2.2]; rfl
 have kw : ∀ (Y : MW) (r : Rc), (Y.wr 0 r).kn = Y.kn := fun Y r => setLg_kn Y 0 _
 unfold MW.cTake at h ⊢
 dsimp only at h ⊢
 split at h
 ·next g =>
  rw [if_pos g]
  split at h
  ·next gg =>
   rw [if_pos gg]
   split at h
   ·next ok =>
    rw [if_pos ok]
    dsimp only at h ⊢
    rw [kt] at h ⊢
    split at h
    ·exact absurd (show (2 : Int) = 1 from h) (by decide)
    ·next q => rw [if_neg q, kw, kn, if_neg q] at *; exact ⟨h, rfl⟩
   ·next ok =>
    rw [if_neg ok]
    dsimp only at h ⊢
    rw [kw, kn] at h ⊢
    split at h
    ·next q => rw [if_pos q, q]; rw [hh.2] at h; exact ⟨h, hh.1⟩
    ·next q => rw [if_neg q]; exact ⟨h, rfl⟩
  ·next gg =>
   rw [if_neg gg]
   dsimp only at h ⊢
   rw [kn] at h ⊢
   split at h
   ·next q => rw [if_pos q, q]; rw [hh.2] at h; exact ⟨h, hh.1⟩
   ·next q => rw [if_neg q]; exact ⟨h, rfl⟩
 ·next g =>
  rw [if_neg g]
  split at h
  ·next g2 => rw [if_pos g2]; exact ⟨h, rfl⟩
  ·next g2 =>
   rw [if_neg g2]
   split at h
   ·next g3 => rw [if_pos g3]; exact ⟨h, rfl⟩
   ·next g3 =>
    rw [if_neg g3]
    split at h
    ·next g4 =>
     rw [if_pos g4]
     dsimp only at h ⊢
     rw [kt] at h ⊢
     split at h
     ·exact absurd (show (3 : Int) = 1 from h) (by decide)
     ·next q => rw [if_neg q]; exact ⟨h, rfl⟩
    ·next g4 =>
     rw [if_neg g4]
     split at h
     ·next g5 =>
      rw [if_pos g5]
      dsimp only at h ⊢
      rw [kn] at h ⊢
      split at h
      ·next q =>
       split at h
       ·exact absurd (show (4 : Int) = 1 from h) (by decide)
       ·rw [hh.2] at h; omega
      ·next q => rw [if_neg q]; exact ⟨h, rfl⟩
     ·next g5 => rw [if_neg g5]; exact ⟨h, rfl⟩
theorem sTake_kn (X : MW) (n : Int) (m : Ms) : (X.sTake n m).1.kn = X.kn := by
 have w : ∀ r, (X.wr n r).kn = X.kn := fun r => setLg_kn X n _
 unfold MW.sTake MW.sAsk
 dsimp only
 repeat' split
 all_goals first | rfl | exact w _
theorem Waited.bring {X : MW} {k : Nat} (h : Waited k X) (hc : Calm X) {m : Ms} (hm : MsOk X m) : Waited k (X.bring m) := fun d h1 h2 hs => by
 rw [cfg_deals (cfg_bring X m)] at h2
 rw [bring_calm hc hm] at hs ⊢
 split at hs
 ·next e =>
  rw [if_pos e]
  have := cTake_wt X m d hs
  rw [this.2]
  exact h d h1 h2 this.1
 ·next e =>
  rw [if_neg e]
  rw [sTake_kn] at hs ⊢
  exact h d h1 h2 hs
theorem Waited.bringAll {k : Nat} : ∀ (l : List Ms) (X : MW), Waited k X → Calm X → (∀ m ∈ l, MsOk X m) → Waited k (X.bringAll l)
 | [], _, h, _, _ => h
 | m :: l, X, h, hc, hl => Waited.bringAll l (X.bring m) (h.bring hc (hl m (List.mem_cons_self ..))) (hc.bring (hl m (List.mem_cons_self ..))) fun x hx => (hl x (List.mem_cons_of_mem _ hx)).cfg (cfg_bring X m).symm
theorem sTick_kn (X : MW) (n : Int) : ∀ k, (X.sTick n k).kn = X.kn
 | 0 => rfl
 | k + 1 => by
  have := sTick_kn X n k
  unfold MW.sTick MW.sTick1
  split
  ·exact this
  ·exact this
theorem tick0_c {X : MW} (h : Calm X) : X.tick0 0 = X.cTick X.deals.length := by
 unfold MW.tick0 MW.tick
 rw [if_neg (by rw [(h 0 (.inl rfl)).1]; exact Bool.noConfusion), if_pos rfl]
theorem tick0_s {X : MW} (h : Calm X) {n : Int} (hn : n = 1 ∨ n = 2) : X.tick0 n = X.sTick n X.deals.length := by
 unfold MW.tick0 MW.tick
 rw [if_neg (by rw [(h n (N3.s hn)).1]; exact Bool.noConfusion), if_neg (by omega)]
theorem round_parts {X : MW} (h : Calm X) (hG : Good X) : ∃ Y, Y = ({ X with bag := [] } : MW).bringAll X.bag ∧ Calm Y ∧ Good Y ∧ cfg Y = cfg X ∧ X.round = ((Y.cTick X.deals.length).sTick 1 X.deals.length).sTick 2 X.deals.length := by
 have hG0 : Good { X with bag := [] } := hG.sub fun _ h => nomatch h
 have hY : Calm (({ X with bag := [] } : MW).bringAll X.bag) := Calm.bringAll X.bag _ h fun m hm => hG.bg m hm
 have hGY : Good (({ X with bag := [] } : MW).bringAll X.bag) := hG0.bringAll fun m hm => hG.bg m hm
 have hcY : cfg (({ X with bag := [] } : MW).bringAll X.bag) = cfg X := cfg_bringAll _ _
 refine ⟨_, rfl, hY, hGY, hcY, ?_⟩
 unfold MW.round
 have c0 := hY.tick0 0
 have c1 := c0.tick0 1
 rw [tick0_s c1 (.inr rfl), cfg_deals (cfg_tick0 _ 1), cfg_deals (cfg_tick0 _ 0), tick0_s c0 (.inl rfl), cfg_deals (cfg_tick0 _ 0), tick0_c hY, cfg_deals hcY]
theorem Waited.round {X : MW} {k : Nat} (h : Waited k X) (hc : Calm X) (hG : Good X) : Waited (k + 1) X.round := by
 obtain ⟨Y, rfl, hY, hGY, hcY, e⟩ := round_parts hc hG
 have hW : Waited k (({ X with bag := [] } : MW).bringAll X.bag) := Waited.bringAll X.bag { X with bag := [] } h hc fun m hm => hG.bg m hm
 intro d h1 h2 hs
 rw [cfg_deals (cfg_round X)] at h2
 rw [e, sTick_kn, sTick_kn, cTick_kn _ _ d h1 h2] at hs ⊢
 unfold tk at hs ⊢
 split at hs
 ·next q =>
  rw [if_pos q]
  split at hs
  ·exact absurd (show (3 : Int) = 1 from hs) (by decide)
  ·next q2 =>
   rw [if_neg q2]
   have := hW d h1 (by rw [cfg_deals hcY]; exact h2) q
   show ((k + 1 : Nat) : Int) ≤ _ + 1
   omega
 ·next q => exact absurd hs q
theorem Waited.rounds {X : MW} (hc : Calm X) (hG : Good X) : ∀ k, Waited k (X.rounds k)
 | 0 => fun d _ _ _ => (hG.wt d).1
 | k + 1 => (Waited.rounds hc hG k).round (hc.rounds hG k) (hG.rounds k)
theorem noAsk_pat {X : MW} (hc : Calm X) (hG : Good X) {k : Nat} (hk : X.pat ≤ k) : NoAsk (X.rounds k) := fun d h1 h2 hs => by
 have := Waited.rounds hc hG k d h1 h2 hs
 have h3 := ((hG.rounds k).wt d).2
 rw [cfg_pat (cfg_rounds X k)] at h3
 omega
end Go.Proofs.Ytijffdhailddoaa
