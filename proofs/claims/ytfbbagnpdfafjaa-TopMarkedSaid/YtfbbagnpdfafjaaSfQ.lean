import Derived.Test.YtfbbagnpdfafjaaSfM
set_option maxRecDepth 100000
namespace Go.Proofs.Ytfbbagnpdfafjaa
open Go.RowKit Go.Proofs
def Calm (X : MW) : Prop := ∀ n, N3 n → (X.lg n).down = false ∧ (X.lg n).fuse = 0
theorem Calm.ok {X : MW} (h : Calm X) {n : Int} (hn : N3 n) : X.ok n = true := by
 unfold MW.ok Lg.syncs
 rw [(h n hn).2]; rfl
theorem Calm.same {X Y : MW} (h : Calm X) (hl : Y.lg = X.lg) : Calm Y := fun n hn => by rw [hl]; exact h n hn
theorem Calm.wr {X : MW} (h : Calm X) {n : Int} (r : Rc) (hn : N3 n) : Calm (X.wr n r) := fun m hm => by
 unfold MW.wr
 rw [lg_setLg hn hm]
 split
 ·have := h n hn
  unfold Lg.write
  rw [if_neg (by omega)]
  exact ⟨this.1, this.2⟩
 ·exact h m hm
theorem Calm.know {X : MW} (h : Calm X) (d : Int) (s : Ds) : Calm (X.know d s) := h
theorem Calm.send {X : MW} (h : Calm X) (m : Ms) : Calm (X.send m) := h
theorem Calm.turn {X : MW} (h : Calm X) (d st k : Int) : Calm (X.turn d st k) := h.same (MW.turn_same _ _ _ _).1
theorem Calm.sTake {X : MW} (h : Calm X) {n : Int} {m : Ms} (hn : n = 1 ∨ n = 2) : Calm (X.sTake n m).1 := by
 have w := fun r => h.wr r (N3.s hn)
 have hok := h.ok (N3.s hn)
 unfold MW.sTake MW.sAsk
 dsimp only
 rw [hok]
 simp only [if_true]
 repeat' split
 all_goals first | exact (w _).send _ | exact h.send _ | exact h
theorem cTake_fin {X : MW} (h : Calm X) (m : Ms) : MW.fin 0 (X.cTake m) = (X.cTake m).1 := by
 have hok : (X.know m.d ((X.kn m.d).hear m.f)).ok 0 = true := Calm.ok (h.know _ _) (.inl rfl)
 have e : (X.cTake m).2 = true := by
  unfold MW.cTake
  dsimp only
  rw [hok]
  simp only [if_true]
  repeat' split
  all_goals rfl
 unfold MW.fin
 rw [e]
 rfl
theorem Calm.cTake {X : MW} (h : Calm X) (m : Ms) : Calm (X.cTake m).1 := by
 have hk : Calm (X.know m.d ((X.kn m.d).hear m.f)) := h.know _ _
 have hw : Calm ((X.know m.d ((X.kn m.d).hear m.f)).wr 0 (4, m.d)) := hk.wr _ (.inl rfl)
 unfold MW.cTake
 dsimp only
 split
 ·split
  ·split
   ·exact Calm.turn hw _ _ _
   ·exact hw
  ·exact hk
 ·split
  ·exact h.send _
  ·split
   ·exact h.send _
   ·split
    ·exact Calm.turn h _ _ _
    ·split
     ·exact h.know _ _
     ·exact h
theorem bring_calm {X : MW} (h : Calm X) {m : Ms} (hm : MsOk X m) : X.bring m = if m.t = 0 then (X.cTake m).1 else (X.sTake m.t m).1 := by
 have h1 := hm.1
 unfold MW.bring MW.take
 rw [if_neg (by rw [(h m.t (by unfold N3; omega)).1]; exact Bool.noConfusion)]
 by_cases e : m.t = 0
 ·rw [if_pos e, if_pos e, e, cTake_fin h]
 ·rw [if_neg e, if_neg e, fin_s e]
theorem Calm.bring {X : MW} (h : Calm X) {m : Ms} (hm : MsOk X m) : Calm (X.bring m) := by
 rw [bring_calm h hm]
 split
 ·exact Calm.cTake h m
 ·exact Calm.sTake h (by have := hm.1; omega)
theorem Calm.tick0 {X : MW} (h : Calm X) (n : Int) : Calm (X.tick0 n) := by
 unfold MW.tick0 MW.tick
 split
 ·exact h
 ·split
  ·exact h.same (MW.cTick_same X _).1
  ·exact h.same (MW.sTick_same X n _).1
theorem Calm.bringAll : ∀ (l : List Ms) (X : MW), Calm X → (∀ m ∈ l, MsOk X m) → Calm (X.bringAll l)
 | [], _, h, _ => h
 | m :: l, X, h, hl => Calm.bringAll l (X.bring m) (h.bring (hl m (List.mem_cons_self ..))) fun x hx => (hl x (List.mem_cons_of_mem _ hx)).cfg (cfg_bring X m).symm
theorem Calm.round {X : MW} (h : Calm X) (hG : Good X) : Calm X.round := (((Calm.bringAll X.bag { X with bag := [] } h fun m hm => hG.bg m hm).tick0 0).tick0 1).tick0 2
theorem Calm.rounds {X : MW} (h : Calm X) (hG : Good X) : ∀ k, Calm (X.rounds k)
 | 0 => h
 | k + 1 => (h.rounds hG k).round (hG.rounds k)
theorem wake1_lg {X : MW} {n m : Int} (hn : N3 n) (hm : N3 m) : ((X.wake1 n).lg m).down = (if m = n then false else (X.lg m).down) ∧ ((X.wake1 n).lg m).fuse = (if m = n then 0 else (X.lg m).fuse) := by
 have e1 : (X.wake1 n).lg m = if m = n then { (X.restart n).lg n with fuse := 0 } else (X.restart n).lg m := by
  unfold MW.wake1 MW.unfuse
  exact lg_setLg hn hm
 have e2 : ∀ k, N3 k → ((X.restart n).lg k).down = (if k = n then false else (X.lg k).down) ∧ (k ≠ n → (X.restart n).lg k = X.lg k) := fun k hk => by
  unfold MW.restart
  dsimp only
  split
  ·have e3 : ((X.setLg n ⟨(X.lg n).recs, (X.lg n).recs.length, 0, false⟩).start n).lg k = (X.setLg n ⟨(X.lg n).recs, (X.lg n).recs.length, 0, false⟩).lg k := by
    unfold MW.start
    split <;> rfl
   rw [e3, lg_setLg hn hk]
   by_cases q : k = n
   ·rw [if_pos q, if_pos q]; exact ⟨rfl, fun h => absurd q h⟩
   ·rw [if_neg q, if_neg q]; exact ⟨rfl, fun _ => rfl⟩
  ·next hd =>
   refine ⟨?_, fun _ => rfl⟩
   split
   ·next q => subst q; exact eq_false_of_ne_true hd
   ·rfl
 rw [e1]
 by_cases q : m = n
 ·rw [if_pos q, if_pos q, if_pos q]
  refine ⟨?_, rfl⟩
  have := (e2 n hn).1
  rw [if_pos rfl] at this
  exact this
 ·rw [if_neg q, if_neg q, if_neg q, (e2 m hm).2 q]
  exact ⟨rfl, rfl⟩
theorem Calm.wake (X : MW) : Calm X.wake := fun n hn => by
 have a := fun k hk => wake1_lg (X := X) (n := 0) (m := k) (.inl rfl) hk
 have b := fun k hk => wake1_lg (X := X.wake1 0) (n := 1) (m := k) (.inr (.inl rfl)) hk
 have c := fun k hk => wake1_lg (X := (X.wake1 0).wake1 1) (n := 2) (m := k) (.inr (.inr rfl)) hk
 show (((X.wake1 0).wake1 1).wake1 2 |>.lg n).down = false ∧ (((X.wake1 0).wake1 1).wake1 2 |>.lg n).fuse = 0
 rw [(c n hn).1, (c n hn).2, (b n hn).1, (b n hn).2, (a n hn).1, (a n hn).2]
 rcases hn with rfl | rfl | rfl <;> exact ⟨rfl, rfl⟩
def Emits (P : Ms → Prop) (X Y : MW) : Prop := ∃ t, Y.bag = X.bag ++ t ∧ ∀ m ∈ t, P m
theorem Emits.refl (P : Ms → Prop) (X : MW) : Emits P X X := ⟨[], by simp, fun _ h => nomatch h⟩
theorem Emits.trans {P : Ms → Prop} {X Y Z : MW} (h1 : Emits P X Y) (h2 : Emits P Y Z) : Emits P X Z := by
 obtain ⟨t, e1, p1⟩ := h1
 obtain ⟨u, e2, p2⟩ := h2
 exact ⟨t ++ u, by rw [e2, e1, List.append_assoc], fun m hm => (List.mem_append.1 hm).elim (p1 m) (p2 m)⟩
theorem Emits.same {P : Ms → Prop} {X Y : MW} (h : Y.bag = X.bag) : Emits P X Y := ⟨[], by simp [h], fun _ h => nomatch h⟩
theorem Emits.send {P : Ms → Prop} {X : MW} {m : Ms} (h : P m) : Emits P X (X.send m) := ⟨[m], rfl, fun x hx => by rw [List.mem_singleton.1 hx]; exact h⟩
theorem Emits.mem {P : Ms → Prop} {X Y : MW} (h : Emits P X Y) {m : Ms} (hm : m ∈ X.bag) : m ∈ Y.bag := by
 obtain ⟨t, e, _⟩ := h
 rw [e]; exact List.mem_append_left _ hm
theorem Emits.of {P : Ms → Prop} {X Y : MW} (h : Emits P X Y) {m : Ms} (hm : m ∈ Y.bag) : m ∈ X.bag ∨ P m := by
 obtain ⟨t, e, p⟩ := h
 rw [e] at hm
 exact (List.mem_append.1 hm).imp id (p m)
theorem Emits.mono {P Q : Ms → Prop} {X Y : MW} (h : Emits P X Y) (hPQ : ∀ m, P m → Q m) : Emits Q X Y := let ⟨t, e, p⟩ := h; ⟨t, e, fun m hm => hPQ m (p m hm)⟩
theorem Emits.both {P : Ms → Prop} {X : MW} {k d : Int} (h1 h2 : Bool) (hp : ∀ t, P ⟨0, t, k, d⟩) : Emits P X (X.both k d h1 h2) := by
 unfold MW.both
 dsimp only
 cases h1 <;> cases h2
 ·exact (Emits.send (hp 1)).trans (Emits.send (hp 2))
 ·exact Emits.send (hp 1)
 ·exact Emits.send (hp 2)
 ·exact Emits.refl _ _
theorem Emits.turn {P : Ms → Prop} {X : MW} {k d st : Int} (hp : ∀ t, P ⟨0, t, k, d⟩) : Emits P X (X.turn d st k) := Emits.both (X := X.know d (Ds.s st)) false false hp
def NoAsk (X : MW) : Prop := ∀ d : Int, 1 ≤ d → d ≤ X.deals.length → (X.kn d).st ≠ 1
theorem NoAsk.step {X Y : MW} (h : NoAsk X) (hs : Step X Y) (hc : cfg Y = cfg X) : NoAsk Y := fun d h1 h2 e => h d h1 (by rw [cfg_deals hc] at h2; exact h2) (hs.ask d e)
theorem cTake_emits {X : MW} {m : Ms} (h : (X.kn m.d).st ≠ 1) : Emits (fun x => m.k = 2 ∧ (x.k = 4 ∨ x.k = 5)) X (X.cTake m).1 ∧ (m.k = 2 → ∃ k, (k = 4 ∨ k = 5) ∧ ⟨0, m.f, k, m.d⟩ ∈ (X.cTake m).1.bag) := by
 unfold MW.cTake
 dsimp only
 rw [if_neg fun g => h g.2]
 split
 ·next g => exact ⟨Emits.send ⟨g.1, .inl rfl⟩, fun _ => ⟨4, .inl rfl, List.mem_append_right _ (List.mem_singleton.2 rfl)⟩⟩
 ·split
  ·next g => exact ⟨Emits.send ⟨g, .inr rfl⟩, fun _ => ⟨5, .inr rfl, List.mem_append_right _ (List.mem_singleton.2 rfl)⟩⟩
  ·next g =>
   rw [if_neg fun g => h g.2]
   refine ⟨?_, fun e => absurd e g⟩
   split
   ·exact Emits.same rfl
   ·exact Emits.refl _ _
end Go.Proofs.Ytfbbagnpdfafjaa
set_option maxRecDepth 100000
namespace Go.Proofs.Ytfbbagnpdfafjaa
open Go.RowKit Go.Proofs
def tk (pat : Int) (s : Ds) : Ds := if s.st = 1 then if s.wt + 1 = pat then Ds.s 3 else { s with wt := s.wt + 1 } else s
theorem cTick1_kn (X : MW) (d : Int) : (X.cTick1 d).kn d = tk X.pat (X.kn d) := by
 have b : ∀ (Y : MW) (k e : Int) (h1 h2 : Bool), (Y.both k e h1 h2).kn = Y.kn := fun Y k e h1 h2 => (MW.both_same Y k e h1 h2).2.2.2
 unfold MW.cTick1 tk
 dsimp only
 split
 ·split
  ·rw [(MW.turn_same _ _ _ _).2.2.2, upd_same]
  ·rw [b]; exact upd_same _ _ _
 ·split
  ·rw [b]
  ·split
   ·rw [b]
   ·rfl
theorem cTick_kn (X : MW) : ∀ (k : Nat) (d : Int), 1 ≤ d → d ≤ k → (X.cTick k).kn d = tk X.pat (X.kn d)
 | 0, d, h1, h2 => by omega
 | k + 1, d, h1, h2 => by
  obtain ⟨_, _, e3, e4, _⟩ := MW.cTick_same X k
  obtain ⟨_, _, _, f4, _⟩ := MW.cTick1_same (X.cTick k) ((k : Int) + 1)
  by_cases q : d = (k : Int) + 1
  ·subst q
   show ((X.cTick k).cTick1 ((k : Int) + 1)).kn ((k : Int) + 1) = _
   rw [cTick1_kn, e3, e4 _ (.inr (by omega))]
  ·show ((X.cTick k).cTick1 ((k : Int) + 1)).kn d = _
   rw [f4 d q]
   exact cTick_kn X k d h1 (by omega)
def Waited (k : Nat) (X : MW) : Prop := ∀ d : Int, 1 ≤ d → d ≤ X.deals.length → (X.kn d).st = 1 → (k : Int) ≤ (X.kn d).wt
theorem cTake_wt (X : MW) (m : Ms) (d : Int) (h : ((X.cTake m).1.kn d).st = 1) : (X.kn d).st = 1 ∧ ((X.cTake m).1.kn d).wt = (X.kn d).wt := by
 have hh := hear_wt (X.kn m.d) m.f
 have kn : ∀ (Y : MW) (e : Int) (s : Ds), (Y.know e s).kn d = if d = e then s else Y.kn d := fun _ _ _ => rfl
 have kt : ∀ (Y : MW) (e st k : Int), (Y.turn e st k).kn d = if d = e then Ds.s st else Y.kn d := fun Y e st k => by rw [(MW.turn_same _ _ _ _).2.2.2]; rfl
 have kw : ∀ (Y : MW) (r : Rc), (Y.wr 0 r).kn = Y.kn := fun Y r => setLg_kn Y 0 _
 unfold MW.cTake at h ⊢
 dsimp only at h ⊢
 split at h
 ·next g =>
  rw [if_pos g]
  split at h
  ·next gg =>
   rw [if_pos gg]
   split at h
   ·next ok =>
    rw [if_pos ok]
    dsimp only at h ⊢
    rw [kt] at h ⊢
    split at h
    ·exact absurd (show (2 : Int) = 1 from h) (by decide)
    ·next q => rw [if_neg q, kw, kn, if_neg q] at *; exact ⟨h, rfl⟩
   ·next ok =>
    rw [if_neg ok]
    dsimp only at h ⊢
    rw [kw, kn] at h ⊢
    split at h
    ·next q => rw [if_pos q, q]; rw [hh.2] at h; exact ⟨h, hh.1⟩
    ·next q => rw [if_neg q]; exact ⟨h, rfl⟩
  ·next gg =>
   rw [if_neg gg]
   dsimp only at h ⊢
   rw [kn] at h ⊢
   split at h
   ·next q => rw [if_pos q, q]; rw [hh.2] at h; exact ⟨h, hh.1⟩
   ·next q => rw [if_neg q]; exact ⟨h, rfl⟩
 ·next g =>
  rw [if_neg g]
  split at h
  ·next g2 => rw [if_pos g2]; exact ⟨h, rfl⟩
  ·next g2 =>
   rw [if_neg g2]
   split at h
   ·next g3 => rw [if_pos g3]; exact ⟨h, rfl⟩
   ·next g3 =>
    rw [if_neg g3]
    split at h
    ·next g4 =>
     rw [if_pos g4]
     dsimp only at h ⊢
     rw [kt] at h ⊢
     split at h
     ·exact absurd (show (3 : Int) = 1 from h) (by decide)
     ·next q => rw [if_neg q]; exact ⟨h, rfl⟩
    ·next g4 =>
     rw [if_neg g4]
     split at h
     ·next g5 =>
      rw [if_pos g5]
      dsimp only at h ⊢
      rw [kn] at h ⊢
      split at h
      ·next q =>
       split at h
       ·exact absurd (show (4 : Int) = 1 from h) (by decide)
       ·rw [hh.2] at h; omega
      ·next q => rw [if_neg q]; exact ⟨h, rfl⟩
     ·next g5 => rw [if_neg g5]; exact ⟨h, rfl⟩
theorem sTake_kn (X : MW) (n : Int) (m : Ms) : (X.sTake n m).1.kn = X.kn := by
 have w : ∀ r, (X.wr n r).kn = X.kn := fun r => setLg_kn X n _
 unfold MW.sTake MW.sAsk
 dsimp only
 repeat' split
 all_goals first | rfl | exact w _
theorem Waited.bring {X : MW} {k : Nat} (h : Waited k X) (hc : Calm X) {m : Ms} (hm : MsOk X m) : Waited k (X.bring m) := fun d h1 h2 hs => by
 rw [cfg_deals (cfg_bring X m)] at h2
 rw [bring_calm hc hm] at hs ⊢
 split at hs
 ·next e =>
  rw [if_pos e]
  have := cTake_wt X m d hs
  rw [this.2]
  exact h d h1 h2 this.1
 ·next e =>
  rw [if_neg e]
  rw [sTake_kn] at hs ⊢
  exact h d h1 h2 hs
theorem Waited.bringAll {k : Nat} : ∀ (l : List Ms) (X : MW), Waited k X → Calm X → (∀ m ∈ l, MsOk X m) → Waited k (X.bringAll l)
 | [], _, h, _, _ => h
 | m :: l, X, h, hc, hl => Waited.bringAll l (X.bring m) (h.bring hc (hl m (List.mem_cons_self ..))) (hc.bring (hl m (List.mem_cons_self ..))) fun x hx => (hl x (List.mem_cons_of_mem _ hx)).cfg (cfg_bring X m).symm
theorem sTick_kn (X : MW) (n : Int) : ∀ k, (X.sTick n k).kn = X.kn
 | 0 => rfl
 | k + 1 => by
  have := sTick_kn X n k
  unfold MW.sTick MW.sTick1
  split
  ·exact this
  ·exact this
theorem tick0_c {X : MW} (h : Calm X) : X.tick0 0 = X.cTick X.deals.length := by
 unfold MW.tick0 MW.tick
 rw [if_neg (by rw [(h 0 (.inl rfl)).1]; exact Bool.noConfusion), if_pos rfl]
theorem tick0_s {X : MW} (h : Calm X) {n : Int} (hn : n = 1 ∨ n = 2) : X.tick0 n = X.sTick n X.deals.length := by
 unfold MW.tick0 MW.tick
 rw [if_neg (by rw [(h n (N3.s hn)).1]; exact Bool.noConfusion), if_neg (by omega)]
theorem round_parts {X : MW} (h : Calm X) (hG : Good X) : ∃ Y, Y = ({ X with bag := [] } : MW).bringAll X.bag ∧ Calm Y ∧ Good Y ∧ cfg Y = cfg X ∧ X.round = ((Y.cTick X.deals.length).sTick 1 X.deals.length).sTick 2 X.deals.length := by
 have hG0 : Good { X with bag := [] } := hG.sub fun _ h => nomatch h
 have hY : Calm (({ X with bag := [] } : MW).bringAll X.bag) := Calm.bringAll X.bag _ h fun m hm => hG.bg m hm
 have hGY : Good (({ X with bag := [] } : MW).bringAll X.bag) := hG0.bringAll fun m hm => hG.bg m hm
 have hcY : cfg (({ X with bag := [] } : MW).bringAll X.bag) = cfg X := cfg_bringAll _ _
 refine ⟨_, rfl, hY, hGY, hcY, ?_⟩
 unfold MW.round
 have c0 := hY.tick0 0
 have c1 := c0.tick0 1
 rw [tick0_s c1 (.inr rfl), cfg_deals (cfg_tick0 _ 1), cfg_deals (cfg_tick0 _ 0), tick0_s c0 (.inl rfl), cfg_deals (cfg_tick0 _ 0), tick0_c hY, cfg_deals hcY]
theorem Waited.round {X : MW} {k : Nat} (h : Waited k X) (hc : Calm X) (hG : Good X) : Waited (k + 1) X.round := by
 obtain ⟨Y, rfl, hY, hGY, hcY, e⟩ := round_parts hc hG
 have hW : Waited k (({ X with bag := [] } : MW).bringAll X.bag) := Waited.bringAll X.bag { X with bag := [] } h hc fun m hm => hG.bg m hm
 intro d h1 h2 hs
 rw [cfg_deals (cfg_round X)] at h2
 rw [e, sTick_kn, sTick_kn, cTick_kn _ _ d h1 h2] at hs ⊢
 unfold tk at hs ⊢
 split at hs
 ·next q =>
  rw [if_pos q]
  split at hs
  ·exact absurd (show (3 : Int) = 1 from hs) (by decide)
  ·next q2 =>
   rw [if_neg q2]
   have := hW d h1 (by rw [cfg_deals hcY]; exact h2) q
   show ((k + 1 : Nat) : Int) ≤ _ + 1
   omega
 ·next q => exact absurd hs q
theorem Waited.rounds {X : MW} (hc : Calm X) (hG : Good X) : ∀ k, Waited k (X.rounds k)
 | 0 => fun d _ _ _ => (hG.wt d).1
 | k + 1 => (Waited.rounds hc hG k).round (hc.rounds hG k) (hG.rounds k)
theorem noAsk_pat {X : MW} (hc : Calm X) (hG : Good X) {k : Nat} (hk : X.pat ≤ k) : NoAsk (X.rounds k) := fun d h1 h2 hs => by
 have := Waited.rounds hc hG k d h1 h2 hs
 have h3 := ((hG.rounds k).wt d).2
 rw [cfg_pat (cfg_rounds X k)] at h3
 omega
end Go.Proofs.Ytfbbagnpdfafjaa
