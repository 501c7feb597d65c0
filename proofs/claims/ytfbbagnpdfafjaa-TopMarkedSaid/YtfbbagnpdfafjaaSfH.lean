import Derived.Test.YtfbbagnpdfafjaaSeT
set_option maxRecDepth 100000
namespace Go.Proofs.Ytfbbagnpdfafjaa
open Go.RowKit Go.Proofs
def Sf (X : MW) (n : Int) (r : Rc) : Prop := r ∈ (X.lg n).recs.take (X.lg n).safe
def Cd (X : MW) (d : Int) : Prop := (4, d) ∈ X.c.recs
structure Inv (X : MW) : Prop where
 up : ∀ n, N3 n → (X.lg n).down = false → (X.lg n).safe = (X.lg n).recs.length
 yes : ∀ m ∈ X.bag, m.k = 2 → Sf X m.f (1, m.d)
 do_ : ∀ m ∈ X.bag, m.k = 4 → Sf X 0 (4, m.d)
 drop : ∀ m ∈ X.bag, m.k = 5 → (X.kn m.d).st ≠ 1 ∧ (Cd X m.d → Sf X 1 (2, m.d) ∧ Sf X 2 (2, m.d))
 ack : ∀ m ∈ X.bag, m.k = 6 → (X.kn m.d).st ≠ 1 ∧ (Cd X m.d → Sf X m.f (2, m.d))
 asking : ∀ d, (X.kn d).st = 1 → ((X.kn d).h1 = true → Sf X 1 (1, d)) ∧ ((X.kn d).h2 = true → Sf X 2 (1, d))
 doing : ∀ d, (X.kn d).st = 2 → Cd X d ∧ ((X.kn d).h1 = true → Sf X 1 (2, d)) ∧ ((X.kn d).h2 = true → Sf X 2 (2, d))
 over : ∀ d, (X.kn d).st = 4 → Cd X d → Sf X 1 (2, d) ∧ Sf X 2 (2, d)
 und : ∀ d, (X.kn d).st = 0 ∨ (X.kn d).st = 3 → ¬ Cd X d
 dec : ∀ d, Cd X d → (Sf X 1 (1, d) ∧ Sf X 2 (1, d)) ∧ ∀ n, n = 1 ∨ n = 2 → (3, d) ∉ (X.lg n).recs
 done : ∀ n d, n = 1 ∨ n = 2 → (2, d) ∈ (X.lg n).recs → Sf X 0 (4, d)
 drpd : ∀ n d, n = 1 ∨ n = 2 → (3, d) ∈ (X.lg n).recs → (X.kn d).st ≠ 1
theorem Sf.mem {X : MW} {n : Int} {r : Rc} (h : Sf X n r) : r ∈ (X.lg n).recs := List.mem_of_mem_take h
theorem Sf.of_mem {X : MW} {n : Int} {r : Rc} (hu : (X.lg n).safe = (X.lg n).recs.length) (h : r ∈ (X.lg n).recs) : Sf X n r := by
 unfold Sf; rw [hu, List.take_length]; exact h
theorem Sf.cd {X : MW} {d : Int} (h : Sf X 0 (4, d)) : Cd X d := h.mem
def Keep (l l' : Lg) : Prop := ∀ r, r ∈ l.recs.take l.safe → r ∈ l'.recs.take l'.safe
theorem Keep.refl (l : Lg) : Keep l l := fun _ h => h
theorem Keep.trans {a b c : Lg} (h1 : Keep a b) (h2 : Keep b c) : Keep a c := fun r h => h2 r (h1 r h)
def Keeps (X Y : MW) : Prop := ∀ n, N3 n → Keep (X.lg n) (Y.lg n)
theorem Keeps.refl (X : MW) : Keeps X X := fun _ _ => Keep.refl _
theorem Keeps.trans {X Y Z : MW} (h1 : Keeps X Y) (h2 : Keeps Y Z) : Keeps X Z := fun n hn => (h1 n hn).trans (h2 n hn)
theorem lgS {X : MW} {n m : Int} {l : Lg} (hn : n = 1 ∨ n = 2) (hm : m = 0 ∨ m ≠ n ∧ N3 m) : (X.setLg n l).lg m = X.lg m := by
 rcases hm with rfl | ⟨h1, h2⟩
 ·rw [lg_setLg (by unfold N3; omega) (.inl rfl), if_neg (by omega)]
 ·rw [lg_setLg (by unfold N3; omega) h2, if_neg h1]
theorem lgSame {X : MW} {n : Int} {l : Lg} (hn : N3 n) : (X.setLg n l).lg n = l := by rw [lg_setLg hn hn, if_pos rfl]
theorem Sf.setLg {X : MW} {n m : Int} {l : Lg} {r : Rc} (hn : N3 n) (hm : N3 m) (hk : Keep (X.lg n) l) (h : Sf X m r) : Sf (X.setLg n l) m r := by
 unfold Sf at *
 rw [lg_setLg hn hm]
 split
 ·next e => subst e; exact hk r h
 ·exact h
theorem mf3 {X : MW} {m : Ms} (h : MsOk X m) : N3 m.f := by have := h.1; unfold N3; omega
theorem Inv.site {X : MW} (h : Inv X) (hG : Good X) {n : Int} {l : Lg} (hn : n = 1 ∨ n = 2) (hk : Keep (X.lg n) l) (hu : l.down = false → l.safe = l.recs.length)
  (h2 : ∀ d, (2, d) ∈ l.recs → Sf X 0 (4, d)) (h3 : ∀ d, (3, d) ∈ l.recs → ¬ Cd X d ∧ (X.kn d).st ≠ 1) : Inv (X.setLg n l) := by
 have hn3 : N3 n := by unfold N3; omega
 have s : ∀ {m r}, N3 m → Sf X m r → Sf (X.setLg n l) m r := fun hm h => h.setLg hn3 hm hk
 have e0 : (X.setLg n l).lg 0 = X.lg 0 := lgS hn (.inl rfl)
 have c : ∀ d, Cd (X.setLg n l) d ↔ Cd X d := fun d => by unfold Cd; rw [setLg_c (by omega)]
 have kn := setLg_kn X n l
 have bg := setLg_bag X n l
 refine ⟨fun m hm hd => ?_, fun m hm hk => ?_, fun m hm hk => ?_, fun m hm hk => ?_, fun m hm hk => ?_, fun d => ?_, fun d => ?_, fun d => ?_, fun d => ?_, fun d hc => ?_, fun m d hm hr => ?_, fun m d hm hr => ?_⟩
 ·rw [lg_setLg hn3 hm] at *
  split
  ·next e => rw [if_pos e] at hd; exact hu hd
  ·next e => rw [if_neg e] at hd; exact h.up m hm hd
 ·rw [bg] at hm; exact s (mf3 (hG.bg m hm)) (h.yes m hm hk)
 ·rw [bg] at hm; exact s (.inl rfl) (h.do_ m hm hk)
 ·rw [bg] at hm; rw [kn, c]; exact ⟨(h.drop m hm hk).1, fun hc => ⟨s (.inr (.inl rfl)) ((h.drop m hm hk).2 hc).1, s (.inr (.inr rfl)) ((h.drop m hm hk).2 hc).2⟩⟩
 ·rw [bg] at hm; rw [kn, c]; exact ⟨(h.ack m hm hk).1, fun hc => s (mf3 (hG.bg m hm)) ((h.ack m hm hk).2 hc)⟩
 ·rw [kn]; exact fun hs => ⟨fun hh => s (.inr (.inl rfl)) ((h.asking d hs).1 hh), fun hh => s (.inr (.inr rfl)) ((h.asking d hs).2 hh)⟩
 ·rw [kn, c]; exact fun hs => ⟨(h.doing d hs).1, fun hh => s (.inr (.inl rfl)) ((h.doing d hs).2.1 hh), fun hh => s (.inr (.inr rfl)) ((h.doing d hs).2.2 hh)⟩
 ·rw [kn, c]; exact fun hs hc => ⟨s (.inr (.inl rfl)) (h.over d hs hc).1, s (.inr (.inr rfl)) (h.over d hs hc).2⟩
 ·rw [kn, c]; exact h.und d
 ·rw [c] at hc
  refine ⟨⟨s (.inr (.inl rfl)) (h.dec d hc).1.1, s (.inr (.inr rfl)) (h.dec d hc).1.2⟩, fun m hm => ?_⟩
  rw [lg_setLg hn3 (by unfold N3; omega)]
  split
  ·exact fun hr => (h3 d hr).1 hc
  ·exact (h.dec d hc).2 m hm
 ·refine s (.inl rfl) ?_
  rw [lg_setLg hn3 (by unfold N3; omega)] at hr
  split at hr
  ·exact h2 d hr
  ·exact h.done m d hm hr
 ·rw [kn]
  rw [lg_setLg hn3 (by unfold N3; omega)] at hr
  split at hr
  ·exact (h3 d hr).2
  ·exact h.drpd m d hm hr
theorem Inv.co {X : MW} (h : Inv X) (hG : Good X) {l : Lg} {g : Int → Ds} (hk : Keep X.c l) (hu : l.down = false → l.safe = l.recs.length)
  (hC : ∀ d, (4, d) ∈ l.recs → Cd X d ∨ (X.kn d).st = 1 ∧ Sf X 1 (1, d) ∧ Sf X 2 (1, d))
  (h1 : ∀ d, (g d).st = 1 → (X.kn d).st = 1 ∧ ((g d).h1 = true → Sf X 1 (1, d)) ∧ ((g d).h2 = true → Sf X 2 (1, d)))
  (h2 : ∀ d, (g d).st = 2 → (4, d) ∈ l.recs ∧ ((g d).h1 = true → Sf X 1 (2, d)) ∧ ((g d).h2 = true → Sf X 2 (2, d)))
  (h4 : ∀ d, (g d).st = 4 → (4, d) ∈ l.recs → Sf X 1 (2, d) ∧ Sf X 2 (2, d))
  (h0 : ∀ d, (g d).st = 0 ∨ (g d).st = 3 → (4, d) ∉ l.recs) : Inv { X with c := l, kn := g } := by
 have s0 : ∀ {r}, Sf X 0 r → Sf { X with c := l, kn := g } 0 r := fun h => hk _ h
 have s : ∀ {m r}, N3 m → Sf X m r → Sf { X with c := l, kn := g } m r := fun {m r} hm h => by
  rcases hm with rfl | rfl | rfl
  ·exact s0 h
  ·exact h
  ·exact h
 have ask : ∀ d, (X.kn d).st ≠ 1 → (g d).st ≠ 1 := fun d hd e => hd (h1 d e).1
 refine ⟨fun m hm hd => ?_, fun m hm hk => ?_, fun m hm hk => ?_, fun m hm hk => ?_, fun m hm hk => ?_, fun d hs => ?_, fun d hs => ?_, fun d hs hc => ?_, fun d hs => ?_, fun d hc => ?_, fun m d hm hr => ?_, fun m d hm hr => ?_⟩
 ·rcases hm with rfl | rfl | rfl
  ·exact hu hd
  ·exact h.up 1 (.inr (.inl rfl)) hd
  ·exact h.up 2 (.inr (.inr rfl)) hd
 ·exact s (mf3 (hG.bg m hm)) (h.yes m hm hk)
 ·exact s0 (h.do_ m hm hk)
 ·have := h.drop m hm hk
  refine ⟨ask _ this.1, fun hc => ?_⟩
  rcases hC _ hc with hc | hc
  ·exact this.2 hc
  ·exact absurd hc.1 this.1
 ·have := h.ack m hm hk
  refine ⟨ask _ this.1, fun hc => ?_⟩
  rcases hC _ hc with hc | hc
  ·exact s (mf3 (hG.bg m hm)) (this.2 hc)
  ·exact absurd hc.1 this.1
 ·exact (h1 d hs).2
 ·exact h2 d hs
 ·exact h4 d hs hc
 ·exact h0 d hs
 ·have key : ∀ n, n = 1 ∨ n = 2 → (({ X with c := l, kn := g } : MW).lg n).recs = (X.lg n).recs := fun n hn => by rcases hn with rfl | rfl <;> rfl
  rcases hC _ hc with hc | ⟨hs, hp1, hp2⟩
  ·exact ⟨(h.dec d hc).1, fun n hn => by rw [key n hn]; exact (h.dec d hc).2 n hn⟩
  ·exact ⟨⟨hp1, hp2⟩, fun n hn => by rw [key n hn]; exact fun hr => h.drpd n d hn hr hs⟩
 ·refine s0 (h.done m d hm ?_)
  rcases hm with rfl | rfl <;> exact hr
 ·refine ask d (h.drpd m d hm ?_)
  rcases hm with rfl | rfl <;> exact hr
theorem Inv.know {X : MW} (h : Inv X) (hG : Good X) {d : Int} {s : Ds} (h1 : s.st = 1 → (X.kn d).st = 1 ∧ (s.h1 = true → Sf X 1 (1, d)) ∧ (s.h2 = true → Sf X 2 (1, d)))
  (h2 : s.st = 2 → Cd X d ∧ (s.h1 = true → Sf X 1 (2, d)) ∧ (s.h2 = true → Sf X 2 (2, d))) (h4 : s.st = 4 → Cd X d → Sf X 1 (2, d) ∧ Sf X 2 (2, d)) (h0 : s.st = 0 ∨ s.st = 3 → ¬ Cd X d) : Inv (X.know d s) := by
 refine h.co hG (l := X.c) (g := upd X.kn d s) (Keep.refl _) (h.up 0 (.inl rfl)) (fun d hd => .inl hd) (fun e => ?_) (fun e => ?_) (fun e => ?_) (fun e => ?_)
 all_goals
  unfold upd
  split
 ·next q => rw [q]; exact h1
 ·exact fun hs => ⟨hs, h.asking e hs⟩
 ·next q => rw [q]; exact h2
 ·exact h.doing e
 ·next q => rw [q]; exact h4
 ·exact h.over e
 ·next q => rw [q]; exact h0
 ·exact h.und e
theorem Inv.send {X : MW} (h : Inv X) {m : Ms} (h2 : m.k = 2 → Sf X m.f (1, m.d)) (h4 : m.k = 4 → Sf X 0 (4, m.d)) (h5 : m.k = 5 → (X.kn m.d).st ≠ 1 ∧ (Cd X m.d → Sf X 1 (2, m.d) ∧ Sf X 2 (2, m.d)))
  (h6 : m.k = 6 → (X.kn m.d).st ≠ 1 ∧ (Cd X m.d → Sf X m.f (2, m.d))) : Inv (X.send m) := by
 have key : ∀ {p : Ms → Prop}, (∀ x ∈ X.bag, p x) → p m → ∀ x ∈ (X.send m).bag, p x := fun {p} h1 h2 x hx => by
  rcases List.mem_append.1 hx with hx | hx
  ·exact h1 x hx
  ·rw [List.mem_singleton.1 hx]; exact h2
 exact ⟨h.up, key h.yes h2, key h.do_ h4, key h.drop h5, key h.ack h6, h.asking, h.doing, h.over, h.und, h.dec, h.done, h.drpd⟩
theorem Inv.sub {X : MW} (h : Inv X) {b : List Ms} (hb : ∀ m ∈ b, m ∈ X.bag) : Inv { X with bag := b } :=
 ⟨h.up, fun m hm => h.yes m (hb m hm), fun m hm => h.do_ m (hb m hm), fun m hm => h.drop m (hb m hm), fun m hm => h.ack m (hb m hm), h.asking, h.doing, h.over, h.und, h.dec, h.done, h.drpd⟩
theorem mem_take_app {α : Type} {x : α} {l t : List α} {s : Nat} (h : x ∈ l.take s) {s' : Nat} (hs : s ≤ s') : x ∈ (l ++ t).take s' := by
 have h2 : (l.take s) <+: (l ++ t).take s' := List.prefix_take_iff.2 ⟨(List.take_prefix _ _).trans (List.prefix_append _ _), by simp; omega⟩
 exact h2.subset h
theorem no {a b : Int} (h : ¬ a = b) {p : Prop} (e : a = b) : p := absurd e h
theorem write_keep {l : Lg} {r : Rc} (hs : l.safe ≤ l.recs.length) : Keep l (l.write r) := by
 intro x hx
 rw [write_recs]
 unfold Lg.write
 split
 ·split
  ·exact mem_take_app hx (Nat.le_refl _)
  ·exact mem_take_app hx (by dsimp only; omega)
 ·exact mem_take_app hx (by dsimp only; omega)
theorem write_up {l : Lg} {r : Rc} : (l.write r).down = false → (l.write r).safe = (l.write r).recs.length := by
 unfold Lg.write
 split
 ·split
  ·intro h; cases h
  ·intro _; simp
 ·intro _; simp
theorem write_ok {l : Lg} {r : Rc} (h : l.syncs = true) (_ : 0 ≤ l.fuse) : (l.write r).down = l.down ∧ (l.write r).safe = (l.write r).recs.length := by
 unfold Lg.syncs at h
 have h1 : l.fuse ≠ 1 := by simpa using h
 unfold Lg.write
 split
 ·rw [if_neg (by omega)]; simp
 ·simp
theorem Inv.both {X : MW} (h : Inv X) {k d : Int} (h1 h2 : Bool) (hk2 : k ≠ 2) (hk6 : k ≠ 6) (h4 : k = 4 → Sf X 0 (4, d)) (h5 : k = 5 → (X.kn d).st ≠ 1 ∧ (Cd X d → Sf X 1 (2, d) ∧ Sf X 2 (2, d))) : Inv (X.both k d h1 h2) := by
 have s : ∀ {Y : MW}, Inv Y → Y.c = X.c → Y.s1 = X.s1 → Y.s2 = X.s2 → Y.kn = X.kn → ∀ t, Inv (Y.send ⟨0, t, k, d⟩) := fun {Y} hY e0 e1 e2 ek t => by
  have es : ∀ n r, Sf Y n r ↔ Sf X n r := fun n r => by unfold Sf MW.lg; rw [e0, e1, e2]
  have ec : Cd Y d ↔ Cd X d := by unfold Cd; rw [e0]
  exact hY.send (fun e => absurd e hk2) (fun e => (es _ _).2 (h4 e)) (fun e => by rw [ek, ec, es, es]; exact h5 e) (fun e => absurd e hk6)
 unfold MW.both
 dsimp only
 cases h1 <;> cases h2
 ·exact s (s h rfl rfl rfl rfl 1) rfl rfl rfl rfl 2
 ·exact s h rfl rfl rfl rfl 1
 ·exact s h rfl rfl rfl rfl 2
 ·exact h
theorem kn0_2 {X : MW} (_ : Good0 X) {l : Lg} (hl : LgOk X.deals.length 0 l) (d : Int) : ((MW.kn0 l.recs d).st = 2 ↔ (4, d) ∈ l.recs) ∧ (MW.kn0 l.recs d).h1 = false ∧ (MW.kn0 l.recs d).h2 = false ∧ ((MW.kn0 l.recs d).st = 0 ∨ (MW.kn0 l.recs d).st = 2) := by
 have key : (∃ r ∈ l.recs, r.2 = d) ↔ (4, d) ∈ l.recs := by
  constructor
  ·rintro ⟨⟨a, b⟩, hr, rfl⟩
   have := (hl.rc _ hr).2
   have e : a = 4 := by dsimp only at this; omega
   subst e; exact hr
  ·exact fun h => ⟨_, h, rfl⟩
 rw [kn0_eq]
 by_cases e : ∃ r ∈ l.recs, r.2 = d
 ·rw [if_pos e]; exact ⟨⟨fun _ => key.1 e, fun _ => rfl⟩, rfl, rfl, .inr rfl⟩
 ·rw [if_neg e]; exact ⟨⟨fun h => absurd (show (0 : Int) = 2 from h) (by decide), fun h => absurd (key.2 h) e⟩, rfl, rfl, .inl rfl⟩
theorem Inv.costart {X : MW} (h : Inv X) (hG : Good X) {l : Lg} (hl : LgOk X.deals.length 0 l) (hk : Keep X.c l) (hu : l.down = false → l.safe = l.recs.length)
  (hC : ∀ d, (4, d) ∈ l.recs → Cd X d ∨ (X.kn d).st = 1 ∧ Sf X 1 (1, d) ∧ Sf X 2 (1, d)) : Inv { X with c := l, kn := MW.kn0 l.recs } := by
 have k := kn0_2 hG.toGood0 hl
 refine h.co hG hk hu hC (fun d hs => ?_) (fun d hs => ?_) (fun d hs => ?_) (fun d hs => ?_)
 ·have := (k d).2.2.2; omega
 ·exact ⟨(k d).1.1 hs, fun hh => absurd (hh.symm.trans (k d).2.1) Bool.noConfusion, fun hh => absurd (hh.symm.trans (k d).2.2.1) Bool.noConfusion⟩
 ·have := (k d).2.2.2; omega
 ·intro hc
  have := (k d).1.2 hc
  omega
theorem Inv.cTake {X : MW} (h : Inv X) (hG : Good X) {m : Ms} (hm : MsOk X m) (hb : (m.k = 2 → Sf X m.f (1, m.d)) ∧ (m.k = 6 → (X.kn m.d).st ≠ 1 ∧ (Cd X m.d → Sf X m.f (2, m.d)))) (ht : m.t = 0) (hup : X.c.down = false) : Inv (MW.fin 0 (X.cTake m)) := by
 have hf : m.f = 1 ∨ m.f = 2 := by have := hm.1; omega
 have hk := hG.ks m.d
 have hs0 : X.c.safe = X.c.recs.length := h.up 0 (.inl rfl) hup
 have hh := hear_wt (X.kn m.d) m.f
 have hear1 : ∀ {p : Int → Prop}, ((X.kn m.d).h1 = true → p 1) → p m.f → (((X.kn m.d).hear m.f).h1 = true → p 1) := fun {p} h1 hp => by
  unfold Ds.hear
  split
  ·next e => rw [e] at hp; exact fun _ => hp
  ·exact h1
 have hear2 : ∀ {p : Int → Prop}, ((X.kn m.d).h2 = true → p 2) → p m.f → (((X.kn m.d).hear m.f).h2 = true → p 2) := fun {p} h1 hp => by
  unfold Ds.hear
  split
  ·exact h1
  ·next e => rw [show m.f = 2 by omega] at hp; exact fun _ => hp
 unfold MW.cTake
 dsimp only
 split
 ·next g =>
  have hy := hb.1 g.1
  have ha := h.asking m.d g.2
  have q1 := hear1 (p := fun n => Sf X n (1, m.d)) ha.1 hy
  have q2 := hear2 (p := fun n => Sf X n (1, m.d)) ha.2 hy
  split
  ·next gg =>
   have hl : LgOk X.deals.length 0 (X.c.write (4, m.d)) := hG.toGood0.wrOk (.inl rfl) ⟨hm.2, .inl ⟨rfl, rfl⟩⟩ (hG.asg _ g.2)
   have hkp : Keep X.c (X.c.write (4, m.d)) := write_keep (hG.sf 0 (.inl rfl))
   have hC : ∀ d, (4, d) ∈ (X.c.write (4, m.d)).recs → Cd X d ∨ (X.kn d).st = 1 ∧ Sf X 1 (1, d) ∧ Sf X 2 (1, d) := fun d hd => by
    rw [write_recs] at hd
    rcases List.mem_append.1 hd with hd | hd
    ·exact .inl hd
    ·have := List.mem_singleton.1 hd
     injection this with _ e
     subst e
     exact .inr ⟨g.2, q1 gg.1, q2 gg.2⟩
   split
   ·next hok =>
    unfold MW.fin
    rw [if_pos rfl]
    have hw := write_ok (l := X.c) (r := (4, m.d)) hok (hG.fu 0 (.inl rfl)).1
    have hY : Inv { X with c := X.c.write (4, m.d), kn := upd (upd X.kn m.d ((X.kn m.d).hear m.f)) m.d (Ds.s 2) } := by
     have hmem : (4, m.d) ∈ (X.c.write (4, m.d)).recs := by rw [write_recs]; simp
     have hmono : ∀ d, d ≠ m.d → (4, d) ∉ X.c.recs → (4, d) ∉ (X.c.write (4, m.d)).recs := fun d hd hn => by
      rw [write_recs]
      intro hc
      rcases List.mem_append.1 hc with hc | hc
      ·exact hn hc
      ·have := List.mem_singleton.1 hc
       injection this with _ e
       exact hd e
     have hcd : ∀ d, Cd X d → (4, d) ∈ (X.c.write (4, m.d)).recs := fun d hd => by rw [write_recs]; exact List.mem_append_left _ hd
     refine h.co hG hkp write_up hC (fun d hs => ?_) (fun d hs => ?_) (fun d hs => ?_) (fun d hs => ?_)
     all_goals
      by_cases e : d = m.d
     ·subst e; rw [upd_same] at hs; exact absurd (show (2 : Int) = 1 from hs) (by decide)
     ·rw [upd_ne _ _ e, upd_ne _ _ e] at *; exact ⟨hs, h.asking d hs⟩
     ·subst e; rw [upd_same]; exact ⟨hmem, fun hh => Bool.noConfusion hh, fun hh => Bool.noConfusion hh⟩
     ·rw [upd_ne _ _ e, upd_ne _ _ e] at *; exact ⟨hcd d (h.doing d hs).1, (h.doing d hs).2⟩
     ·subst e; rw [upd_same] at hs; exact absurd (show (2 : Int) = 4 from hs) (by decide)
     ·rw [upd_ne _ _ e, upd_ne _ _ e] at *
      intro hc
      rcases hC d hc with hc | hc
      ·exact h.over d hs hc
      ·have := hc.1; omega
     ·subst e; rw [upd_same] at hs; exact absurd hs (by show ¬ ((2 : Int) = 0 ∨ (2 : Int) = 3); decide)
     ·rw [upd_ne _ _ e, upd_ne _ _ e] at *
      exact hmono d e (h.und d hs)
    exact Inv.both hY false false (by decide) (by decide) (fun _ => Sf.of_mem (X := { X with c := X.c.write (4, m.d), kn := upd (upd X.kn m.d ((X.kn m.d).hear m.f)) m.d (Ds.s 2) }) (n := 0) hw.2 (by show (4, m.d) ∈ (X.c.write (4, m.d)).recs; rw [write_recs]; simp)) (fun e => absurd e (by decide))
   ·exact h.costart hG hl hkp write_up hC
  ·exact h.know hG (fun _ => ⟨g.2, q1, q2⟩) (fun e => by rw [hh.2] at e; omega) (fun e => by rw [hh.2] at e; omega) (fun e => by rw [hh.2] at e; omega)
 ·split
  ·next g => exact h.send (no (a := 4) (by decide)) (fun _ => Sf.of_mem hs0 (h.doing _ g.2).1) (no (a := 4) (by decide)) (no (a := 4) (by decide))
  ·split
   ·next g1 g2 g3 => exact h.send (no (a := 5) (by decide)) (no (a := 5) (by decide)) (fun _ => ⟨fun e => g1 ⟨g3, e⟩, fun hc => by
     have h2 : (X.kn m.d).st ≠ 2 := fun e => g2 ⟨g3, e⟩
     have h1 : (X.kn m.d).st ≠ 1 := fun e => g1 ⟨g3, e⟩
     by_cases e4 : (X.kn m.d).st = 4
     ·exact h.over _ e4 hc
     ·exact absurd hc (h.und m.d (by omega))⟩) (no (a := 5) (by decide))
   ·split
    ·next g =>
     have hnc : ¬ Cd X m.d := hG.asg _ g.2
     have hY : Inv (X.know m.d (Ds.s 3)) := h.know hG (fun e => absurd (show (3 : Int) = 1 from e) (by decide)) (fun e => absurd (show (3 : Int) = 2 from e) (by decide)) (fun e => absurd (show (3 : Int) = 4 from e) (by decide)) (fun _ => hnc)
     exact Inv.both hY false false (by decide) (by decide) (fun e => absurd e (by decide)) (fun _ => ⟨by show (upd X.kn m.d (Ds.s 3) m.d).st ≠ 1; rw [upd_same]; exact (by decide : (3 : Int) ≠ 1), fun hc => absurd hc hnc⟩)
    ·split
     ·next g =>
      have ha := hb.2 g.1
      unfold MW.fin
      rw [if_pos rfl]
      by_cases e2 : (X.kn m.d).st = 2
      ·have hd := h.doing m.d e2
       have q1 := hear1 (p := fun n => Sf X n (2, m.d)) hd.2.1 (ha.2 hd.1)
       have q2 := hear2 (p := fun n => Sf X n (2, m.d)) hd.2.2 (ha.2 hd.1)
       split
       ·next gg => exact h.know hG (fun e => absurd (show (4 : Int) = 1 from e) (by decide)) (fun e => absurd (show (4 : Int) = 2 from e) (by decide)) (fun _ _ => ⟨q1 gg.1, q2 gg.2⟩) (fun e => absurd e (by show ¬ ((4 : Int) = 0 ∨ (4 : Int) = 3); decide))
       ·exact h.know hG (fun e => by rw [hh.2] at e; omega) (fun _ => ⟨hd.1, q1, q2⟩) (fun e => by rw [hh.2] at e; omega) (fun e => by rw [hh.2] at e; omega)
      ·have e3 : (X.kn m.d).st = 3 := by omega
       have hnc := h.und m.d (.inr e3)
       split
       ·exact h.know hG (fun e => absurd (show (4 : Int) = 1 from e) (by decide)) (fun e => absurd (show (4 : Int) = 2 from e) (by decide)) (fun _ hc => absurd hc hnc) (fun e => absurd e (by show ¬ ((4 : Int) = 0 ∨ (4 : Int) = 3); decide))
       ·exact h.know hG (fun e => by rw [hh.2] at e; omega) (fun e => by rw [hh.2] at e; omega) (fun e => by rw [hh.2] at e; omega) (fun _ => hnc)
     ·exact h
theorem N3.s {n : Int} (h : n = 1 ∨ n = 2) : N3 n := .inr h
theorem Inv.old3 {X : MW} (h : Inv X) {n d : Int} (hn : n = 1 ∨ n = 2) (hr : (3, d) ∈ (X.lg n).recs) : ¬ Cd X d ∧ (X.kn d).st ≠ 1 := ⟨fun hc => (h.dec d hc).2 n hn hr, h.drpd n d hn hr⟩
theorem Inv.wrS {X : MW} (h : Inv X) (hG : Good X) {n : Int} {r : Rc} (hn : n = 1 ∨ n = 2) (h2 : r.1 = 2 → Sf X 0 (4, r.2)) (h3 : r.1 = 3 → ¬ Cd X r.2 ∧ (X.kn r.2).st ≠ 1) : Inv (X.wr n r) := by
 refine h.site hG hn (write_keep (hG.sf n (N3.s hn))) write_up (fun d hd => ?_) (fun d hd => ?_)
 all_goals
  rw [write_recs] at hd
  rcases List.mem_append.1 hd with hd | hd
 ·exact h.done n d hn hd
 ·have e := List.mem_singleton.1 hd
  rw [← e] at h2
  exact h2 rfl
 ·exact h.old3 hn hd
 ·have e := List.mem_singleton.1 hd
  rw [← e] at h3
  exact h3 rfl
theorem wrSf {X : MW} (hG : Good X) {n : Int} {r : Rc} (hn : n = 1 ∨ n = 2) (hok : X.ok n = true) : Sf (X.wr n r) n r := by
 have hw := write_ok (l := X.lg n) (r := r) hok (hG.fu n (N3.s hn)).1
 refine Sf.of_mem ?_ ?_
 ·unfold MW.wr; rw [lgSame (N3.s hn)]; exact hw.2
 ·unfold MW.wr; rw [lgSame (N3.s hn), write_recs]; simp
theorem wr_cd {X : MW} {n d : Int} {r : Rc} (hn : n = 1 ∨ n = 2) : Cd (X.wr n r) d ↔ Cd X d := by unfold Cd MW.wr; rw [setLg_c (by omega)]
theorem Sf.wr {X : MW} (hG : Good X) {n m : Int} {r x : Rc} (hn : n = 1 ∨ n = 2) (hm : N3 m) (h : Sf X m x) : Sf (X.wr n r) m x := h.setLg (N3.s hn) hm (write_keep (hG.sf n (N3.s hn)))
theorem state_2 {l : Lg} {d : Int} (h : l.state d = 2) : (2, d) ∈ l.recs := by
 unfold Lg.state at h
 split at h; cases h
 split at h
 ·assumption
 ·split at h; cases h; cases h
theorem Inv.pOf2 {X : MW} (h : Inv X) {n d : Int} (hn : n = 1 ∨ n = 2) (hr : (2, d) ∈ (X.lg n).recs) : Sf X n (1, d) := by
 have := (h.dec d (h.done n d hn hr).cd).1
 rcases hn with rfl | rfl
 ·exact this.1
 ·exact this.2
theorem Inv.yesOk {X : MW} (h : Inv X) {n d : Int} (hn : n = 1 ∨ n = 2) (hup : (X.lg n).down = false) (hs : (X.lg n).state d = 1 ∨ (X.lg n).state d = 2) : Sf X n (1, d) := by
 rcases hs with hs | hs
 ·exact Sf.of_mem (h.up n (N3.s hn) hup) (state_1 hs).1
 ·exact h.pOf2 hn (state_2 hs)
def Says (X : MW) (m : Ms) : Prop := (m.k = 2 → Sf X m.f (1, m.d)) ∧ (m.k = 4 → Sf X 0 (4, m.d)) ∧ (m.k = 5 → (X.kn m.d).st ≠ 1 ∧ (Cd X m.d → Sf X 1 (2, m.d) ∧ Sf X 2 (2, m.d))) ∧ (m.k = 6 → (X.kn m.d).st ≠ 1 ∧ (Cd X m.d → Sf X m.f (2, m.d)))
theorem Inv.says {X : MW} (h : Inv X) {m : Ms} (hm : m ∈ X.bag) : Says X m := ⟨h.yes m hm, h.do_ m hm, h.drop m hm, h.ack m hm⟩
theorem Inv.sends {X : MW} (h : Inv X) {m : Ms} (hm : Says X m) : Inv (X.send m) := h.send hm.1 hm.2.1 hm.2.2.1 hm.2.2.2
theorem saysYes {X : MW} {n d : Int} (h : Sf X n (1, d)) : Says X ⟨n, 0, 2, d⟩ := ⟨fun _ => h, no (a := 2) (by decide), no (a := 2) (by decide), no (a := 2) (by decide)⟩
theorem saysNo {X : MW} {n d : Int} : Says X ⟨n, 0, 3, d⟩ := ⟨no (a := 3) (by decide), no (a := 3) (by decide), no (a := 3) (by decide), no (a := 3) (by decide)⟩
theorem saysAck {X : MW} {n d : Int} (h1 : (X.kn d).st ≠ 1) (h2 : Cd X d → Sf X n (2, d)) : Says X ⟨n, 0, 6, d⟩ := ⟨no (a := 6) (by decide), no (a := 6) (by decide), no (a := 6) (by decide), fun _ => ⟨h1, h2⟩⟩
theorem Inv.sTake {X : MW} (h : Inv X) (hG : Good X) {n : Int} {m : Ms} (hn : n = 1 ∨ n = 2) (hb : Says X m) (hup : (X.lg n).down = false) : Inv (X.sTake n m).1 := by
 have hu := h.up n (N3.s hn) hup
 have hkn : ∀ (Y : MW) (r : Rc), (Y.wr n r).kn = Y.kn := fun Y r => setLg_kn Y n _
 have pick : Sf X 1 (2, m.d) ∧ Sf X 2 (2, m.d) → Sf X n (2, m.d) := fun hp => by
  rcases hn with rfl | rfl
  ·exact hp.1
  ·exact hp.2
 unfold MW.sTake MW.sAsk
 dsimp only
 split
 ·split
  ·next e =>
   have hw : Inv (X.wr n (1, m.d)) := h.wrS hG hn (no (a := 1) (by decide)) (no (a := 1) (by decide))
   split
   ·split
    ·next hok => exact hw.sends (saysYes (wrSf hG hn hok))
    ·exact hw
   ·exact h.sends saysNo
  ·split
   ·next e => exact h.sends (saysYes (h.yesOk hn hup e))
   ·exact h.sends saysNo
 ·split
  ·next k4 =>
   have hd := hb.2.1 k4
   have hst : (X.kn m.d).st ≠ 1 := fun e => hG.asg _ e hd.cd
   split
   ·have hw : Inv (X.wr n (2, m.d)) := h.wrS hG hn (fun _ => hd) (no (a := 2) (by decide))
    split
    ·next hok => exact hw.sends (saysAck (by rw [hkn]; exact hst) (fun _ => wrSf hG hn hok))
    ·exact hw
   ·split
    ·next e => exact h.sends (saysAck hst (fun _ => Sf.of_mem hu (state_2 e)))
    ·exact h
  ·split
   ·next k5 =>
    have hd := hb.2.2.1 k5
    split
    ·next e =>
     have hw : Inv (X.wr n (3, m.d)) := h.wrS hG hn (no (a := 3) (by decide)) (fun _ => ⟨fun hc => (state_1 e).2.1 (pick (hd.2 hc)).mem, hd.1⟩)
     split
     ·next hok => exact hw.sends (saysAck (by rw [hkn]; exact hd.1) (fun hc => (pick (hd.2 ((wr_cd hn).1 hc))).wr hG hn (N3.s hn)))
     ·exact hw
    ·split
     ·exact h.sends (saysAck hd.1 (fun hc => pick (hd.2 hc)))
     ·exact h
   ·exact h
theorem Inv.bring {X : MW} (h : Inv X) (hG : Good X) {m : Ms} (hm : MsOk X m) (hb : Says X m) : Inv (X.bring m) := by
 unfold MW.bring
 split
 ·exact h
 ·next hup =>
  unfold MW.take
  by_cases e : m.t = 0
  ·rw [if_pos e, e]
   rw [e] at hup
   exact h.cTake hG hm ⟨hb.1, hb.2.2.2⟩ e (eq_false_of_ne_true hup)
  ·rw [if_neg e, fin_s e]
   exact h.sTake hG (by have := hm.1; omega) hb (by simpa using hup)
theorem Inv.cTick1 {X : MW} (h : Inv X) (hG : Good X) {d : Int} (hup : X.c.down = false) : Inv (X.cTick1 d) := by
 have hu : X.c.safe = X.c.recs.length := h.up 0 (.inl rfl) hup
 unfold MW.cTick1
 dsimp only
 split
 ·next e =>
  have hnc : ¬ Cd X d := hG.asg _ e
  split
  ·rw [know_turn]
   have hY : Inv (X.know d (Ds.s 3)) := h.know hG (fun e => absurd (show (3 : Int) = 1 from e) (by decide)) (fun e => absurd (show (3 : Int) = 2 from e) (by decide)) (fun e => absurd (show (3 : Int) = 4 from e) (by decide)) (fun _ => hnc)
   exact Inv.both hY false false (by decide) (by decide) (fun e => absurd e (by decide)) (fun _ => ⟨by show (upd X.kn d (Ds.s 3) d).st ≠ 1; rw [upd_same]; exact (by decide : (3 : Int) ≠ 1), fun hc => absurd hc hnc⟩)
  ·have hY : Inv (X.know d { X.kn d with wt := (X.kn d).wt + 1 }) := h.know hG (fun hs => ⟨hs, h.asking d hs⟩) (fun hs => h.doing d hs) (fun hs => h.over d hs) (fun hs => h.und d hs)
   exact Inv.both hY _ _ (by decide) (by decide) (fun e => absurd e (by decide)) (fun e => absurd e (by decide))
 ·split
  ·next e => exact h.both _ _ (by decide) (by decide) (fun _ => Sf.of_mem hu (h.doing d e).1) (fun e => absurd e (by decide))
  ·split
   ·next e => exact h.both _ _ (by decide) (by decide) (fun e => absurd e (by decide)) (fun _ => ⟨by omega, fun hc => absurd hc (h.und d (.inr e))⟩)
   ·exact h
theorem Inv.cTick {X : MW} (h : Inv X) (hG : Good X) (hup : X.c.down = false) : ∀ k : Nat, k ≤ X.deals.length → Inv (X.cTick k)
 | 0, _ => h
 | k + 1, hk => Inv.cTick1 (h.cTick hG hup k (by omega)) (hG.cTick k (by omega)) (by
   have := (MW.cTick_same X k).1
   have e : (X.cTick k).c = X.c := congrFun this 0
   rw [e]; exact hup)
theorem Inv.sTick {X : MW} (h : Inv X) {n : Int} (hn : n = 1 ∨ n = 2) (hup : (X.lg n).down = false) : ∀ k : Nat, Inv (X.sTick n k)
 | 0 => h
 | k + 1 => by
  have ih := h.sTick hn hup k
  have e := congrFun (MW.sTick_same X n k).1 n
  unfold MW.sTick MW.sTick1
  split
  ·next hs => exact ih.sends (saysYes (ih.yesOk hn (by rw [e]; exact hup) (.inl hs)))
  ·exact ih
theorem Inv.tick0 {X : MW} (h : Inv X) (hG : Good X) {n : Int} (hn : N3 n) : Inv (X.tick0 n) := by
 unfold MW.tick0
 split
 ·exact h
 ·next hup =>
  unfold MW.tick
  split
  ·next e => subst e; exact h.cTick hG (eq_false_of_ne_true hup) _ (Nat.le_refl _)
  ·next e => exact h.sTick (by unfold N3 at hn; omega) (by simpa using hup) _
theorem restart_keep {l : Lg} : Keep l ⟨l.recs, l.recs.length, 0, false⟩ := fun r hr => by
 show r ∈ l.recs.take l.recs.length
 rw [List.take_length]
 exact List.mem_of_mem_take hr
theorem Inv.restart {X : MW} (h : Inv X) (hG : Good X) {n : Int} (hn : N3 n) : Inv (X.restart n) := by
 have hl := hG.toGood0.log hn
 unfold MW.restart
 dsimp only
 split
 ·by_cases e : n = 0
  ·subst e
   exact h.costart hG (l := ⟨X.c.recs, X.c.recs.length, 0, false⟩) ⟨hl.rc, hl.nd, ⟨Int.le_refl _, show (0 : Int) ≤ _ by decide⟩, Nat.le_refl _⟩ restart_keep (fun _ => rfl) (fun d hd => .inl hd)
  ·rw [start_ne e]
   have hn2 : n = 1 ∨ n = 2 := by unfold N3 at hn; omega
   exact h.site hG hn2 restart_keep (fun _ => rfl) (fun d hd => h.done n d hn2 hd) (fun d hd => h.old3 hn2 hd)
 ·exact h
theorem Inv.unfuse {X : MW} (h : Inv X) (hG : Good X) {n : Int} (hn : N3 n) (v : Int) : Inv (X.unfuse n v) := by
 unfold MW.unfuse
 by_cases e : n = 0
 ·subst e
  exact h.co hG (l := { X.c with fuse := v }) (g := X.kn) (Keep.refl _) (h.up 0 (.inl rfl)) (fun d hd => .inl hd) (fun d hs => ⟨hs, h.asking d hs⟩) h.doing h.over h.und
 ·have hn2 : n = 1 ∨ n = 2 := by unfold N3 at hn; omega
  exact h.site hG (l := { X.lg n with fuse := v }) hn2 (Keep.refl _) (h.up n hn) (fun d hd => h.done n d hn2 hd) (fun d hd => h.old3 hn2 hd)
structure Step (X Y : MW) : Prop where
 keep : Keeps X Y
 ask : ∀ d, (Y.kn d).st = 1 → (X.kn d).st = 1
 cd : ∀ d, Cd Y d → Cd X d ∨ (X.kn d).st = 1
theorem Step.refl (X : MW) : Step X X := ⟨Keeps.refl X, fun _ h => h, fun _ h => .inl h⟩
theorem Step.trans {X Y Z : MW} (h1 : Step X Y) (h2 : Step Y Z) : Step X Z :=
 ⟨h1.keep.trans h2.keep, fun d h => h1.ask d (h2.ask d h), fun d h => (h2.cd d h).elim (h1.cd d) (fun h => .inr (h1.ask d h))⟩
theorem Step.sf {X Y : MW} (h : Step X Y) {n : Int} {r : Rc} (hn : N3 n) (hs : Sf X n r) : Sf Y n r := h.keep n hn r hs
theorem Says.step {X Y : MW} {m : Ms} (h : Step X Y) (hm : MsOk X m) (hs : Says X m) : Says Y m := by
 have hc : (X.kn m.d).st ≠ 1 → Cd Y m.d → Cd X m.d := fun h1 h2 => (h.cd _ h2).elim id (fun h3 => absurd h3 h1)
 exact ⟨fun e => h.sf (mf3 hm) (hs.1 e), fun e => h.sf (.inl rfl) (hs.2.1 e), fun e => ⟨fun e2 => (hs.2.2.1 e).1 (h.ask _ e2), fun c => ⟨h.sf (.inr (.inl rfl)) ((hs.2.2.1 e).2 (hc (hs.2.2.1 e).1 c)).1, h.sf (.inr (.inr rfl)) ((hs.2.2.1 e).2 (hc (hs.2.2.1 e).1 c)).2⟩⟩,
  fun e => ⟨fun e2 => (hs.2.2.2 e).1 (h.ask _ e2), fun c => h.sf (mf3 hm) ((hs.2.2.2 e).2 (hc (hs.2.2.2 e).1 c))⟩⟩
theorem Step.bag (X : MW) (b : List Ms) : Step X { X with bag := b } := ⟨fun _ _ => Keep.refl _, fun _ h => h, fun _ h => .inl h⟩
theorem Step.send (X : MW) (m : Ms) : Step X (X.send m) := Step.bag X _
theorem Step.know {X : MW} {d : Int} {s : Ds} (h : s.st = 1 → (X.kn d).st = 1) : Step X (X.know d s) :=
 ⟨fun _ _ => Keep.refl _, fun e he => by
  have h2 : (upd X.kn d s e).st = 1 := he
  unfold upd at h2
  split at h2
  ·next q => rw [q]; exact h h2
  ·exact h2, fun _ h => .inl h⟩
theorem Step.site {X : MW} {n : Int} {l : Lg} (hn : n = 1 ∨ n = 2) (hk : Keep (X.lg n) l) : Step X (X.setLg n l) :=
 ⟨fun m hm r hr => Sf.setLg (N3.s hn) hm hk hr, fun d h => by rw [setLg_kn] at h; exact h, fun d h => .inl (by unfold Cd at h; rwa [setLg_c (by omega)] at h)⟩
theorem Step.co {X : MW} {l : Lg} {g : Int → Ds} (hk : Keep X.c l) (h1 : ∀ d, (g d).st = 1 → (X.kn d).st = 1) (h2 : ∀ d, (4, d) ∈ l.recs → Cd X d ∨ (X.kn d).st = 1) : Step X { X with c := l, kn := g } :=
 ⟨fun m hm => by
  rcases hm with rfl | rfl | rfl
  ·exact hk
  ·exact Keep.refl _
  ·exact Keep.refl _, h1, h2⟩
theorem Step.both (X : MW) (k d : Int) (h1 h2 : Bool) : Step X (X.both k d h1 h2) := by
 unfold MW.both
 dsimp only
 cases h1 <;> cases h2
 ·exact (Step.send _ _).trans (Step.send _ _)
 ·exact Step.send _ _
 ·exact Step.send _ _
 ·exact Step.refl _
theorem Step.turn {X : MW} {d st k : Int} (h : st = 1 → (X.kn d).st = 1) : Step X (X.turn d st k) := (Step.know (s := Ds.s st) h).trans (Step.both _ _ _ _ _)
theorem Step.start0 (X : MW) : Step X (X.start 0) := Step.co (l := X.c) (Keep.refl _) (fun d hd => by
 have h2 : (MW.kn0 X.c.recs d).st = 1 := hd
 have := (kn0_st X.c.recs d).2
 omega) (fun _ h => .inl h)
theorem Step.start (X : MW) (n : Int) : Step X (X.start n) := by
 by_cases e : n = 0
 ·subst e; exact Step.start0 X
 ·rw [start_ne e]; exact Step.refl X
theorem Step.wrC {X : MW} (hG : Good0 X) {d : Int} (h : (X.kn d).st = 1) : Step X (X.wr 0 (4, d)) :=
 Step.co (g := X.kn) (l := X.c.write (4, d)) (write_keep (hG.sf 0 (.inl rfl))) (fun _ h => h) (fun e he => by
  rw [write_recs] at he
  rcases List.mem_append.1 he with he | he
  ·exact .inl he
  ·have := List.mem_singleton.1 he
   injection this with _ q
   subst q
   exact .inr h)
theorem Step.wrS {X : MW} (hG : Good0 X) {n : Int} {r : Rc} (hn : n = 1 ∨ n = 2) : Step X (X.wr n r) := Step.site hn (write_keep (hG.sf n (N3.s hn)))
theorem Step.cTake {X : MW} (hG : Good X) {m : Ms} : Step X (X.cTake m).1 := by
 have hh := hear_wt (X.kn m.d) m.f
 have hk : ∀ s : Ds, s.st = (X.kn m.d).st → Step X (X.know m.d s) := fun s e => Step.know (fun h => by rw [← e]; exact h)
 unfold MW.cTake
 dsimp only
 split
 ·next g =>
  have h1 : Step X (X.know m.d ((X.kn m.d).hear m.f)) := hk _ hh.2
  have hst : ((X.know m.d ((X.kn m.d).hear m.f)).kn m.d).st = 1 := by show (upd X.kn m.d _ m.d).st = 1; rw [upd_same, hh.2]; exact g.2
  have hG1 : Good0 (X.know m.d ((X.kn m.d).hear m.f)) := hG.toGood0.know (by rw [hh.1]; exact hG.wt m.d) (by rw [hh.2]; exact hG.ks m.d)
  split
  ·split
   ·exact (h1.trans (Step.wrC hG1 hst)).trans (Step.turn (fun e => absurd e (by decide)))
   ·exact h1.trans (Step.wrC hG1 hst)
  ·exact h1
 ·split
  ·exact Step.send _ _
  ·split
   ·exact Step.send _ _
   ·split
    ·exact Step.turn (fun e => absurd e (by decide))
    ·split
     ·next g =>
      refine Step.know fun e => ?_
      split at e
      ·exact absurd (show (4 : Int) = 1 from e) (by decide)
      ·rw [hh.2] at e; exact e
     ·exact Step.refl X
theorem Step.sTake {X : MW} (hG : Good X) {n : Int} {m : Ms} (hn : n = 1 ∨ n = 2) : Step X (X.sTake n m).1 := by
 have w := fun r => Step.wrS (X := X) (n := n) (r := r) hG.toGood0 hn
 unfold MW.sTake MW.sAsk
 dsimp only
 repeat' split
 all_goals first | exact (w _).trans (Step.send _ _) | exact w _ | exact Step.send _ _ | exact Step.refl X
theorem Step.fin (n : Int) (p : MW × Bool) : Step p.1 (MW.fin n p) := by
 unfold MW.fin
 split
 ·exact Step.refl _
 ·exact Step.start _ _
theorem Step.bring {X : MW} (hG : Good X) {m : Ms} (hm : MsOk X m) : Step X (X.bring m) := by
 unfold MW.bring
 split
 ·exact Step.refl X
 ·refine Step.trans ?_ (Step.fin _ _)
  unfold MW.take
  split
  ·exact Step.cTake hG
  ·exact Step.sTake hG (by have := hm.1; omega)
theorem Step.cTick1 (X : MW) (d : Int) : Step X (X.cTick1 d) := by
 unfold MW.cTick1
 dsimp only
 split
 ·next e =>
  split
  ·rw [know_turn]; exact Step.turn (fun e => absurd e (by decide))
  ·exact (Step.know (s := { X.kn d with wt := (X.kn d).wt + 1 }) (fun h => h)).trans (Step.both _ _ _ _ _)
 ·split
  ·exact Step.both _ _ _ _ _
  ·split
   ·exact Step.both _ _ _ _ _
   ·exact Step.refl X
theorem Step.cTick (X : MW) : ∀ k, Step X (X.cTick k)
 | 0 => Step.refl X
 | k + 1 => (Step.cTick X k).trans (Step.cTick1 _ _)
theorem Step.sTick (X : MW) (n : Int) : ∀ k, Step X (X.sTick n k)
 | 0 => Step.refl X
 | k + 1 => by
  have ih := Step.sTick X n k
  unfold MW.sTick MW.sTick1
  split
  ·exact ih.trans (Step.send _ _)
  ·exact ih
theorem Step.tick0 (X : MW) (n : Int) : Step X (X.tick0 n) := by
 unfold MW.tick0 MW.tick
 split
 ·exact Step.refl X
 ·split
  ·exact Step.cTick X _
  ·exact Step.sTick X n _
theorem Step.restart {X : MW} {n : Int} (hn : N3 n) : Step X (X.restart n) := by
 unfold MW.restart
 dsimp only
 split
 ·refine Step.trans ?_ (Step.start _ _)
  by_cases e : n = 0
  ·subst e
   exact Step.co (g := X.kn) restart_keep (fun _ h => h) (fun d hd => .inl hd)
  ·exact Step.site (by unfold N3 at hn; omega) restart_keep
 ·exact Step.refl X
theorem Step.unfuse {X : MW} {n : Int} (hn : N3 n) (v : Int) : Step X (X.unfuse n v) := by
 unfold MW.unfuse
 by_cases e : n = 0
 ·subst e
  exact Step.co (l := { X.c with fuse := v }) (g := X.kn) (Keep.refl _) (fun _ h => h) (fun d hd => .inl hd)
 ·exact Step.site (l := { X.lg n with fuse := v }) (by unfold N3 at hn; omega) (Keep.refl _)
theorem Step.bringAll : ∀ (l : List Ms) (X : MW), Good X → (∀ m ∈ l, MsOk X m) → Step X (X.bringAll l)
 | [], X, _, _ => Step.refl X
 | m :: l, X, hG, hl => (Step.bring hG (hl m (List.mem_cons_self ..))).trans (Step.bringAll l (X.bring m) (hG.bring (hl m (List.mem_cons_self ..))) fun x hx => (hl x (List.mem_cons_of_mem _ hx)).cfg (cfg_bring X m).symm)
theorem Inv.bringAll : ∀ (l : List Ms) (X : MW), Inv X → Good X → (∀ m ∈ l, MsOk X m ∧ Says X m) → Inv (X.bringAll l)
 | [], _, h, _, _ => h
 | m :: l, X, h, hG, hl => by
  have hm := hl m (List.mem_cons_self ..)
  exact Inv.bringAll l (X.bring m) (h.bring hG hm.1 hm.2) (hG.bring hm.1) fun x hx => by
   have hx := hl x (List.mem_cons_of_mem _ hx)
   exact ⟨hx.1.cfg (cfg_bring X m).symm, hx.2.step (Step.bring hG hm.1) hx.1⟩
theorem Inv.round {X : MW} (h : Inv X) (hG : Good X) : Inv X.round := by
 have hG0 : Good { X with bag := [] } := hG.sub fun _ h => nomatch h
 have hB := Inv.bringAll X.bag { X with bag := [] } (h.sub fun _ h => nomatch h) hG0 fun m hm => ⟨hG.bg m hm, h.says hm⟩
 have hGB : Good (({ X with bag := [] } : MW).bringAll X.bag) := hG0.bringAll fun m hm => hG.bg m hm
 have g0 := hGB.tick0 (.inl rfl)
 have g1 := g0.tick0 (.inr (.inl rfl))
 exact ((hB.tick0 hGB (.inl rfl)).tick0 g0 (.inr (.inl rfl))).tick0 g1 (.inr (.inr rfl))
theorem Step.round {X : MW} (hG : Good X) : Step X X.round := by
 have hG0 : Good { X with bag := [] } := hG.sub fun _ h => nomatch h
 exact ((((Step.bag X []).trans (Step.bringAll X.bag _ hG0 fun m hm => hG.bg m hm)).trans (Step.tick0 _ 0)).trans (Step.tick0 _ 1)).trans (Step.tick0 _ 2)
theorem Inv.rounds {X : MW} (h : Inv X) (hG : Good X) : ∀ k, Inv (X.rounds k)
 | 0 => h
 | k + 1 => (h.rounds hG k).round (hG.rounds k)
theorem Step.rounds {X : MW} (hG : Good X) : ∀ k, Step X (X.rounds k)
 | 0 => Step.refl X
 | k + 1 => (Step.rounds hG k).trans (Step.round (hG.rounds k))
theorem Inv.wake1 {X : MW} (h : Inv X) (hG : Good X) {n : Int} (hn : N3 n) : Inv (X.wake1 n) := (h.restart hG hn).unfuse (hG.restart hn) hn 0
theorem Step.wake1 {X : MW} {n : Int} (hn : N3 n) : Step X (X.wake1 n) := (Step.restart hn).trans (Step.unfuse hn 0)
theorem Inv.wake {X : MW} (h : Inv X) (hG : Good X) : Inv X.wake := by
 have g1 := hG.wake1 (n := 0) (.inl rfl)
 have g2 := g1.wake1 (n := 1) (.inr (.inl rfl))
 exact ((h.wake1 hG (.inl rfl)).wake1 g1 (.inr (.inl rfl))).wake1 g2 (.inr (.inr rfl))
theorem Step.wake (X : MW) : Step X X.wake := ((Step.wake1 (.inl rfl)).trans (Step.wake1 (.inr (.inl rfl)))).trans (Step.wake1 (.inr (.inr rfl)))
theorem Inv.heal {X : MW} (h : Inv X) (hG : Good X) (k : Nat) : Inv (X.heal k) := (h.wake hG).rounds hG.wake k
theorem Step.heal {X : MW} (hG : Good X) (k : Nat) : Step X (X.heal k) := (Step.wake X).trans (Step.rounds hG.wake k)
end Go.Proofs.Ytfbbagnpdfafjaa
