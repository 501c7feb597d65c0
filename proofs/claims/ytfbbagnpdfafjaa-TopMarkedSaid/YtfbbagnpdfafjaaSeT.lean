import Derived.Test.YtfbbagnpdfafjaaSeO
set_option maxRecDepth 100000
namespace Go.Proofs.Ytfbbagnpdfafjaa
open Go.RowKit Go.Proofs
def N3 (n : Int) : Prop := n = 0 ∨ n = 1 ∨ n = 2
theorem lg_setLg {X : MW} {n m : Int} {l : Lg} (hn : N3 n) (hm : N3 m) : (X.setLg n l).lg m = if m = n then l else X.lg m := by
 unfold MW.setLg MW.lg
 rcases hn with rfl | rfl | rfl <;> rcases hm with rfl | rfl | rfl <;> simp
theorem setLg_bag (X : MW) (n : Int) (l : Lg) : (X.setLg n l).bag = X.bag := by unfold MW.setLg; split; rfl; split <;> rfl
theorem setLg_deals (X : MW) (n : Int) (l : Lg) : (X.setLg n l).deals = X.deals := by unfold MW.setLg; split; rfl; split <;> rfl
theorem setLg_kn (X : MW) (n : Int) (l : Lg) : (X.setLg n l).kn = X.kn := by unfold MW.setLg; split; rfl; split <;> rfl
theorem setLg_mem (X : MW) (n : Int) (l : Lg) : (X.setLg n l).mem = X.mem := by unfold MW.setLg; split; rfl; split <;> rfl
theorem setLg_pat (X : MW) (n : Int) (l : Lg) : (X.setLg n l).pat = X.pat := by unfold MW.setLg; split; rfl; split <;> rfl
theorem setLg_fst (X : MW) (n : Int) (l : Lg) (m : Int) : (X.setLg n l).fst m = X.fst m := by unfold MW.setLg; split; rfl; split <;> rfl
theorem setLg_deal (X : MW) (n : Int) (l : Lg) (d : Int) : (X.setLg n l).deal d = X.deal d := by unfold MW.deal; rw [setLg_deals]
theorem lg0 (X : MW) : X.lg 0 = X.c := rfl
structure LgOk (D : Nat) (n : Int) (l : Lg) : Prop where
 rc : ∀ r ∈ l.recs, (1 ≤ r.2 ∧ r.2 ≤ D) ∧ (n = 0 ∧ r.1 = 4 ∨ n ≠ 0 ∧ 1 ≤ r.1 ∧ r.1 ≤ 3)
 nd : l.recs.Nodup
 fu : 0 ≤ l.fuse ∧ l.fuse ≤ 9223372036854775807
 sf : l.safe ≤ l.recs.length
theorem Good0.log {X : MW} (h : Good0 X) {n : Int} (hn : N3 n) : LgOk X.deals.length n (X.lg n) := ⟨h.rc n hn, h.nd n hn, h.fu n hn, h.sf n hn⟩
theorem Good0.setLg {X : MW} (h : Good0 X) {n : Int} {l : Lg} (hn : N3 n) (hl : LgOk X.deals.length n l) : Good0 (X.setLg n l) := by
 have e : ∀ m, N3 m → LgOk X.deals.length m ((X.setLg n l).lg m) := fun m hm => by
  rw [lg_setLg hn hm]
  split
  ·next e => rw [e]; exact hl
  ·exact h.log hm
 exact {
  mem := by rw [setLg_mem]; exact h.mem
  pat := by rw [setLg_pat]; exact h.pat
  fl := fun m hm => by rw [setLg_fst, setLg_mem]; exact h.fl m hm
  fv := fun m hm => by rw [setLg_fst]; exact h.fv m hm
  dn := by rw [setLg_deals]; exact h.dn
  dl := fun d h1 h2 => by rw [setLg_deals] at h2; rw [setLg_deal]; unfold Dl.Ok; rw [setLg_mem]; exact h.dl d h1 h2
  rc := fun m hm => by rw [setLg_deals]; exact (e m hm).rc
  nd := fun m hm => (e m hm).nd
  fu := fun m hm => (e m hm).fu
  sf := fun m hm => (e m hm).sf
  bg := fun m hm => by rw [setLg_bag] at hm; unfold MsOk; rw [setLg_deals]; exact h.bg m hm
  wt := fun d => by rw [setLg_kn, setLg_pat]; exact h.wt d
  ks := fun d => by rw [setLg_kn]; exact h.ks d }
theorem Good0.send {X : MW} (h : Good0 X) {m : Ms} (hm : MsOk X m) : Good0 (X.send m) :=
 { h with bg := fun x hx => (List.mem_append.1 hx).elim (h.bg x) (fun hx => by rw [List.mem_singleton.1 hx]; exact hm) }
theorem Good0.know {X : MW} (h : Good0 X) {d : Int} {s : Ds} (hw : 0 ≤ s.wt ∧ s.wt < X.pat) (hs : 0 ≤ s.st ∧ s.st ≤ 4) : Good0 (X.know d s) :=
 { h with
  wt := fun e => by
   show 0 ≤ (upd X.kn d s e).wt ∧ (upd X.kn d s e).wt < X.pat
   unfold upd; split
   ·exact hw
   ·exact h.wt e
  ks := fun e => by
   show 0 ≤ (upd X.kn d s e).st ∧ (upd X.kn d s e).st ≤ 4
   unfold upd; split
   ·exact hs
   ·exact h.ks e }
theorem Good.send {X : MW} (h : Good X) {m : Ms} (hm : MsOk X m) : Good (X.send m) := ⟨h.toGood0.send hm, h.asg⟩
theorem Good.know {X : MW} (h : Good X) {d : Int} {s : Ds} (hw : 0 ≤ s.wt ∧ s.wt < X.pat) (hs : 0 ≤ s.st ∧ s.st ≤ 4) (ha : s.st = 1 → (4, d) ∉ X.c.recs) : Good (X.know d s) :=
 ⟨h.toGood0.know hw hs, fun e => by
  show (upd X.kn d s e).st = 1 → _
  unfold upd; split
  ·next e1 => rw [e1]; exact ha
  ·exact h.asg e⟩
theorem Good0.wrOk {X : MW} (h : Good0 X) {n : Int} {r : Rc} (hn : N3 n) (hr : (1 ≤ r.2 ∧ r.2 ≤ X.deals.length) ∧ (n = 0 ∧ r.1 = 4 ∨ n ≠ 0 ∧ 1 ≤ r.1 ∧ r.1 ≤ 3)) (hx : r ∉ (X.lg n).recs) : LgOk X.deals.length n ((X.lg n).write r) := by
 have hl := h.log hn
 have h1 : ∀ x ∈ (X.lg n).recs ++ [r], (1 ≤ x.2 ∧ x.2 ≤ X.deals.length) ∧ (n = 0 ∧ x.1 = 4 ∨ n ≠ 0 ∧ 1 ≤ x.1 ∧ x.1 ≤ 3) := fun x hx => by
  rcases List.mem_append.1 hx with hx | hx
  ·exact hl.rc x hx
  ·rw [List.mem_singleton.1 hx]; exact hr
 have h2 : ((X.lg n).recs ++ [r]).Nodup := by
  refine List.nodup_append.2 ⟨hl.nd, by simp, fun a ha b hb e => ?_⟩
  rw [List.mem_singleton.1 hb] at e
  exact hx (e ▸ ha)
 have h3 := hl.fu
 have h4 := hl.sf
 unfold Lg.write
 split
 ·split
  ·exact ⟨h1, h2, by dsimp only; omega, by simp; omega⟩
  ·exact ⟨h1, h2, by dsimp only; omega, by simp⟩
 ·exact ⟨h1, h2, h3, by simp⟩
theorem Good0.wr {X : MW} (h : Good0 X) {n : Int} {r : Rc} (hn : N3 n) (hr : (1 ≤ r.2 ∧ r.2 ≤ X.deals.length) ∧ (n = 0 ∧ r.1 = 4 ∨ n ≠ 0 ∧ 1 ≤ r.1 ∧ r.1 ≤ 3)) (hx : r ∉ (X.lg n).recs) : Good0 (X.wr n r) := h.setLg hn (h.wrOk hn hr hx)
theorem setLg_c {X : MW} {n : Int} {l : Lg} (hn : n ≠ 0) : (X.setLg n l).c = X.c := by unfold MW.setLg; rw [if_neg hn]; split <;> rfl
theorem Good.wrS {X : MW} (h : Good X) {n : Int} {r : Rc} (hn : n = 1 ∨ n = 2) (hr : (1 ≤ r.2 ∧ r.2 ≤ X.deals.length) ∧ 1 ≤ r.1 ∧ r.1 ≤ 3) (hx : r ∉ (X.lg n).recs) : Good (X.wr n r) :=
 ⟨h.toGood0.wr (by unfold N3; omega) ⟨hr.1, .inr ⟨by omega, hr.2⟩⟩ hx, fun d => by
  unfold MW.wr
  rw [setLg_kn, setLg_c (by omega)]
  exact h.asg d⟩
theorem kn0_eq (d : Int) : ∀ l : List Rc, MW.kn0 l d = if ∃ r ∈ l, r.2 = d then Ds.s 2 else Ds.z := by
 intro l
 have key : ∀ (l : List Rc) (g : Int → Ds), l.foldl (fun g r => upd g r.2 (Ds.s 2)) g d = if ∃ r ∈ l, r.2 = d then Ds.s 2 else g d := by
  intro l
  induction l with
  | nil => intro g; simp
  | cons a l ih =>
   intro g
   rw [List.foldl_cons, ih]
   by_cases h : ∃ r ∈ l, r.2 = d
   ·rw [if_pos h, if_pos]
    obtain ⟨r, h1, h2⟩ := h
    exact ⟨r, List.mem_cons_of_mem _ h1, h2⟩
   ·rw [if_neg h]
    by_cases e : a.2 = d
    ·rw [if_pos ⟨a, List.mem_cons_self .., e⟩, e, upd_same]
    ·rw [if_neg, upd_ne _ _ (fun e2 => e e2.symm)]
     rintro ⟨r, h1, h2⟩
     rcases List.mem_cons.1 h1 with rfl | h1
     ·exact e h2
     ·exact h ⟨r, h1, h2⟩
 exact key l _
theorem kn0_st (l : List Rc) (d : Int) : (MW.kn0 l d).wt = 0 ∧ ((MW.kn0 l d).st = 0 ∨ (MW.kn0 l d).st = 2) := by
 rw [kn0_eq]
 split <;> exact ⟨rfl, by simp [Ds.s, Ds.z]⟩
theorem Good0.start0 {X : MW} (h : Good0 X) : Good (X.start 0) := by
 have e := kn0_st X.c.recs
 have hp := h.pat
 refine ⟨{ h with wt := fun d => ?_, ks := fun d => ?_ }, fun d hd => ?_⟩
 ·show 0 ≤ (MW.kn0 X.c.recs d).wt ∧ (MW.kn0 X.c.recs d).wt < X.pat
  rw [(e d).1]; omega
 ·show 0 ≤ (MW.kn0 X.c.recs d).st ∧ (MW.kn0 X.c.recs d).st ≤ 4
  have := (e d).2
  omega
 ·have h2 : (MW.kn0 X.c.recs d).st = 1 := hd
  have := (e d).2
  omega
theorem start_ne {X : MW} {n : Int} (hn : n ≠ 0) : X.start n = X := if_neg hn
theorem MsOk.mk0 {X : MW} {k d t : Int} (ht : t = 1 ∨ t = 2) (hd : 1 ≤ d ∧ d ≤ X.deals.length) : MsOk X ⟨0, t, k, d⟩ := ⟨.inr ⟨ht, rfl⟩, hd⟩
theorem MsOk.mkS {X : MW} {k d n : Int} (hn : n = 1 ∨ n = 2) (hd : 1 ≤ d ∧ d ≤ X.deals.length) : MsOk X ⟨n, 0, k, d⟩ := ⟨.inl ⟨rfl, hn⟩, hd⟩
theorem Good.both {X : MW} (h : Good X) {k d : Int} (h1 h2 : Bool) (hd : 1 ≤ d ∧ d ≤ X.deals.length) : Good (X.both k d h1 h2) := by
 unfold MW.both
 dsimp only
 have e : Good (if h1 then X else X.send ⟨0, 1, k, d⟩) := by
  split
  ·exact h
  ·exact h.send (.mk0 (.inl rfl) hd)
 split
 ·exact e
 ·refine e.send ?_
  split
  ·exact .mk0 (.inr rfl) hd
  ·exact .mk0 (X := X) (.inr rfl) hd
theorem Good.turn {X : MW} (h : Good X) {d st k : Int} (hd : 1 ≤ d ∧ d ≤ X.deals.length) (hs : 0 ≤ st ∧ st ≤ 4) (ha : st = 1 → (4, d) ∉ X.c.recs) : Good (X.turn d st k) :=
 Good.both (h.know (s := Ds.s st) ⟨Int.le_refl _, by have := h.pat; show 0 < X.pat; omega⟩ hs ha) false false hd
theorem hear_wt (s : Ds) (f : Int) : (s.hear f).wt = s.wt ∧ (s.hear f).st = s.st := by unfold Ds.hear; split <;> exact ⟨rfl, rfl⟩
theorem write_recs (l : Lg) (r : Rc) : (l.write r).recs = l.recs ++ [r] := by unfold Lg.write; split; split <;> rfl; rfl
theorem Good.cTake {X : MW} (h : Good X) {m : Ms} (hm : MsOk X m) (ht : m.t = 0) : Good (MW.fin 0 (X.cTake m)) := by
 obtain ⟨h1, hd⟩ := hm
 have hf : m.f = 1 ∨ m.f = 2 := by omega
 have hw := h.wt m.d
 have hk := h.ks m.d
 have hh := hear_wt (X.kn m.d) m.f
 unfold MW.cTake
 dsimp only
 split
 ·next g =>
  have hY : Good (X.know m.d ((X.kn m.d).hear m.f)) := h.know (by rw [hh.1]; exact hw) (by rw [hh.2]; exact hk) (fun _ => h.asg _ g.2)
  have hW : Good0 ((X.know m.d ((X.kn m.d).hear m.f)).wr 0 (4, m.d)) := hY.toGood0.wr (.inl rfl) ⟨hd, .inl ⟨rfl, rfl⟩⟩ (h.asg _ g.2)
  split
  ·split
   ·unfold MW.fin
    rw [if_pos rfl]
    refine Good.both ⟨hW.know (s := Ds.s 2) ⟨Int.le_refl _, by have := h.pat; rw [show ((X.know m.d ((X.kn m.d).hear m.f)).wr 0 (4, m.d)).pat = X.pat from setLg_pat _ _ _]; show 0 < X.pat; omega⟩ (by decide), fun e he => ?_⟩ false false hd
    have hne : e ≠ m.d := fun e1 => by
     subst e1
     have : (upd ((X.know m.d ((X.kn m.d).hear m.f)).wr 0 (4, m.d)).kn m.d (Ds.s 2) m.d).st = 1 := he
     rw [upd_same] at this
     exact absurd this (by decide)
    have he2 : (X.kn e).st = 1 := by
     have h5 : (upd ((X.know m.d ((X.kn m.d).hear m.f)).wr 0 (4, m.d)).kn m.d (Ds.s 2) e).st = 1 := he
     rw [upd_ne _ _ hne] at h5
     have h6 : (upd X.kn m.d ((X.kn m.d).hear m.f) e).st = 1 := h5
     rwa [upd_ne _ _ hne] at h6
    show (4, e) ∉ ((X.c).write (4, m.d)).recs
    rw [write_recs]
    intro hc
    rcases List.mem_append.1 hc with hc | hc
    ·exact h.asg e he2 hc
    ·have := List.mem_singleton.1 hc
     injection this with _ h7
     exact hne h7
   ·exact hW.start0
  ·exact hY
 ·split
  ·exact h.send (.mk0 hf hd)
  ·split
   ·exact h.send (.mk0 hf hd)
   ·split
    ·exact h.turn hd (by decide) (fun e => absurd e (by decide))
    ·split
     ·next g =>
      unfold MW.fin
      rw [if_pos rfl]
      split
      ·exact h.know (s := { (X.kn m.d).hear m.f with st := 4 }) (by show 0 ≤ ((X.kn m.d).hear m.f).wt ∧ ((X.kn m.d).hear m.f).wt < X.pat; rw [hh.1]; exact hw) (by show (0 : Int) ≤ 4 ∧ (4 : Int) ≤ 4; decide) (fun e => absurd (show (4 : Int) = 1 from e) (by decide))
      ·exact h.know (by rw [hh.1]; exact hw) (by rw [hh.2]; exact hk) (fun e => by rw [hh.2] at e; omega)
     ·exact h
theorem state_0 {l : Lg} {d : Int} (h : l.state d = 0) : (1, d) ∉ l.recs ∧ (2, d) ∉ l.recs ∧ (3, d) ∉ l.recs := by
 unfold Lg.state at h
 split at h; cases h
 split at h; cases h
 split at h; cases h
 next h3 h2 h1 => exact ⟨h1, h2, h3⟩
theorem state_1 {l : Lg} {d : Int} (h : l.state d = 1) : (1, d) ∈ l.recs ∧ (2, d) ∉ l.recs ∧ (3, d) ∉ l.recs := by
 unfold Lg.state at h
 split at h; cases h
 split at h; cases h
 split at h
 ·next h3 h2 h1 => exact ⟨h1, h2, h3⟩
 ·cases h
theorem fin_s {n : Int} (hn : n ≠ 0) (p : MW × Bool) : MW.fin n p = p.1 := by unfold MW.fin; rw [start_ne hn]; split <;> rfl
theorem Good.sTake {X : MW} (h : Good X) {n : Int} {m : Ms} (hn : n = 1 ∨ n = 2) (hd : 1 ≤ m.d ∧ m.d ≤ X.deals.length) : Good (X.sTake n m).1 := by
 have hs : ∀ k, Good (X.send ⟨n, 0, k, m.d⟩) := fun k => h.send (.mkS hn hd)
 have hw : ∀ k, 1 ≤ k ∧ k ≤ 3 → (k, m.d) ∉ (X.lg n).recs → Good (X.wr n (k, m.d)) := fun k hk hx => h.wrS hn ⟨hd, hk⟩ hx
 have hws : ∀ k j, 1 ≤ k ∧ k ≤ 3 → (k, m.d) ∉ (X.lg n).recs → Good ((X.wr n (k, m.d)).send ⟨n, 0, j, m.d⟩) := fun k j hk hx => (hw k hk hx).send (.mkS hn (by rw [show (X.wr n (k, m.d)).deals = X.deals from setLg_deals _ _ _]; exact hd))
 unfold MW.sTake MW.sAsk
 dsimp only
 split
 ·split
  ·next e =>
   have e2 := (state_0 e).1
   split
   ·split
    ·exact hws 1 2 (by decide) e2
    ·exact hw 1 (by decide) e2
   ·exact hs 3
  ·split
   ·exact hs 2
   ·exact hs 3
 ·split
  ·split
   ·next e =>
    have e2 := (state_1 e).2.1
    split
    ·exact hws 2 6 (by decide) e2
    ·exact hw 2 (by decide) e2
   ·split
    ·exact hs 6
    ·exact h
  ·split
   ·split
    ·next e =>
     have e2 := (state_1 e).2.2
     split
     ·exact hws 3 6 (by decide) e2
     ·exact hw 3 (by decide) e2
    ·split
     ·exact hs 6
     ·exact h
   ·exact h
theorem Good.take {X : MW} (h : Good X) {m : Ms} (hm : MsOk X m) : Good (MW.fin m.t (X.take m)) := by
 unfold MW.take
 by_cases e : m.t = 0
 ·rw [if_pos e, e]; exact h.cTake hm e
 ·rw [if_neg e, fin_s e]
  have h1 := hm.1
  exact h.sTake (by omega) hm.2
theorem Good.bring {X : MW} (h : Good X) {m : Ms} (hm : MsOk X m) : Good (X.bring m) := by
 unfold MW.bring
 split
 ·exact h
 ·exact h.take hm
def cfg (X : MW) : Int × Int × List Dl × List Int × List Int := (X.mem, X.pat, X.deals, X.f1, X.f2)
theorem cfg_send (X : MW) (m : Ms) : cfg (X.send m) = cfg X := rfl
theorem cfg_setLg (X : MW) (n : Int) (l : Lg) : cfg (X.setLg n l) = cfg X := by unfold MW.setLg; split; rfl; split <;> rfl
theorem cfg_wr (X : MW) (n : Int) (r : Rc) : cfg (X.wr n r) = cfg X := cfg_setLg X n _
theorem cfg_start (X : MW) (n : Int) : cfg (X.start n) = cfg X := by unfold MW.start; split <;> rfl
theorem cfg_both (X : MW) (k d : Int) (h1 h2 : Bool) : cfg (X.both k d h1 h2) = cfg X := by unfold MW.both; cases h1 <;> cases h2 <;> rfl
theorem cfg_turn (X : MW) (d st k : Int) : cfg (X.turn d st k) = cfg X := cfg_both _ _ _ _ _
theorem cfg_cTake (X : MW) (m : Ms) : cfg (X.cTake m).1 = cfg X := by
 unfold MW.cTake
 dsimp only
 split
 ·split
  ·split
   ·rw [cfg_turn, cfg_wr]; rfl
   ·rw [cfg_wr]; rfl
  ·rfl
 ·split
  ·rfl
  ·split
   ·rfl
   ·split
    ·rw [cfg_turn]
    ·split <;> rfl
theorem cfg_sTake (X : MW) (n : Int) (m : Ms) : cfg (X.sTake n m).1 = cfg X := by
 unfold MW.sTake MW.sAsk
 dsimp only
 repeat' split
 all_goals first | rfl | (rw [cfg_send, cfg_wr]) | (rw [cfg_wr])
theorem cfg_take (X : MW) (m : Ms) : cfg (X.take m).1 = cfg X := by unfold MW.take; split; exact cfg_cTake X m; exact cfg_sTake X _ m
theorem cfg_fin (n : Int) (p : MW × Bool) : cfg (MW.fin n p) = cfg p.1 := by unfold MW.fin; split; rfl; exact cfg_start _ _
theorem cfg_bring (X : MW) (m : Ms) : cfg (X.bring m) = cfg X := by unfold MW.bring; split; rfl; rw [cfg_fin, cfg_take]
theorem cfg_cTick1 (X : MW) (d : Int) : cfg (X.cTick1 d) = cfg X := by
 unfold MW.cTick1
 dsimp only
 split
 ·split
  ·rw [cfg_turn]; rfl
  ·rw [cfg_both]; rfl
 ·split
  ·exact cfg_both _ _ _ _ _
  ·split
   ·exact cfg_both _ _ _ _ _
   ·rfl
theorem cfg_cTick (X : MW) : ∀ k, cfg (X.cTick k) = cfg X
 | 0 => rfl
 | k + 1 => (cfg_cTick1 _ _).trans (cfg_cTick X k)
theorem cfg_sTick (X : MW) (n : Int) : ∀ k, cfg (X.sTick n k) = cfg X
 | 0 => rfl
 | k + 1 => by
  have := cfg_sTick X n k
  unfold MW.sTick MW.sTick1
  split
  ·exact this
  ·exact this
theorem cfg_tick (X : MW) (n : Int) : cfg (X.tick n) = cfg X := by unfold MW.tick; split; exact cfg_cTick X _; exact cfg_sTick X n _
theorem cfg_tick0 (X : MW) (n : Int) : cfg (X.tick0 n) = cfg X := by unfold MW.tick0; split; rfl; exact cfg_tick X n
theorem cfg_restart (X : MW) (n : Int) : cfg (X.restart n) = cfg X := by unfold MW.restart; dsimp only; split; rw [cfg_start]; exact cfg_setLg X n _; rfl
theorem cfg_unfuse (X : MW) (n v : Int) : cfg (X.unfuse n v) = cfg X := cfg_setLg X n _
theorem cfg_bringAll : ∀ (l : List Ms) (X : MW), cfg (X.bringAll l) = cfg X
 | [], _ => rfl
 | m :: l, X => (cfg_bringAll l _).trans (cfg_bring X m)
theorem cfg_round (X : MW) : cfg X.round = cfg X := by unfold MW.round; rw [cfg_tick0, cfg_tick0, cfg_tick0, cfg_bringAll]; rfl
theorem cfg_rounds (X : MW) : ∀ k, cfg (X.rounds k) = cfg X
 | 0 => rfl
 | k + 1 => (cfg_round _).trans (cfg_rounds X k)
theorem cfg_wake (X : MW) : cfg X.wake = cfg X := by unfold MW.wake MW.wake1; rw [cfg_unfuse, cfg_restart, cfg_unfuse, cfg_restart, cfg_unfuse, cfg_restart]
theorem cfg_heal (X : MW) (k : Nat) : cfg (X.heal k) = cfg X := (cfg_rounds _ k).trans (cfg_wake X)
theorem cfg_deals {X Y : MW} (h : cfg X = cfg Y) : X.deals = Y.deals := congrArg (fun p => p.2.2.1) h
theorem cfg_pat {X Y : MW} (h : cfg X = cfg Y) : X.pat = Y.pat := congrArg (fun p => p.2.1) h
theorem cfg_mem {X Y : MW} (h : cfg X = cfg Y) : X.mem = Y.mem := congrArg (fun p => p.1) h
theorem cfg_fst {X Y : MW} (h : cfg X = cfg Y) (n : Int) : X.fst n = Y.fst n := by
 unfold MW.fst
 rw [show X.f1 = Y.f1 from congrArg (fun p => p.2.2.2.1) h, show X.f2 = Y.f2 from congrArg (fun p => p.2.2.2.2) h]
theorem MsOk.cfg {X Y : MW} (h : cfg X = cfg Y) {m : Ms} (hm : MsOk X m) : MsOk Y m := by unfold MsOk at *; rw [← cfg_deals h]; exact hm
theorem know_know (X : MW) (d : Int) (a b : Ds) : (X.know d a).know d b = X.know d b := by
 unfold MW.know
 dsimp only
 congr 1
 funext e
 unfold upd
 split <;> rfl
theorem know_turn (X : MW) (d st k : Int) (a : Ds) : (X.know d a).turn d st k = X.turn d st k := by unfold MW.turn; rw [know_know]
theorem Good.cTick1 {X : MW} (h : Good X) {d : Int} (hd : 1 ≤ d ∧ d ≤ X.deals.length) : Good (X.cTick1 d) := by
 have hw := h.wt d
 have hk := h.ks d
 unfold MW.cTick1
 dsimp only
 split
 ·next e =>
  split
  ·rw [know_turn]; exact h.turn hd (by decide) (fun e => absurd e (by decide))
  ·next e2 => exact Good.both (h.know (s := { X.kn d with wt := (X.kn d).wt + 1 }) (by show 0 ≤ (X.kn d).wt + 1 ∧ (X.kn d).wt + 1 < X.pat; omega) hk (fun _ => h.asg d e)) _ _ hd
 ·split
  ·exact h.both _ _ hd
  ·split
   ·exact h.both _ _ hd
   ·exact h
theorem Good.cTick {X : MW} (h : Good X) : ∀ k : Nat, k ≤ X.deals.length → Good (X.cTick k)
 | 0, _ => h
 | k + 1, hk => Good.cTick1 (h.cTick k (by omega)) (by rw [cfg_deals (cfg_cTick X k)]; omega)
theorem Good.sTick {X : MW} (h : Good X) {n : Int} (hn : n = 1 ∨ n = 2) : ∀ k : Nat, k ≤ X.deals.length → Good (X.sTick n k)
 | 0, _ => h
 | k + 1, hk => by
  have ih := h.sTick hn k (by omega)
  unfold MW.sTick MW.sTick1
  split
  ·exact ih.send (.mkS hn (by rw [cfg_deals (cfg_sTick X n k)]; omega))
  ·exact ih
theorem Good.tick {X : MW} (h : Good X) {n : Int} (hn : N3 n) : Good (X.tick n) := by
 unfold MW.tick
 split
 ·exact h.cTick _ (Nat.le_refl _)
 ·next e => exact h.sTick (by unfold N3 at hn; omega) _ (Nat.le_refl _)
theorem Good.tick0 {X : MW} (h : Good X) {n : Int} (hn : N3 n) : Good (X.tick0 n) := by
 unfold MW.tick0
 split
 ·exact h
 ·exact h.tick hn
theorem Good.sub {X : MW} (h : Good X) {l : List Ms} (hl : ∀ m ∈ l, m ∈ X.bag) : Good { X with bag := l } :=
 ⟨{ h.toGood0 with bg := fun m hm => h.bg m (hl m hm) }, h.asg⟩
theorem dropAt_mem {X : MW} {i : Nat} {m : Ms} (h : m ∈ (X.dropAt i).bag) : m ∈ X.bag := (List.mem_append.1 h).elim List.mem_of_mem_take List.mem_of_mem_drop
theorem Good.restart {X : MW} (h : Good X) {n : Int} (hn : N3 n) : Good (X.restart n) := by
 have hl := h.toGood0.log hn
 unfold MW.restart
 dsimp only
 split
 ·have hY : Good0 (X.setLg n ⟨(X.lg n).recs, (X.lg n).recs.length, 0, false⟩) := h.toGood0.setLg hn ⟨hl.rc, hl.nd, ⟨Int.le_refl _, show (0 : Int) ≤ _ by decide⟩, Nat.le_refl _⟩
  by_cases e : n = 0
  ·subst e; exact hY.start0
  ·rw [start_ne e]
   refine ⟨hY, fun d => ?_⟩
   rw [setLg_kn, setLg_c e]
   exact h.asg d
 ·exact h
theorem Good.unfuse {X : MW} (h : Good X) {n : Int} (hn : N3 n) {v : Int} (hv : 0 ≤ v ∧ v ≤ 9223372036854775807) : Good (X.unfuse n v) := by
 have hl := h.toGood0.log hn
 refine ⟨h.toGood0.setLg hn ⟨hl.rc, hl.nd, hv, hl.sf⟩, fun d => ?_⟩
 unfold MW.unfuse
 rw [setLg_kn]
 by_cases e : n = 0
 ·subst e; exact h.asg d
 ·rw [setLg_c e]; exact h.asg d
theorem Good.bringAll' : ∀ (l : List Ms) (X : MW), Good X → (∀ m ∈ l, MsOk X m) → Good (X.bringAll l)
 | [], _, h, _ => h
 | m :: l, X, h, hl => Good.bringAll' l (X.bring m) (h.bring (hl m (List.mem_cons_self ..))) fun x hx => (hl x (List.mem_cons_of_mem _ hx)).cfg (cfg_bring X m).symm
theorem Good.bringAll {l : List Ms} {X : MW} (h : Good X) (hl : ∀ m ∈ l, MsOk X m) : Good (X.bringAll l) := Good.bringAll' l X h hl
theorem Good.round {X : MW} (h : Good X) : Good X.round :=
 (((Good.bringAll (h.sub (l := []) (fun _ h => nomatch h)) (fun m hm => h.bg m hm)).tick0 (.inl rfl)).tick0 (.inr (.inl rfl))).tick0 (.inr (.inr rfl))
theorem Good.rounds {X : MW} (h : Good X) : ∀ k, Good (X.rounds k)
 | 0 => h
 | k + 1 => (h.rounds k).round
theorem Good.wake1 {X : MW} (h : Good X) {n : Int} (hn : N3 n) : Good (X.wake1 n) := (h.restart hn).unfuse hn ⟨by decide, by decide⟩
theorem Good.wake {X : MW} (h : Good X) : Good X.wake := ((h.wake1 (.inl rfl)).wake1 (.inr (.inl rfl))).wake1 (.inr (.inr rfl))
theorem Good.heal {X : MW} (h : Good X) (k : Nat) : Good (X.heal k) := h.wake.rounds k
theorem Good.begin {X : MW} (h : Good X) {d : Dl} (hd : d.Ok X) (hn : X.deals.length < 1000) : Good (X.begin d) := by
 have hD : Good { X with deals := X.deals ++ [d] } := by
  refine ⟨{ h.toGood0 with dn := by simp; omega, dl := fun e h1 h2 => ?_, rc := fun n hn r hr => ?_, bg := fun m hm => ?_ }, h.asg⟩
  ·have h3 : e ≤ (X.deals.length : Int) + 1 := by simpa using h2
   unfold MW.deal
   by_cases e1 : e ≤ X.deals.length
   ·have := h.dl e h1 e1
    unfold MW.deal at this
    rw [List.getD_eq_getElem?_getD] at *
    rw [List.getElem?_append_left (by omega)]
    exact this
   ·obtain rfl : e = (X.deals.length : Int) + 1 := by omega
    rw [List.getD_eq_getElem?_getD, show ((X.deals.length : Int) + 1 - 1).toNat = X.deals.length by omega]
    simp only [List.getElem?_append_right (Nat.le_refl _), Nat.sub_self, List.getElem?_cons_zero, Option.getD_some]
    exact hd
  ·have := h.rc n hn r hr
   refine ⟨⟨this.1.1, ?_⟩, this.2⟩
   have h2 := this.1.2
   simp; omega
  ·have := h.bg m hm
   refine ⟨this.1, this.2.1, ?_⟩
   have h2 := this.2.2
   simp; omega
 refine hD.turn ⟨by omega, by simp⟩ (by decide) (fun _ hc => ?_)
 have := (h.rc 0 (.inl rfl) _ hc).1.2
 dsimp only at this
 omega
def asks (g : Int → Ds) : Nat → Nat
 | 0 => 0
 | k + 1 => asks g k + if (g (k + 1)).st = 1 then 1 else 0
theorem asks_congr {g h : Int → Ds} : ∀ {k : Nat}, (∀ d : Int, 1 ≤ d → d ≤ k → ((g d).st = 1 ↔ (h d).st = 1)) → asks g k = asks h k
 | 0, _ => rfl
 | k + 1, e => by
  unfold asks
  rw [asks_congr (k := k) fun d h1 h2 => e d h1 (by omega)]
  have := e ((k : Int) + 1) (by omega) (by omega)
  by_cases h1 : (g ((k : Int) + 1)).st = 1
  ·rw [if_pos h1, if_pos (this.1 h1)]
  ·rw [if_neg h1, if_neg fun h2 => h1 (this.2 h2)]
theorem asks_upd {g : Int → Ds} {d : Int} {s : Ds} : ∀ {k : Nat}, 1 ≤ d ∧ d ≤ k → asks (upd g d s) k + (if (g d).st = 1 then 1 else 0) = asks g k + if s.st = 1 then 1 else 0
 | 0, h => by omega
 | k + 1, h => by
  unfold asks
  by_cases e : d = (k : Int) + 1
  ·subst e
   rw [upd_same, asks_congr (k := k) (g := upd g ((k : Int) + 1) s) (h := g) fun d h1 h2 => by rw [upd_ne _ _ (by omega)]]
   omega
  ·have ih := asks_upd (g := g) (s := s) (d := d) (k := k) (by omega)
   rw [upd_ne _ _ (show (k : Int) + 1 ≠ d from fun e2 => e e2.symm)]
   omega
theorem asks_zero {g : Int → Ds} : ∀ {k : Nat}, (∀ d : Int, (g d).st ≠ 1) → asks g k = 0
 | 0, _ => rfl
 | k + 1, h => by
  unfold asks
  rw [asks_zero h, if_neg (h _)]
def phi (X : MW) : Nat := X.bag.length + 2 * asks X.kn X.deals.length
theorem phi_send (X : MW) (m : Ms) : phi (X.send m) = phi X + 1 := by
 unfold phi
 show (X.bag ++ [m]).length + _ = _
 rw [List.length_append]
 show X.bag.length + 1 + 2 * asks X.kn X.deals.length = _
 omega
theorem phi_know {X : MW} {d : Int} {s : Ds} (hd : 1 ≤ d ∧ d ≤ X.deals.length) : phi (X.know d s) + 2 * (if (X.kn d).st = 1 then 1 else 0) = phi X + 2 * if s.st = 1 then 1 else 0 := by
 have := asks_upd (g := X.kn) (s := s) hd
 unfold phi
 show X.bag.length + 2 * asks (upd X.kn d s) X.deals.length + _ = _
 omega
theorem phi_setLg (X : MW) (n : Int) (l : Lg) : phi (X.setLg n l) = phi X := by unfold phi; rw [setLg_bag, setLg_kn, setLg_deals]
theorem phi_wr (X : MW) (n : Int) (r : Rc) : phi (X.wr n r) = phi X := phi_setLg X n _
theorem phi_start (X : MW) (n : Int) : phi (X.start n) ≤ phi X := by
 by_cases e : n = 0
 ·subst e
  unfold phi
  show X.bag.length + 2 * asks (MW.kn0 X.c.recs) X.deals.length ≤ _
  rw [asks_zero fun d h => by have := (kn0_st X.c.recs d).2; omega]
  omega
 ·rw [start_ne e]; exact Nat.le_refl _
theorem phi_both (X : MW) (k d : Int) (h1 h2 : Bool) : phi (X.both k d h1 h2) ≤ phi X + 2 := by
 unfold MW.both
 dsimp only
 have h : phi (if h1 = true then X else X.send ⟨0, 1, k, d⟩) ≤ phi X + 1 := by
  split
  ·omega
  ·rw [phi_send]; exact Nat.le_refl _
 split
 ·omega
 ·rw [phi_send]; omega
theorem phi_turn {X : MW} {d st k : Int} (hd : 1 ≤ d ∧ d ≤ X.deals.length) (h1 : (X.kn d).st = 1) (h2 : st ≠ 1) : phi (X.turn d st k) ≤ phi X := by
 have e1 := phi_both (X.know d (Ds.s st)) k d false false
 have e2 := phi_know (X := X) (s := Ds.s st) hd
 rw [if_pos h1, if_neg (show ¬ (Ds.s st).st = 1 from h2)] at e2
 show phi ((X.know d (Ds.s st)).both k d false false) ≤ _
 omega
theorem phi_same {X : MW} {d : Int} {s : Ds} (hd : 1 ≤ d ∧ d ≤ X.deals.length) (h : s.st = 1 → (X.kn d).st = 1) : phi (X.know d s) ≤ phi X := by
 have e2 := phi_know (X := X) (s := s) hd
 by_cases e : s.st = 1
 ·rw [if_pos e, if_pos (h e)] at e2; omega
 ·rw [if_neg e] at e2; omega
theorem phi_fin (n : Int) (p : MW × Bool) : phi (MW.fin n p) ≤ phi p.1 := by
 unfold MW.fin
 split
 ·exact Nat.le_refl _
 ·exact phi_start _ _
theorem phi_cTake {X : MW} {m : Ms} (hd : 1 ≤ m.d ∧ m.d ≤ X.deals.length) : phi (X.cTake m).1 ≤ phi X + 1 := by
 have hh := hear_wt (X.kn m.d) m.f
 have hk : phi (X.know m.d ((X.kn m.d).hear m.f)) ≤ phi X := phi_same hd (by rw [hh.2]; exact id)
 unfold MW.cTake
 dsimp only
 split
 ·next g =>
  split
  ·split
   ·have h1 := phi_turn (X := (X.know m.d ((X.kn m.d).hear m.f)).wr 0 (4, m.d)) (d := m.d) (st := 2) (k := 4) hd (by unfold MW.wr; rw [setLg_kn]; show (upd X.kn m.d _ m.d).st = 1; rw [upd_same, hh.2]; exact g.2) (by decide)
    rw [phi_wr] at h1
    dsimp only
    omega
   ·dsimp only; rw [phi_wr]; omega
  ·dsimp only; omega
 ·split
  ·rw [phi_send]; exact Nat.le_refl _
  ·split
   ·rw [phi_send]; exact Nat.le_refl _
   ·split
    ·next g =>
     have := phi_turn (X := X) (st := 3) (k := 5) hd g.2 (by decide)
     dsimp only
     omega
    ·split
     ·next g =>
      refine Nat.le_trans (phi_same hd ?_) (Nat.le_succ _)
      split
      ·intro e; exact absurd (show (4 : Int) = 1 from e) (by decide)
      ·rw [hh.2]; exact id
     ·exact Nat.le_succ _
theorem phi_sTake (X : MW) (n : Int) (m : Ms) : phi (X.sTake n m).1 ≤ phi X + 1 := by
 unfold MW.sTake MW.sAsk
 dsimp only
 repeat' split
 all_goals first | (dsimp only; rw [phi_send, phi_wr]; exact Nat.le_refl _) | (dsimp only; rw [phi_wr]; exact Nat.le_succ _) | (dsimp only; rw [phi_send]; exact Nat.le_refl _) | exact Nat.le_succ _
theorem phi_take {X : MW} {m : Ms} (hd : 1 ≤ m.d ∧ m.d ≤ X.deals.length) : phi (X.take m).1 ≤ phi X + 1 := by unfold MW.take; split; exact phi_cTake hd; exact phi_sTake X _ m
theorem phi_bring {X : MW} {m : Ms} (hd : 1 ≤ m.d ∧ m.d ≤ X.deals.length) : phi (X.bring m) ≤ phi X + 1 := by
 unfold MW.bring
 split
 ·exact Nat.le_succ _
 ·exact Nat.le_trans (phi_fin _ _) (phi_take hd)
theorem phi_cTick1 {X : MW} {d : Int} (hd : 1 ≤ d ∧ d ≤ X.deals.length) : phi (X.cTick1 d) ≤ phi X + 2 := by
 unfold MW.cTick1
 dsimp only
 split
 ·next e =>
  split
  ·rw [know_turn]
   have := phi_turn (X := X) (st := 3) (k := 5) hd e (by decide)
   omega
  ·exact Nat.le_trans (phi_both _ _ _ _ _) (Nat.add_le_add_right (phi_same hd fun _ => e) 2)
 ·split
  ·exact phi_both _ _ _ _ _
  ·split
   ·exact phi_both _ _ _ _ _
   ·exact Nat.le_add_right _ _
theorem phi_cTick (X : MW) : ∀ k : Nat, k ≤ X.deals.length → phi (X.cTick k) ≤ phi X + 2 * k
 | 0, _ => Nat.le_refl _
 | k + 1, hk => by
  have h1 := phi_cTick X k (by omega)
  have h2 := phi_cTick1 (X := X.cTick k) (d := (k : Int) + 1) (by rw [cfg_deals (cfg_cTick X k)]; omega)
  show phi ((X.cTick k).cTick1 (k + 1)) ≤ _
  omega
theorem phi_sTick (X : MW) (n : Int) : ∀ k : Nat, phi (X.sTick n k) ≤ phi X + k
 | 0 => Nat.le_refl _
 | k + 1 => by
  have h1 := phi_sTick X n k
  unfold MW.sTick MW.sTick1
  split
  ·rw [phi_send]; omega
  ·omega
theorem phi_tick0 (X : MW) (n : Int) : phi (X.tick0 n) ≤ phi X + 2 * X.deals.length := by
 unfold MW.tick0 MW.tick
 split
 ·omega
 ·split
  ·exact phi_cTick X _ (Nat.le_refl _)
  ·have := phi_sTick X n X.deals.length
   omega
theorem phi_bringAll : ∀ (l : List Ms) (X : MW), (∀ m ∈ l, 1 ≤ m.d ∧ m.d ≤ X.deals.length) → phi (X.bringAll l) ≤ phi X + l.length
 | [], _, _ => Nat.le_refl _
 | m :: l, X, h => by
  have h1 := phi_bring (h m (List.mem_cons_self ..))
  have h2 := phi_bringAll l (X.bring m) fun x hx => by rw [cfg_deals (cfg_bring X m)]; exact h x (List.mem_cons_of_mem _ hx)
  show phi ((X.bring m).bringAll l) ≤ _
  rw [List.length_cons]
  omega
theorem phi_round {X : MW} (h : Good X) : phi X.round ≤ phi X + 6 * X.deals.length := by
 have h1 := phi_bringAll X.bag { X with bag := [] } fun m hm => (h.bg m hm).2
 have e1 : phi { X with bag := [] } + X.bag.length = phi X := by unfold phi; simp; omega
 have h2 := phi_tick0 (({ X with bag := [] } : MW).bringAll X.bag) 0
 have h3 := phi_tick0 ((({ X with bag := [] } : MW).bringAll X.bag).tick0 0) 1
 have h4 := phi_tick0 (((({ X with bag := [] } : MW).bringAll X.bag).tick0 0).tick0 1) 2
 rw [cfg_deals (cfg_tick0 _ _), cfg_deals (cfg_tick0 _ _)] at h4
 rw [cfg_deals (cfg_tick0 _ _)] at h3
 rw [cfg_deals (cfg_bringAll _ _)] at h2 h3 h4
 unfold MW.round
 have e2 : ({ X with bag := [] } : MW).deals.length = X.deals.length := rfl
 omega
theorem phi_rounds {X : MW} (h : Good X) : ∀ k, phi (X.rounds k) ≤ phi X + 6 * X.deals.length * k
 | 0 => Nat.le_refl _
 | k + 1 => by
  have h1 := phi_rounds h k
  have h2 := phi_round (h.rounds k)
  rw [cfg_deals (cfg_rounds X k)] at h2
  show phi (X.rounds k).round ≤ _
  rw [Nat.mul_add]
  omega
theorem phi_restart (X : MW) (n : Int) : phi (X.restart n) ≤ phi X := by
 unfold MW.restart
 dsimp only
 split
 ·exact Nat.le_trans (phi_start _ _) (Nat.le_of_eq (phi_setLg _ _ _))
 ·exact Nat.le_refl _
theorem phi_unfuse (X : MW) (n v : Int) : phi (X.unfuse n v) = phi X := phi_setLg _ _ _
theorem phi_wake1 (X : MW) (n : Int) : phi (X.wake1 n) ≤ phi X := by unfold MW.wake1; rw [phi_unfuse]; exact phi_restart X n
theorem phi_wake (X : MW) : phi X.wake ≤ phi X := Nat.le_trans (phi_wake1 _ _) (Nat.le_trans (phi_wake1 _ _) (phi_wake1 _ _))
theorem phi_begin (X : MW) (d : Dl) : phi (X.begin d) ≤ phi X + 4 := by
 have e0 : phi { X with deals := X.deals ++ [d] } ≤ phi X + 2 * (if (X.kn ((X.deals.length : Int) + 1)).st = 1 then 1 else 0) := by
  unfold phi
  show X.bag.length + 2 * asks X.kn (X.deals ++ [d]).length ≤ _
  rw [List.length_append]
  show X.bag.length + 2 * (asks X.kn X.deals.length + _) ≤ _
  omega
 have e1 := phi_both (({ X with deals := X.deals ++ [d] } : MW).know ((X.deals.length : Int) + 1) (Ds.s 1)) 1 ((X.deals.length : Int) + 1) false false
 have e2 := phi_know (X := { X with deals := X.deals ++ [d] }) (d := (X.deals.length : Int) + 1) (s := Ds.s 1) (by simp; omega)
 rw [if_pos (show (Ds.s 1).st = 1 from rfl)] at e2
 show phi ((({ X with deals := X.deals ++ [d] } : MW).know ((X.deals.length : Int) + 1) (Ds.s 1)).both 1 ((X.deals.length : Int) + 1) false false) ≤ _
 have e3 : ({ X with deals := X.deals ++ [d] } : MW).kn = X.kn := rfl
 rw [e3] at e2
 omega
end Go.Proofs.Ytfbbagnpdfafjaa
