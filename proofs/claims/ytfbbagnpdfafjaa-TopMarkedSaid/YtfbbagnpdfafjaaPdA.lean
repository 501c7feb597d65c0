import Derived.Test.YtfbbagnpdfafjaaSgD
import Derived.Test.YtfbbagnpdfafjaaSet1
import Derived.Test.YtfbbagnpdfafjaaSet2
import Derived.Test.YtfbbagnpdfafjaaNetT
set_option maxRecDepth 100000
namespace Go.Proofs.Ytfbbagnpdfafjaa
open Go.RowKit Go.Proofs
theorem knOut_bringAll : ∀ (l : List Ms) (X : MW), Good X → (∀ m ∈ l, MsOk X m) → ∀ d : Int, ((X.bringAll l).kn d).st = 1 → (X.kn d).st = 1 := fun l X hG hl d hd => (Step.bringAll l X hG hl).ask d hd
structure Well (X : MW) : Prop where
 yes : Yes X
 fresh : Fresh X 0
 way : Way X []
 out : ∀ d : Int, ¬ (1 ≤ d ∧ d ≤ X.deals.length) → (X.kn d).st ≠ 1
theorem Well.init {mem pat : Int} {f1 f2 : List Int} (hG : Good (MW.init mem pat f1 f2)) (hf : ∀ x ∈ f1, 0 ≤ x) : Well (MW.init mem pat f1 f2) := by
 have hz : ∀ n, (MW.init mem pat f1 f2).lg n = Lg.z := fun n => by unfold MW.lg; split; rfl; split <;> rfl
 have hk : ∀ d : Int, ¬ ((MW.init mem pat f1 f2).kn d).st = 1 := fun d h => absurd (show (0 : Int) = 1 from h) (by decide)
 refine ⟨⟨fun n _ => by rw [hz]; exact ⟨rfl, rfl⟩, hG, Inv.init _ _ _ _, LInv.init _ _ _ _, ⟨fun i h0 => ?_, fun d => ?_⟩, fun d h1 h2 => ?_, (fun m hm => nomatch hm), fun n d _ h => ?_, fun d hd => absurd hd (hk d)⟩, fun d hd => absurd hd (hk d), fun d n _ _ hd => absurd hd (hk d), fun d _ => hk d⟩
 ·exact fst_nonneg hG (.inl rfl) i
 ·unfold MW.amount MW.deal
  rw [if_neg (by decide)]
  rfl
 ·have : d ≤ (0 : Int) := h2
  omega
 ·rw [hz] at h; exact nomatch h
theorem Well.deliver {X : MW} (h : Well X) {i : Nat} (hi : i < X.bag.length) : Well (X.deliver i) ∧ cfg (X.deliver i) = cfg X := by
 obtain ⟨hy, hf, hw, ho⟩ := h
 have hmem : X.bag.getD i Ms.z ∈ X.bag := getD_bag (i := (i : Int)) ⟨by omega, by omega⟩
 have hD : Yes (X.dropAt i) := hy.sub fun _ => dropAt_mem
 have hm := hy.good.bg _ hmem
 have hs := hy.inv.says hmem
 have hk := hy.no _ hmem
 have hsplit : ∀ x ∈ X.bag, x = X.bag.getD i Ms.z ∨ x ∈ (X.dropAt i).bag := fun x hx => by
  have e : X.bag = X.bag.take i ++ X.bag.getD i Ms.z :: X.bag.drop (i + 1) := by
   rw [List.getD_eq_getElem?_getD, List.getElem?_eq_getElem hi]
   simp
  rw [e] at hx
  rcases List.mem_append.1 hx with q | q
  ·exact .inr (List.mem_append_left _ q)
  ·rcases List.mem_cons.1 q with q | q
   ·exact .inl q
   ·exact .inr (List.mem_append_right _ q)
 have hW : Way (X.dropAt i) [X.bag.getD i Ms.z] := fun d n h1 h2 hd hn => by
  rcases hw d n h1 h2 hd hn with q | q | q | q | q
  ·exact .inl q
  ·exact nomatch q
  ·rcases hsplit _ q with q | q
   ·exact .inr (.inl (by rw [q]; exact List.mem_singleton.2 rfl))
   ·exact .inr (.inr (.inl q))
  ·exact nomatch q
  ·rcases hsplit _ q with q | q
   ·exact .inr (.inr (.inr (.inl (by rw [q]; exact List.mem_singleton.2 rfl))))
   ·exact .inr (.inr (.inr (.inr q)))
 have hcf : cfg (X.deliver i) = cfg X := by unfold MW.deliver; rw [cfg_bring]; rfl
 refine ⟨⟨(hD.bring hm hs hk).1, Fresh.bring hD hm hs hk hf, hW.bring hD hm hs hk, fun d hd e => ?_⟩, hcf⟩
 rw [cfg_deals hcf] at hd
 exact ho d hd ((Step.bring hD.good hm).ask d e)
theorem Well.begin {X : MW} (h : Well X) {x : Dl} (hok : x.Ok X) (hlt : X.deals.length < 1000) (hp : Pays (X.begin x)) : Well (X.begin x) := by
 obtain ⟨hy, hf, hw, ho⟩ := h
 have hts := MW.turn_same ({ X with deals := X.deals ++ [x] } : MW) ((X.deals.length : Int) + 1) 1 1
 have hlg : (X.begin x).lg = X.lg := hts.1
 have hdl : (X.begin x).deals = X.deals ++ [x] := hts.2.1
 have hkn : (X.begin x).kn = upd X.kn ((X.deals.length : Int) + 1) (Ds.s 1) := hts.2.2.2
 have hbag : (X.begin x).bag = X.bag ++ [⟨0, 1, 1, (X.deals.length : Int) + 1⟩, ⟨0, 2, 1, (X.deals.length : Int) + 1⟩] := by
  show (X.bag ++ [_]) ++ [_] = _
  rw [List.append_assoc]; rfl
 have hlen : ((X.begin x).deals.length : Int) = (X.deals.length : Int) + 1 := by rw [hdl]; simp
 have hlg' : ∀ n, (X.begin x).lg n = X.lg n := fun n => by rw [hlg]
 have hcd : ∀ d, Cd X d → Cd (X.begin x) d := fun d hd => by
  show (4, d) ∈ ((X.begin x).lg 0).recs
  rw [hlg']; exact hd
 have kn_old : ∀ d : Int, d ≠ (X.deals.length : Int) + 1 → (X.begin x).kn d = X.kn d := fun d hd => by rw [hkn]; exact upd_ne _ _ hd
 have kn_new : (X.begin x).kn ((X.deals.length : Int) + 1) = Ds.s 1 := by rw [hkn]; exact upd_same _ _ _
 refine ⟨⟨fun n hn => by rw [hlg']; exact hy.calm n hn, hy.good.begin hok hlt, hy.inv.begin hy.good x, hy.linv.begin hy.good x, hp, fun d h1 h2 => ?_, fun m hm => ?_, fun n d hn => by rw [hlg']; exact hy.r3 n d hn, fun d hd => ?_⟩, fun d hd => ?_, fun d n h1 h2 hd hn => ?_, fun d hd => ?_⟩
 ·rw [hlen] at h2
  by_cases e : d = (X.deals.length : Int) + 1
  ·left; rw [e, kn_new]; rfl
  ·rw [kn_old d e]
   rcases hy.nd d h1 (by omega) with q | q
   ·exact .inl q
   ·exact .inr (hcd d q)
 ·rw [hbag] at hm
  rcases List.mem_append.1 hm with q | q
  ·exact hy.no m q
  ·simp only [List.mem_cons, List.not_mem_nil, or_false] at q
   rcases q with rfl | rfl
   ·show (1 : Int) ≠ 3; decide
   ·show (1 : Int) ≠ 3; decide
 ·by_cases e : d = (X.deals.length : Int) + 1
  ·rw [e, kn_new]; exact fun q => Bool.noConfusion q.1
  ·rw [kn_old d e] at hd ⊢; exact hy.ab d hd
 ·by_cases e : d = (X.deals.length : Int) + 1
  ·rw [e, kn_new]; exact Int.le_refl _
  ·rw [kn_old d e] at hd ⊢; exact hf d hd
 ·rw [hlen] at h2
  by_cases e : d = (X.deals.length : Int) + 1
  ·right; right; right; right
   rw [hbag, e]
   rcases hn with rfl | rfl
   ·exact List.mem_append_right _ (List.mem_cons_self ..)
   ·exact List.mem_append_right _ (List.mem_cons_of_mem _ (List.mem_cons_self ..))
  ·rw [kn_old d e] at hd ⊢
   rw [hbag]
   rcases hw d n h1 (by omega) hd hn with q | q | q | q | q
   ·exact .inl q
   ·exact nomatch q
   ·exact .inr (.inr (.inl (List.mem_append_left _ q)))
   ·exact nomatch q
   ·exact .inr (.inr (.inr (.inr (List.mem_append_left _ q))))
 ·rw [hlen] at hd
  rw [kn_old d (by omega)]
  exact ho d (by omega)
theorem Well.two {X : MW} (h : Well X) (hpat : 2 ≤ X.pat) : Yes X.round.round ∧ NoAsk X.round.round := by
 obtain ⟨hy, hf, hw, ho⟩ := h
 obtain ⟨_, _, _, _, hF⟩ := yes_all X.bag { X with bag := [] } hy.empty hy.sound
 have hR : Yes X.round := hy.round fun d hd => by have := hF 0 hf d hd; omega
 have hn := (hw.round hy).noAsk hR
 have hs1 : ∀ d : Int, ¬ (1 ≤ d ∧ d ≤ X.round.deals.length) → (X.round.kn d).st ≠ 1 := fun d hd e => by
  rw [cfg_deals (cfg_round X)] at hd
  exact ho d hd ((Step.round hy.good).ask d e)
 have hY1 : ∀ d : Int, ((({ X.round with bag := [] } : MW).bringAll X.round.bag).kn d).st ≠ 1 := fun d e => by
  by_cases hd : 1 ≤ d ∧ d ≤ X.round.deals.length
  ·exact hn d hd.1 (by rw [cfg_deals (cfg_bringAll _ _)]; exact hd.2) e
  ·exact hs1 d hd (knOut_bringAll _ _ hR.empty.good (fun m hm => hR.good.bg m hm) d e)
 refine ⟨hR.round fun d hd => absurd hd (hY1 d), fun d h1 h2 e => ?_⟩
 rw [cfg_deals (cfg_round _)] at h2
 obtain ⟨Y, rfl, _, e2, _⟩ := round_of hR.calm hR.good
 rw [e2 d h1 h2] at e
 exact hY1 d (tk_one e).1
theorem Yes.rounds {X : MW} (h : Yes X) (hn : ∀ d : Int, (X.kn d).st ≠ 1) : ∀ k : Nat, Yes (X.rounds k) ∧ ∀ d : Int, ((X.rounds k).kn d).st ≠ 1
 | 0 => ⟨h, hn⟩
 | k + 1 => by
  obtain ⟨h1, h2⟩ := h.rounds hn k
  have hY : ∀ d : Int, ((({ X.rounds k with bag := [] } : MW).bringAll (X.rounds k).bag).kn d).st ≠ 1 := fun d e => h2 d (knOut_bringAll _ _ h1.empty.good (fun m hm => h1.good.bg m hm) d e)
  exact ⟨h1.round fun d hd => absurd hd (hY d), fun d e => h2 d ((Step.round h1.good).ask d e)⟩
theorem Well.heal {X : MW} (h : Well X) (hpat : 2 ≤ X.pat) {k : Nat} (hk : X.pat + 3 ≤ k) : (∀ i : Int, (X.heal k).bal 1 i = (X.fst 1).getD i.toNat 0 + sm (fun j => (if i = X.payee 1 (j + 1) then X.amount 1 (j + 1) else 0) - (if i = X.payer 1 (j + 1) then X.amount 1 (j + 1) else 0)) X.deals.length) := fun i => by
 have hy := h.yes
 obtain ⟨hY2, hN2⟩ := h.two hpat
 have hall : ∀ d : Int, (X.round.round.kn d).st ≠ 1 := fun d => by
  by_cases hd : 1 ≤ d ∧ d ≤ X.deals.length
  ·exact hN2 d hd.1 (by rw [cfg_deals (cfg_round _), cfg_deals (cfg_round _)]; exact hd.2)
  ·exact fun e => h.out d hd ((Step.round hy.good).ask d ((Step.round hy.good.round).ask d e))
 obtain ⟨j, rfl⟩ : ∃ j : Nat, k = 2 + j := ⟨k - 2, by omega⟩
 have hr : X.heal (2 + j) = X.round.round.rounds j := by
  unfold MW.heal
  rw [wake_calmP hy.calm]
  have : ∀ (Y : MW) (a : Nat), Y.rounds (2 + a) = Y.round.round.rounds a := fun Y a => by
   induction a with
   | zero => rfl
   | succ a ih => show (Y.rounds (2 + a)).round = _; rw [ih]; rfl
  exact this X j
 obtain ⟨hY, hN⟩ := hY2.rounds hall j
 have hE := endedP hy.inv hy.good hy.linv hk
 rw [hr] at hE ⊢
 generalize X.round.round.rounds j = Y at *
 have hst : ∀ d : Int, 1 ≤ d → d ≤ Y.deals.length → (2, d) ∈ (Y.lg 1).recs := fun d h1 h2 => by
  rcases hY.nd d h1 h2 with q | q
  ·exact absurd q (hN d)
  ·exact state_2 (cd_doneP hY.inv hE.noprep h1 h2 q (.inl rfl))
 have hform := (accs_form hY.good (hY.linv 1 (.inl rfl)) (srec hY.good (.inl rfl)) i).1
 have hbal : Y.bal 1 i = (Y.accs 1 (Y.lg 1).recs).1 i := rfl
 rw [hbal, hform, cfg_fst hE.cfg, cfg_deals hE.cfg]
 congr 1
 refine sm_congr fun q h0 h1 => ?_
 unfold dlt
 rw [if_pos (hst (q + 1) (by omega) (by rw [cfg_deals hE.cfg]; omega))]
 unfold MW.payee MW.payer MW.amount
 rw [deal_cfg hE.cfg]
end Go.Proofs.Ytfbbagnpdfafjaa
set_option maxRecDepth 100000
namespace Go.Proofs.Ytfbbagnpdfafjaa
open Go.RowKit Go.Proofs
noncomputable def gotT (n : Nat) (p : Int → Int) (i : Int) (k : Int) : Int := sm (fun j => if getter n (stP n p j.toNat) = i then moved n (stP n p j.toNat) else 0) k
noncomputable def paidT (n : Nat) (p : Int → Int) (i : Int) (k : Int) : Int := sm (fun j => if payer n (stP n p j.toNat) = i then moved n (stP n p j.toNat) else 0) k
theorem stP_form {n : Nat} {p : Int → Int} (hs : sm p n = 0) {K : Nat} (h : Settled n p K) : ∀ k : Nat, k ≤ K → ∀ i : Int, 0 ≤ i → i < n →
  stP n p k i = p i + paidT n p i k - gotT n p i k ∧ (0 ≤ p i → paidT n p i k = 0 ∧ 0 ≤ stP n p k i) ∧ (p i ≤ 0 → gotT n p i k = 0 ∧ stP n p k i ≤ 0)
 | 0, _, i, _, _ => by
  have e1 : gotT n p i (0 : Nat) = 0 := sm_zero _
  have e2 : paidT n p i (0 : Nat) = 0 := sm_zero _
  rw [e1, e2]
  have e3 : stP n p 0 i = p i := rfl
  rw [e3]
  exact ⟨by omega, fun h => ⟨rfl, h⟩, fun h => ⟨rfl, h⟩⟩
 | k + 1, hk, i, i0, i1 => by
  obtain ⟨g1, g2, g3⟩ := stP_form hs h k (by omega) i i0 i1
  have hsm := stP_sum hs k fun j hj => h.some j (by omega)
  obtain ⟨a, b, ha, hb, e1, e2⟩ := step_ok hsm (h.some k (by omega))
  have hmv : moved n (stP n p k) = min (-(stP n p k a)) (stP n p k b) := by unfold moved; rw [e1, e2]
  have hne : a ≠ b := fun e => by have := ha.2.1; have := hb.2.1; rw [e] at *; omega
  have hst : stP n p (k + 1) i = if i = a then stP n p k a + moved n (stP n p k) else if i = b then stP n p k b - moved n (stP n p k) else stP n p k i := by
   show nxt n (stP n p k) i = _
   unfold nxt
   rw [e1, e2]
   exact tfr_at hne i
  have eg : gotT n p i ((k + 1 : Nat) : Int) = gotT n p i k + (if b = i then moved n (stP n p k) else 0) := by
   have := sm_succ (fun j => if getter n (stP n p j.toNat) = i then moved n (stP n p j.toNat) else 0) (k := (k : Int)) (by omega)
   unfold gotT
   rw [show ((k + 1 : Nat) : Int) = (k : Int) + 1 by omega, this, Int.toNat_natCast, e2]
  have ep : paidT n p i ((k + 1 : Nat) : Int) = paidT n p i k + (if a = i then moved n (stP n p k) else 0) := by
   have := sm_succ (fun j => if payer n (stP n p j.toNat) = i then moved n (stP n p j.toNat) else 0) (k := (k : Int)) (by omega)
   unfold paidT
   rw [show ((k + 1 : Nat) : Int) = (k : Int) + 1 by omega, this, Int.toNat_natCast, e1]
  have ha1 := ha.2.1
  have hb1 := hb.2.1
  rw [hst, eg, ep]
  by_cases qa : i = a
  ·subst qa
   rw [if_pos rfl, if_pos rfl, if_neg (fun e => hne e.symm)]
   refine ⟨by omega, fun hp => ?_, fun hp => ?_⟩
   ·have := (g2 hp).2; omega
   ·have := g3 hp; omega
  ·have qa' : ¬ a = i := fun e => qa e.symm
   rw [if_neg qa, if_neg qa']
   by_cases qb : i = b
   ·subst qb
    rw [if_pos rfl, if_pos rfl]
    refine ⟨by omega, fun hp => ?_, fun hp => ?_⟩
    ·have := g2 hp; omega
    ·have := (g3 hp).2; omega
   ·have qb' : ¬ b = i := fun e => qb e.symm
    rw [if_neg qb, if_neg qb']
    refine ⟨by omega, fun hp => ?_, fun hp => ?_⟩
    ·have := g2 hp; omega
    ·have := g3 hp; omega
theorem settled_paid {n : Nat} {p : Int → Int} (hs : sm p n = 0) {K : Nat} (h : Settled n p K) {i : Int} (i0 : 0 ≤ i) (i1 : i < n) : gotT n p i K - paidT n p i K = p i ∧ paidT n p i K = max 0 (-(p i)) := by
 obtain ⟨g1, g2, g3⟩ := stP_form hs h K (Nat.le_refl _) i i0 i1
 have hz : stP n p K i = 0 := all_zero (stP_sum hs K fun j hj => h.some j hj) h.none i i0 i1
 rw [hz] at g1
 by_cases hp : 0 ≤ p i
 ·have := (g2 hp).1; omega
 ·have := (g3 (by omega)).1; omega
end Go.Proofs.Ytfbbagnpdfafjaa
set_option maxRecDepth 100000
namespace Go.Proofs.Ytfbbagnpdfafjaa
open Go.RowKit Go.Proofs
noncomputable def dealT (n : Nat) (p : Int → Int) (k : Nat) : Dl := ⟨Proofs.Ytfbbagnpdfafjaa.payer n (stP n p k) + 1, Proofs.Ytfbbagnpdfafjaa.getter n (stP n p k) + 1, moved n (stP n p k), 0⟩
noncomputable def dealsT (n : Nat) (p : Int → Int) (k : Nat) : List Dl := (List.range k).map (dealT n p)
theorem dealsT_succ (n : Nat) (p : Int → Int) (k : Nat) : dealsT n p (k + 1) = dealsT n p k ++ [dealT n p k] := by unfold dealsT; rw [List.range_succ, List.map_append]; rfl
theorem dealsT_len (n : Nat) (p : Int → Int) (k : Nat) : (dealsT n p k).length = k := by simp [dealsT]
theorem deal_at {X : MW} {n : Nat} {p : Int → Int} {k : Nat} (h : X.deals = dealsT n p k) {j : Int} (j0 : 0 ≤ j) (j1 : j < k) : X.deal (j + 1) = dealT n p j.toNat := by
 unfold MW.deal
 rw [h, Int.add_sub_cancel]
 unfold dealsT
 rw [List.getD_eq_getElem?_getD, List.getElem?_map, List.getElem?_range (show j.toNat < k by omega)]
 rfl
theorem owes_T {X : MW} {n : Nat} {p : Int → Int} {k : Nat} (h : X.deals = dealsT n p k) (i : Int) : owes X i = paidT n p i k := by
 unfold owes paidT
 rw [h, dealsT_len]
 refine sm_congr fun j j0 j1 => ?_
 have e := deal_at h j0 j1
 have e1 : X.payer 1 (j + 1) = Proofs.Ytfbbagnpdfafjaa.payer n (stP n p j.toNat) := by
  unfold MW.payer
  rw [if_pos rfl, e]
  show _ + 1 - 1 = _
  omega
 have e2 : X.amount 1 (j + 1) = moved n (stP n p j.toNat) := by
  unfold MW.amount
  rw [if_pos rfl, e]
  rfl
 rw [e1, e2]
theorem goods_T {X : MW} {n : Nat} {p : Int → Int} {k : Nat} (h : X.deals = dealsT n p k) (d : Int) : X.amount 2 d = 0 := by
 unfold MW.amount MW.deal
 rw [if_neg (by decide), h]
 unfold dealsT
 rw [List.getD_eq_getElem?_getD, List.getElem?_map]
 cases (List.range k)[(d - 1).toNat]? <;> rfl
theorem paidT_le {n : Nat} {p : Int → Int} (hs : sm p n = 0) {K : Nat} (h : Settled n p K) (i : Int) : ∀ k : Nat, k ≤ K → paidT n p i k ≤ paidT n p i K := fun k hk => by
 obtain ⟨j, rfl⟩ : ∃ j, K = k + j := ⟨K - k, by omega⟩
 have step : ∀ a : Nat, a < k + j → paidT n p i a ≤ paidT n p i ((a + 1 : Nat) : Int) := fun a ha => by
  have := sm_succ (fun j => if Proofs.Ytfbbagnpdfafjaa.payer n (stP n p j.toNat) = i then moved n (stP n p j.toNat) else 0) (k := (a : Int)) (by omega)
  unfold paidT
  rw [show ((a + 1 : Nat) : Int) = (a : Int) + 1 by omega, this, Int.toNat_natCast]
  have hm := (h.amount hs ha).1
  split <;> omega
 have all : ∀ b : Nat, b ≤ j → paidT n p i k ≤ paidT n p i ((k + b : Nat) : Int) := fun b => by
  induction b with
  | zero => intro _; exact Int.le_refl _
  | succ b ih =>
   intro hb
   have := step (k + b) (by omega)
   exact Int.le_trans (ih (by omega)) this
 exact all j (Nat.le_refl _)
structure Begun (n : Nat) (p : Int → Int) (pat : Int) (f1 f2 : List Int) (k : Nat) (X : MW) : Prop where
 well : Well X
 cf : cfg X = ((n : Int), pat, dealsT n p k, f1, f2)
theorem Begun.deals {n : Nat} {p : Int → Int} {pat : Int} {f1 f2 : List Int} {k : Nat} {X : MW} (h : Begun n p pat f1 f2 k X) : X.deals = dealsT n p k := congrArg (fun c => c.2.2.1) h.cf
theorem Begun.f1 {n : Nat} {p : Int → Int} {pat : Int} {f1 f2 : List Int} {k : Nat} {X : MW} (h : Begun n p pat f1 f2 k X) : X.f1 = f1 := congrArg (fun c => c.2.2.2.1) h.cf
theorem Begun.step {n : Nat} {p : Int → Int} {pat : Int} {f1 f2 : List Int} {k K : Nat} {X : MW} (h : Begun n p pat f1 f2 k X) (hs : sm p n = 0) (hK : Settled n p K) (hk : k < K) (hKn : K ≤ 1000) (hmv : moved n (stP n p k) ≤ 1000000000000)
  (hpay : ∀ i : Int, 0 ≤ i → paidT n p i K ≤ f1.getD i.toNat 0) : (dealT n p k).Ok X ∧ Begun n p pat f1 f2 (k + 1) (X.begin (dealT n p k)) := by
 have hd := h.deals
 have hmem : X.mem = n := congrArg (fun c => c.1) h.cf
 have ham := hK.amount hs hk
 have hok : (dealT n p k).Ok X := by
  unfold Dl.Ok dealT
  dsimp only
  rw [hmem]
  omega
 have hlen : X.deals.length = k := by rw [hd, dealsT_len]
 have hts := MW.turn_same ({ X with deals := X.deals ++ [dealT n p k] } : MW) ((X.deals.length : Int) + 1) 1 1
 have hdl : (X.begin (dealT n p k)).deals = dealsT n p (k + 1) := by
  rw [dealsT_succ, ← hd]
  exact hts.2.1
 have hcf : cfg (X.begin (dealT n p k)) = ((n : Int), pat, dealsT n p (k + 1), f1, f2) := by
  have e : cfg (X.begin (dealT n p k)) = cfg ({ X with deals := X.deals ++ [dealT n p k] } : MW) := cfg_turn _ _ _ _
  rw [e, dealsT_succ, ← hd]
  have e2 := h.cf
  unfold cfg at e2 ⊢
  simp only [Prod.mk.injEq] at e2
  obtain ⟨a1, a2, a3, a4, a5⟩ := e2
  show (X.mem, X.pat, X.deals ++ [dealT n p k], X.f1, X.f2) = _
  rw [a1, a2, a4, a5]
 have hf1 : (X.begin (dealT n p k)).fst 1 = f1 := by
  show (X.begin (dealT n p k)).f1 = f1
  exact congrArg (fun c => c.2.2.2.1) hcf
 refine ⟨hok, ⟨h.well.begin hok (by omega) ⟨fun i i0 => ?_, goods_T hdl⟩, hcf⟩⟩
 rw [owes_T hdl, hf1]
 exact Int.le_trans (paidT_le hs hK i (k + 1) (by omega)) (hpay i i0)
theorem Begun.paid {n : Nat} {p : Int → Int} {pat : Int} {f1 f2 : List Int} {K : Nat} {X : MW} (h : Begun n p pat f1 f2 K X) (hs : sm p n = 0) (hK : Settled n p K) (hpat : 2 ≤ pat) {q : Nat} (hq : pat + 3 ≤ q) {i : Int} (i0 : 0 ≤ i) (i1 : i < n) : (X.heal q).bal 1 i = f1.getD i.toNat 0 + p i := by
 have hp : X.pat = pat := congrArg (fun c => c.2.1) h.cf
 have hb := h.well.heal (by rw [hp]; exact hpat) (k := q) (by rw [hp]; exact hq) i
 have hf1 : X.fst 1 = f1 := h.f1
 rw [hb, hf1, sm_sub, h.deals, dealsT_len]
 obtain ⟨g1, _⟩ := settled_paid hs hK i0 i1
 have e1 : sm (fun j => if i = X.payee 1 (j + 1) then X.amount 1 (j + 1) else 0) K = gotT n p i K := sm_congr fun j j0 j1 => by
  have e := deal_at h.deals j0 j1
  have a1 : X.payee 1 (j + 1) = Proofs.Ytfbbagnpdfafjaa.getter n (stP n p j.toNat) := by
   unfold MW.payee
   rw [if_pos rfl, e]
   show _ + 1 - 1 = _
   omega
  have a2 : X.amount 1 (j + 1) = moved n (stP n p j.toNat) := by
   unfold MW.amount
   rw [if_pos rfl, e]
   rfl
  rw [a1, a2]
  by_cases c : i = Proofs.Ytfbbagnpdfafjaa.getter n (stP n p j.toNat)
  ·rw [if_pos c, if_pos c.symm]
  ·rw [if_neg c, if_neg fun e => c e.symm]
 have e2 : sm (fun j => if i = X.payer 1 (j + 1) then X.amount 1 (j + 1) else 0) K = paidT n p i K := sm_congr fun j j0 j1 => by
  have e := deal_at h.deals j0 j1
  have a1 : X.payer 1 (j + 1) = Proofs.Ytfbbagnpdfafjaa.payer n (stP n p j.toNat) := by
   unfold MW.payer
   rw [if_pos rfl, e]
   show _ + 1 - 1 = _
   omega
  have a2 : X.amount 1 (j + 1) = moved n (stP n p j.toNat) := by
   unfold MW.amount
   rw [if_pos rfl, e]
   rfl
  rw [a1, a2]
  by_cases c : i = Proofs.Ytfbbagnpdfafjaa.payer n (stP n p j.toNat)
  ·rw [if_pos c, if_pos c.symm]
  ·rw [if_neg c, if_neg fun e => c e.symm]
 rw [e1, e2]
 omega
end Go.Proofs.Ytfbbagnpdfafjaa
