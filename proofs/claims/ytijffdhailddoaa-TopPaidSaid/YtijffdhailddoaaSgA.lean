import Derived.Test.YtijffdhailddoaaSfR
set_option maxRecDepth 100000
namespace Go.Proofs.Ytijffdhailddoaa
open Go.RowKit Go.Proofs
theorem cd_doneP {X : MW} (h : Inv X) (hp : NoPrep X) {d : Int} (h1 : 1 ≤ d) (h2 : d ≤ X.deals.length) (hc : Cd X d) {n : Int} (hn : n = 1 ∨ n = 2) : (X.lg n).state d = 2 := by
 have hd := h.dec d hc
 have hm : (1, d) ∈ (X.lg n).recs := by
  rcases hn with rfl | rfl
  ·exact hd.1.1.mem
  ·exact hd.1.2.mem
 have h3 := hd.2 n hn
 have hnp := hp n d hn h1 h2
 unfold Lg.state at hnp ⊢
 rw [if_neg h3] at hnp ⊢
 split
 ·rfl
 ·next q => rw [if_neg q, if_pos hm] at hnp; exact absurd rfl hnp
structure EndedP (X Y : MW) : Prop where
 inv : Inv Y
 good : Good Y
 linv : LInv Y
 still : Still1 Y
 noprep : NoPrep Y
 step : Step X Y
 cfg : cfg Y = cfg X
theorem endedP {X : MW} (h : Inv X) (hG : Good X) (hl : LInv X) {k : Nat} (hk : X.pat + 3 ≤ k) : EndedP X (X.heal k) := by
 obtain ⟨j, rfl⟩ : ∃ j : Nat, k = X.pat.toNat + 3 + j := ⟨k - (X.pat.toNat + 3), by have := hG.pat; omega⟩
 have hp : X.wake.pat ≤ (X.pat.toNat : Int) := by rw [cfg_pat (cfg_wake X)]; omega
 obtain ⟨a, b⟩ := noPrep_pat (Calm.wake X) hG.wake hp j
 exact ⟨h.heal hG _, hG.heal _, hl.heal hG _, a, b, Step.heal hG _, cfg_heal X _⟩
def owes (X : MW) (i : Int) : Int := sm (fun j => if X.payer 1 (j + 1) = i then X.amount 1 (j + 1) else 0) X.deals.length
structure Pays (X : MW) : Prop where
 money : ∀ i : Int, 0 ≤ i → owes X i ≤ (X.fst 1).getD i.toNat 0
 goods : ∀ d : Int, X.amount 2 d = 0
theorem deal_cfg {X Y : MW} (h : cfg X = cfg Y) (d : Int) : X.deal d = Y.deal d := by unfold MW.deal; rw [cfg_deals h]
theorem Pays.cfg {X Y : MW} (h : Pays X) (hc : cfg X = cfg Y) : Pays Y := by
 have e : owes Y = owes X := by
  unfold owes MW.payer MW.amount
  rw [cfg_deals hc]
  funext i
  congr 1
  funext j
  rw [deal_cfg hc]
 refine ⟨fun i h0 => ?_, fun d => ?_⟩
 ·rw [e, ← cfg_fst hc]; exact h.money i h0
 ·have := h.goods d
  unfold MW.amount at *
  rw [← deal_cfg hc]; exact this
theorem can_pay {X : MW} (hG : Good X) (hL : LInv X) (hp : Pays X) {n d : Int} (hn : n = 1 ∨ n = 2) (hd : 1 ≤ d ∧ d ≤ X.deals.length) (hs : (X.lg n).state d = 0) : X.amount n d ≤ X.free n (X.payer n d) := by
 obtain ⟨e1, e2⟩ := accs_form hG (hL n hn) (srec hG hn) (X.payer n d)
 have hf : X.free n (X.payer n d) = (X.fst n).getD (X.payer n d).toNat 0 + (sm (fun j => dlt X n (X.lg n).recs (j + 1) (X.payer n d)) X.deals.length - sm (fun j => hld X n (X.lg n).recs (j + 1) (X.payer n d)) X.deals.length) := by
  unfold MW.free MW.bal MW.held
  rw [e1, e2]; omega
 rw [hf, ← sm_sub]
 have hnn := fst_nonneg hG hn (X.payer n d)
 rcases hn with rfl | rfl
 ·have hok := hG.dl d hd.1 hd.2
  have hi0 : 0 ≤ X.payer 1 d := by unfold MW.payer; rw [if_pos rfl]; have := hok.1; omega
  have hm := hp.money (X.payer 1 d) hi0
  have hst : (1, d) ∉ (X.lg 1).recs ∧ (2, d) ∉ (X.lg 1).recs ∧ (3, d) ∉ (X.lg 1).recs := by
   unfold Lg.state at hs
   split at hs
   ·omega
   ·next h3 =>
    split at hs
    ·omega
    ·next h2 =>
     split at hs
     ·omega
     ·next h1 => exact ⟨h1, h2, h3⟩
  have am : ∀ j : Int, 0 ≤ j → j < X.deals.length → 0 ≤ X.amount 1 (j + 1) := fun j h0 h1 => by
   have := hG.dl (j + 1) (by omega) (by omega)
   unfold MW.amount
   rw [if_pos rfl]
   exact this.2.2.2.1.1
  have hpos : ∀ j : Int, 0 ≤ j → j < X.deals.length → 0 ≤ dlt X 1 (X.lg 1).recs (j + 1) (X.payer 1 d) - hld X 1 (X.lg 1).recs (j + 1) (X.payer 1 d) + (if X.payer 1 (j + 1) = X.payer 1 d then X.amount 1 (j + 1) else 0) := fun j h0 h1 => by
   have ha := am j h0 h1
   unfold dlt hld
   by_cases h2 : (2, j + 1) ∈ (X.lg 1).recs
   ·have hq : ¬ ((1, j + 1) ∈ (X.lg 1).recs ∧ (2, j + 1) ∉ (X.lg 1).recs ∧ (3, j + 1) ∉ (X.lg 1).recs ∧ X.payer 1 d = X.payer 1 (j + 1)) := fun h => h.2.1 h2
    rw [if_pos h2, if_neg hq]
    by_cases q1 : X.payer 1 d = X.payee 1 (j + 1)
    ·rw [if_pos q1]
     by_cases q2 : X.payer 1 d = X.payer 1 (j + 1)
     ·rw [if_pos q2, if_pos q2.symm]; omega
     ·rw [if_neg q2, if_neg fun h => q2 h.symm]; omega
    ·rw [if_neg q1]
     by_cases q2 : X.payer 1 d = X.payer 1 (j + 1)
     ·rw [if_pos q2, if_pos q2.symm]; omega
     ·rw [if_neg q2, if_neg fun h => q2 h.symm]; omega
   ·rw [if_neg h2]
    by_cases q : (1, j + 1) ∈ (X.lg 1).recs ∧ (2, j + 1) ∉ (X.lg 1).recs ∧ (3, j + 1) ∉ (X.lg 1).recs ∧ X.payer 1 d = X.payer 1 (j + 1)
    ·rw [if_pos q, if_pos q.2.2.2.symm]; omega
    ·rw [if_neg q]
     split <;> omega
  have hsm := sm_pos hpos (d - 1) (by omega) (by omega)
  rw [sm_add] at hsm
  have hval : dlt X 1 (X.lg 1).recs (d - 1 + 1) (X.payer 1 d) - hld X 1 (X.lg 1).recs (d - 1 + 1) (X.payer 1 d) + (if X.payer 1 (d - 1 + 1) = X.payer 1 d then X.amount 1 (d - 1 + 1) else 0) = X.amount 1 d := by
   rw [Int.sub_add_cancel]
   unfold dlt hld
   rw [if_neg hst.2.1, if_neg (fun h => hst.1 h.1), if_pos rfl]
   omega
  rw [hval] at hsm
  unfold owes at hm
  omega
 ·have z : sm (fun j => dlt X 2 (X.lg 2).recs (j + 1) (X.payer 2 d) - hld X 2 (X.lg 2).recs (j + 1) (X.payer 2 d)) X.deals.length = sm (fun _ => 0) X.deals.length := sm_congr fun j _ _ => by
   have ha := hp.goods (j + 1)
   unfold dlt hld
   rw [ha]
   simp
  rw [z, sm_const 0 (by omega), hp.goods d]
  omega
theorem cTake_other (X : MW) (m : Ms) {d : Int} (hd : d ≠ m.d) : ((X.cTake m).1.kn d) = X.kn d := by
 have kn : ∀ (Y : MW) (s : Ds), (Y.know m.d s).kn d = Y.kn d := fun Y s => upd_ne _ _ hd
 have kt : ∀ (Y : MW) (st k : Int), (Y.turn m.d st k).kn d = Y.kn d := fun Y st k => by rw [(MW.turn_same _ _ _ _).2.2.2]; exact upd_ne _ _ hd
 have kw : ∀ (Y : MW) (r : Rc), (Y.wr 0 r).kn = Y.kn := fun Y r => setLg_kn Y 0 _
 unfold MW.cTake
 dsimp only
 repeat' split
 all_goals first | rfl | rw [kt, kw, kn] | rw [kw, kn] | rw [kn] | rw [kt]
theorem cTake_one {X : MW} (hc : Calm X) {m : Ms} (hk : m.k ≠ 3) {d : Int} (h1 : (X.kn d).st = 1) :
  ((d = m.d ∧ m.k = 2) ∧ (((X.cTake m).1.kn d).st = 2 ∨ ((X.cTake m).1.kn d = (X.kn d).hear m.f ∧ ¬ (((X.kn d).hear m.f).h1 = true ∧ ((X.kn d).hear m.f).h2 = true)))) ∨ (¬ (d = m.d ∧ m.k = 2) ∧ (X.cTake m).1.kn d = X.kn d) := by
 by_cases e : d = m.d
 ·subst e
  have hok : (X.know m.d ((X.kn m.d).hear m.f)).ok 0 = true := Calm.ok (hc.know _ _) (.inl rfl)
  by_cases k2 : m.k = 2
  ·left
   refine ⟨⟨rfl, k2⟩, ?_⟩
   unfold MW.cTake
   dsimp only
   rw [if_pos ⟨k2, h1⟩]
   split
   ·left
    first | rw [if_pos hok] | skip
    show (((_ : MW).turn m.d 2 4).kn m.d).st = 2
    rw [(MW.turn_same _ _ _ _).2.2.2, upd_same]
    rfl
   ·next q => exact .inr ⟨upd_same _ _ _, q⟩
  ·right
   refine ⟨fun h => k2 h.2, ?_⟩
   unfold MW.cTake
   dsimp only
   rw [if_neg (fun h => k2 h.1), if_neg (fun h => k2 h.1), if_neg k2, if_neg (fun h => hk h.1), if_neg (fun h => by have := h.2; omega)]
 ·exact .inr ⟨fun h => e h.1, cTake_other X m e⟩
end Go.Proofs.Ytijffdhailddoaa
