import Derived.Test.YtfbbagnpdfafjaaSfH
import Derived.Test.YtfbbagnpdfafjaaDtC
set_option maxRecDepth 100000
namespace Go.Proofs.Ytfbbagnpdfafjaa
open Go.RowKit Go.Proofs
theorem noRec {X : MW} (hG : Good X) {n : Int} (hn : N3 n) {k d : Int} (hd : (X.deals.length : Int) < d) : (k, d) ∉ (X.lg n).recs := fun hr => by
 have := (hG.rc n hn _ hr).1.2
 dsimp only at this
 omega
theorem Inv.begin {X : MW} (h : Inv X) (hG : Good X) (d : Dl) : Inv (X.begin d) := by
 have hD : Inv { X with deals := X.deals ++ [d] } := ⟨h.up, h.yes, h.do_, h.drop, h.ack, h.asking, h.doing, h.over, h.und, h.dec, h.done, h.drpd⟩
 have hne : ∀ m ∈ X.bag, m.d ≠ (X.deals.length : Int) + 1 := fun m hm e => by have := (hG.bg m hm).2.2; omega
 have hY : Inv ({ X with deals := X.deals ++ [d] } : MW) := hD
 have kn : ∀ e, e ≠ (X.deals.length : Int) + 1 → upd X.kn ((X.deals.length : Int) + 1) (Ds.s 1) e = X.kn e := fun e he => upd_ne _ _ he
 have hK : Inv (({ X with deals := X.deals ++ [d] } : MW).know ((X.deals.length : Int) + 1) (Ds.s 1)) := by
  refine ⟨h.up, h.yes, h.do_, fun m hm hk => ?_, fun m hm hk => ?_, fun e hs => ?_, fun e hs => ?_, fun e hs hc => ?_, fun e hs => ?_, h.dec, h.done, fun n e hn hr => ?_⟩
  ·have := h.drop m hm hk
   show (upd X.kn _ (Ds.s 1) m.d).st ≠ 1 ∧ _
   rw [kn _ (hne m hm)]; exact this
  ·have := h.ack m hm hk
   show (upd X.kn _ (Ds.s 1) m.d).st ≠ 1 ∧ _
   rw [kn _ (hne m hm)]; exact this
  ·by_cases q : e = (X.deals.length : Int) + 1
   ·show ((upd X.kn _ (Ds.s 1) e).h1 = true → _) ∧ _
    subst q
    have e1 : (({ X with deals := X.deals ++ [d] } : MW).know ((X.deals.length : Int) + 1) (Ds.s 1)).kn ((X.deals.length : Int) + 1) = Ds.s 1 := upd_same _ _ _
    rw [upd_same, e1]
    exact ⟨fun hh => Bool.noConfusion hh, fun hh => Bool.noConfusion hh⟩
   ·have e1 : (({ X with deals := X.deals ++ [d] } : MW).know ((X.deals.length : Int) + 1) (Ds.s 1)).kn e = X.kn e := kn e q
    rw [e1] at hs ⊢
    exact h.asking e hs
  ·by_cases q : e = (X.deals.length : Int) + 1
   ·subst q
    have e1 : (({ X with deals := X.deals ++ [d] } : MW).know ((X.deals.length : Int) + 1) (Ds.s 1)).kn ((X.deals.length : Int) + 1) = Ds.s 1 := upd_same _ _ _
    rw [e1] at hs
    exact absurd (show (1 : Int) = 2 from hs) (by decide)
   ·have e1 : (({ X with deals := X.deals ++ [d] } : MW).know ((X.deals.length : Int) + 1) (Ds.s 1)).kn e = X.kn e := kn e q
    rw [e1] at hs ⊢
    exact h.doing e hs
  ·by_cases q : e = (X.deals.length : Int) + 1
   ·subst q
    exact absurd hc (noRec hG (n := 0) (.inl rfl) (by omega))
   ·have e1 : (({ X with deals := X.deals ++ [d] } : MW).know ((X.deals.length : Int) + 1) (Ds.s 1)).kn e = X.kn e := kn e q
    rw [e1] at hs
    exact h.over e hs hc
  ·by_cases q : e = (X.deals.length : Int) + 1
   ·subst q
    exact noRec hG (n := 0) (.inl rfl) (by omega)
   ·have e1 : (({ X with deals := X.deals ++ [d] } : MW).know ((X.deals.length : Int) + 1) (Ds.s 1)).kn e = X.kn e := kn e q
    rw [e1] at hs
    exact h.und e hs
  ·by_cases q : e = (X.deals.length : Int) + 1
   ·subst q
    exact absurd hr (noRec hG (N3.s hn) (by omega))
   ·have e1 : (({ X with deals := X.deals ++ [d] } : MW).know ((X.deals.length : Int) + 1) (Ds.s 1)).kn e = X.kn e := kn e q
    rw [e1]
    exact h.drpd n e hn hr
 exact Inv.both hK false false (by decide) (by decide) (fun e => absurd e (by decide)) (fun e => absurd e (by decide))
theorem Inv.init (mem pat : Int) (f1 f2 : List Int) : Inv (MW.init mem pat f1 f2) := by
 have hz : ∀ n, (MW.init mem pat f1 f2).lg n = Lg.z := fun n => by unfold MW.lg; split; rfl; split <;> rfl
 have hc : ∀ d, ¬ Cd (MW.init mem pat f1 f2) d := fun d h => by cases h
 refine ⟨fun n _ _ => by rw [hz]; rfl, (fun m hm => nomatch hm), (fun m hm => nomatch hm), (fun m hm => nomatch hm), (fun m hm => nomatch hm), fun d hs => ?_, fun d hs => ?_, fun d hs => ?_, fun d _ => hc d, fun d h => absurd h (hc d), fun n d _ hr => ?_, fun n d _ hr => ?_⟩
 ·exact absurd (show (0 : Int) = 1 from hs) (by decide)
 ·exact absurd (show (0 : Int) = 2 from hs) (by decide)
 ·exact absurd (show (0 : Int) = 4 from hs) (by decide)
 ·rw [hz] at hr; exact nomatch hr
 ·rw [hz] at hr; exact nomatch hr
end Go.Proofs.Ytfbbagnpdfafjaa
set_option maxRecDepth 100000
namespace Go.Proofs.Ytfbbagnpdfafjaa
open Go.RowKit Go.Proofs
theorem sm_one {f g : Int → Int} {j : Int} {k : Int} (h0 : 0 ≤ j) (h1 : j < k) (h : ∀ i, i ≠ j → f i = g i) : sm g k = sm f k + (g j - f j) := by
 have key : ∀ n : Nat, ((n : Int) ≤ j → sm g n = sm f n) ∧ (j < n → sm g n = sm f n + (g j - f j)) := by
  intro n
  induction n with
  | zero => exact ⟨fun _ => rfl, fun hh => by omega⟩
  | succ n ih =>
   have e : ((n + 1 : Nat) : Int) = (n : Int) + 1 := by omega
   rw [e, sm_succ f (by omega), sm_succ g (by omega)]
   refine ⟨fun hh => ?_, fun hh => ?_⟩
   ·rw [ih.1 (by omega), h n (by omega)]
   ·by_cases q : (n : Int) = j
    ·rw [ih.1 (by omega), q]; omega
    ·rw [ih.2 (by omega), h n q]; omega
 have := (key k.toNat).2 (by omega)
 rwa [Int.toNat_of_nonneg (by omega)] at this
def okRec (X : MW) (n : Int) (a : List Rc) (r : Rc) : Prop :=
 (r.1 = 1 → ((1, r.2) ∉ a ∧ (2, r.2) ∉ a ∧ (3, r.2) ∉ a) ∧ X.amount n r.2 ≤ (X.accs n a).1 (X.payer n r.2) - (X.accs n a).2 (X.payer n r.2)) ∧
 (r.1 = 2 ∨ r.1 = 3 → (1, r.2) ∈ a ∧ (2, r.2) ∉ a ∧ (3, r.2) ∉ a)
inductive LOk (X : MW) (n : Int) : List Rc → Prop
 | nil : LOk X n []
 | snoc {a : List Rc} {r : Rc} : LOk X n a → okRec X n a r → LOk X n (a ++ [r])
theorem LOk.take {X : MW} {n : Int} {l : List Rc} (h : LOk X n l) (k : Nat) : LOk X n (l.take k) := by
 induction h with
 | nil => simpa using LOk.nil
 | @snoc a r h hr ih =>
  by_cases e : k ≤ a.length
  ·rw [List.take_append_of_le_length e]; exact ih
  ·rw [List.take_of_length_le (by simp; omega)]
   exact LOk.snoc h hr
theorem accs_cfg {X Y : MW} (h : cfg X = cfg Y) (n : Int) (l : List Rc) : X.accs n l = Y.accs n l := by
 have h1 : ∀ d, X.deal d = Y.deal d := fun d => by unfold MW.deal; rw [cfg_deals h]
 have h2 : X.acc1 n = Y.acc1 n := by
  funext a r
  unfold MW.acc1 MW.payer MW.payee MW.amount
  rw [h1]
 unfold MW.accs
 rw [h2, cfg_fst h]
theorem okRec.cfg {X Y : MW} (h : cfg X = cfg Y) {n : Int} {a : List Rc} {r : Rc} (hr : okRec X n a r) : okRec Y n a r := by
 have h1 : ∀ d, X.deal d = Y.deal d := fun d => by unfold MW.deal; rw [cfg_deals h]
 unfold okRec MW.amount MW.payer at *
 rw [accs_cfg h, h1] at hr
 exact hr
theorem LOk.cfg {X Y : MW} (h : cfg X = cfg Y) {n : Int} {l : List Rc} (hl : LOk X n l) : LOk Y n l := by
 induction hl with
 | nil => exact LOk.nil
 | snoc _ hr ih => exact LOk.snoc ih (hr.cfg h)
def dlt (X : MW) (n : Int) (l : List Rc) (d i : Int) : Int := if (2, d) ∈ l then (if i = X.payee n d then X.amount n d else 0) - (if i = X.payer n d then X.amount n d else 0) else 0
def hld (X : MW) (n : Int) (l : List Rc) (d i : Int) : Int := if (1, d) ∈ l ∧ (2, d) ∉ l ∧ (3, d) ∉ l ∧ i = X.payer n d then X.amount n d else 0
theorem accs_form {X : MW} {n : Int} (hG : Good X) {l : List Rc} (h : LOk X n l) (hl : ∀ r ∈ l, (1 ≤ r.2 ∧ r.2 ≤ X.deals.length) ∧ 1 ≤ r.1 ∧ r.1 ≤ 3) : ∀ i, (X.accs n l).1 i = (X.fst n).getD i.toNat 0 + sm (fun j => dlt X n l (j + 1) i) X.deals.length ∧ (X.accs n l).2 i = sm (fun j => hld X n l (j + 1) i) X.deals.length := by
 induction h with
 | nil =>
  intro i
  have z : ∀ k : Int, 0 ≤ k → sm (fun _ => (0 : Int)) k = 0 := fun k hk => by rw [sm_const 0 hk]; simp
  have e1 : (fun j : Int => dlt X n [] (j + 1) i) = fun _ => 0 := by funext j; unfold dlt; rw [if_neg (by simp)]
  have e2 : (fun j : Int => hld X n [] (j + 1) i) = fun _ => 0 := by funext j; unfold hld; rw [if_neg (by simp)]
  rw [e1, e2, z _ (by omega)]
  exact ⟨(Int.add_zero _).symm, rfl⟩
 | @snoc a r h hr ih =>
  intro i
  have ih := ih (fun x hx => hl x (List.mem_append_left _ hx)) 
  have hrr := hl r (List.mem_append_right _ (List.mem_singleton.2 rfl))
  have hpy := hG.pays (n := n) hrr.1
  obtain ⟨k, d⟩ := r
  dsimp only at hrr hpy
  rw [accs_snoc]
  have nin : ∀ {q e : Int}, (q, e) ∈ a ++ [(k, d)] ↔ (q, e) ∈ a ∨ (q = k ∧ e = d) := fun {q e} => by simp
  have e1 : sm (fun j => dlt X n (a ++ [(k, d)]) (j + 1) i) X.deals.length = sm (fun j => dlt X n a (j + 1) i) X.deals.length + (dlt X n (a ++ [(k, d)]) d i - dlt X n a d i) := by
   have := sm_one (f := fun j => dlt X n a (j + 1) i) (g := fun j => dlt X n (a ++ [(k, d)]) (j + 1) i) (j := d - 1) (k := X.deals.length) (by omega) (by omega) (fun j hj => by
    have : ¬ (j + 1 = d) := by omega
    unfold dlt
    simp only [nin, this, and_false, or_false])
   rw [this]
   simp only [Int.sub_add_cancel]
  have e2 : sm (fun j => hld X n (a ++ [(k, d)]) (j + 1) i) X.deals.length = sm (fun j => hld X n a (j + 1) i) X.deals.length + (hld X n (a ++ [(k, d)]) d i - hld X n a d i) := by
   have := sm_one (f := fun j => hld X n a (j + 1) i) (g := fun j => hld X n (a ++ [(k, d)]) (j + 1) i) (j := d - 1) (k := X.deals.length) (by omega) (by omega) (fun j hj => by
    have : ¬ (j + 1 = d) := by omega
    unfold hld
    simp only [nin, this, and_false, or_false])
   rw [this]
   simp only [Int.sub_add_cancel]
  rw [e1, e2]
  have ihi := ih i
  have hk : k = 1 ∨ k = 2 ∨ k = 3 := by omega
  have u : ∀ (g : Int → Int) (p v x : Int), upd g p v x = if x = p then v else g x := fun _ _ _ _ => rfl
  unfold okRec at hr
  dsimp only at hr
  rcases hk with rfl | rfl | rfl
  ·obtain ⟨⟨h1, h2, h3⟩, _⟩ := hr.1 rfl
   unfold MW.acc1
   dsimp only
   rw [if_pos rfl]
   have d1 : dlt X n (a ++ [(1, d)]) d i = dlt X n a d i := by unfold dlt; simp only [nin]; simp [h2]
   have d2 : hld X n (a ++ [(1, d)]) d i = if i = X.payer n d then X.amount n d else 0 := by unfold hld; simp only [nin]; simp [h2, h3]
   have d3 : hld X n a d i = 0 := by unfold hld; simp [h1]
   rw [d1, d2, d3]
   dsimp only
   rw [u]
   have ihp := ih (X.payer n d)
   split
   ·next q => subst q; omega
   ·omega
  ·obtain ⟨h1, h2, h3⟩ := hr.2 (.inl rfl)
   unfold MW.acc1
   dsimp only
   rw [if_neg (by decide), if_pos rfl]
   have d1 : dlt X n (a ++ [(2, d)]) d i = (if i = X.payee n d then X.amount n d else 0) - (if i = X.payer n d then X.amount n d else 0) := by unfold dlt; simp only [nin]; simp
   have d0 : dlt X n a d i = 0 := by unfold dlt; simp [h2]
   have d2 : hld X n (a ++ [(2, d)]) d i = 0 := by unfold hld; simp only [nin]; simp
   have d3 : hld X n a d i = if i = X.payer n d then X.amount n d else 0 := by unfold hld; simp [h1, h2, h3]
   rw [d0, d1, d2, d3]
   have hne := hpy.2.2.1
   simp only [u]
   refine ⟨?_, ?_⟩
   ·by_cases q1 : i = X.payee n d
    ·have q2 : ¬ X.payee n d = X.payer n d := fun e => hne e.symm
     subst q1
     rw [if_pos rfl, if_neg q2, if_pos rfl, if_neg q2]
     omega
    ·rw [if_neg q1, if_neg q1]
     split
     ·next q => subst q; omega
     ·omega
   ·split
    ·next q => subst q; omega
    ·omega
  ·obtain ⟨h1, h2, h3⟩ := hr.2 (.inr rfl)
   unfold MW.acc1
   dsimp only
   rw [if_neg (by decide), if_neg (by decide), if_pos rfl]
   have d1 : dlt X n (a ++ [(3, d)]) d i = dlt X n a d i := by unfold dlt; simp only [nin]; simp [h2]
   have d2 : hld X n (a ++ [(3, d)]) d i = 0 := by unfold hld; simp only [nin]; simp
   have d3 : hld X n a d i = if i = X.payer n d then X.amount n d else 0 := by unfold hld; simp [h1, h2, h3]
   rw [d1, d2, d3]
   dsimp only
   rw [u]
   split
   ·next q => subst q; omega
   ·omega
def LInv (X : MW) : Prop := ∀ n, n = 1 ∨ n = 2 → LOk X n (X.lg n).recs
theorem LInv.same {X Y : MW} (h : LInv X) (hc : cfg X = cfg Y) (hl : ∀ n, n = 1 ∨ n = 2 → (Y.lg n).recs = (X.lg n).recs) : LInv Y := fun n hn => by rw [hl n hn]; exact (h n hn).cfg hc
theorem LInv.same' {X Y : MW} (h : LInv X) (hc : cfg X = cfg Y) (hl : Y.lg = X.lg) : LInv Y := h.same hc fun n _ => by rw [hl]
theorem LInv.wr {X : MW} (h : LInv X) {n : Int} {r : Rc} (hn : n = 1 ∨ n = 2) (hr : okRec X n (X.lg n).recs r) : LInv (X.wr n r) := fun m hm => by
 refine LOk.cfg (cfg_wr X n r).symm ?_
 unfold MW.wr
 rw [lg_setLg (N3.s hn) (N3.s hm)]
 split
 ·next e => subst e; rw [write_recs]; exact LOk.snoc (h m hm) hr
 ·exact h m hm
theorem LInv.send {X : MW} (h : LInv X) (m : Ms) : LInv (X.send m) := h.same' rfl rfl
theorem LInv.sTake {X : MW} (h : LInv X) {n : Int} {m : Ms} (hn : n = 1 ∨ n = 2) : LInv (X.sTake n m).1 := by
 unfold MW.sTake MW.sAsk
 dsimp only
 split
 ·split
  ·next e =>
   split
   ·next hf =>
    have hw : LInv (X.wr n (1, m.d)) := h.wr hn ⟨fun _ => ⟨state_0 e, hf⟩, fun e => by rcases e with e | e <;> exact no (a := 1) (by decide) e⟩
    split
    ·exact hw.send _
    ·exact hw
   ·exact h.send _
  ·split <;> exact h.send _
 ·split
  ·split
   ·next e =>
    have hw : LInv (X.wr n (2, m.d)) := h.wr hn ⟨no (a := 2) (by decide), fun _ => state_1 e⟩
    split
    ·exact hw.send _
    ·exact hw
   ·split
    ·exact h.send _
    ·exact h
  ·split
   ·split
    ·next e =>
     have hw : LInv (X.wr n (3, m.d)) := h.wr hn ⟨no (a := 3) (by decide), fun _ => state_1 e⟩
     split
     ·exact hw.send _
     ·exact hw
    ·split
     ·exact h.send _
     ·exact h
   ·exact h
theorem start_site (X : MW) (k : Int) {n : Int} (hn : n = 1 ∨ n = 2) : (X.start k).lg n = X.lg n := by
 unfold MW.start
 split
 ·rcases hn with rfl | rfl <;> rfl
 ·rfl
theorem wr0_site (X : MW) (r : Rc) {n : Int} (hn : n = 1 ∨ n = 2) : (X.wr 0 r).lg n = X.lg n := by rcases hn with rfl | rfl <;> rfl
theorem cTake_site (X : MW) (m : Ms) {n : Int} (hn : n = 1 ∨ n = 2) : (X.cTake m).1.lg n = X.lg n := by
 have ht : ∀ (Y : MW) (d st k : Int), (Y.turn d st k).lg = Y.lg := fun Y d st k => (MW.turn_same Y d st k).1
 unfold MW.cTake
 dsimp only
 split
 ·split
  ·split
   ·rw [ht, wr0_site _ _ hn]; rfl
   ·rw [wr0_site _ _ hn]; rfl
  ·rfl
 ·split
  ·rfl
  ·split
   ·rfl
   ·split
    ·rw [ht]
    ·split <;> rfl
theorem LInv.bring {X : MW} (h : LInv X) {m : Ms} (hm : MsOk X m) : LInv (X.bring m) := by
 unfold MW.bring
 split
 ·exact h
 ·have hY : LInv (X.take m).1 := by
   unfold MW.take
   split
   ·exact h.same (cfg_cTake X m).symm fun n hn => by rw [cTake_site X m hn]
   ·exact h.sTake (by have := hm.1; omega)
  unfold MW.fin
  split
  ·exact hY
  ·exact hY.same (cfg_start _ _).symm fun n hn => by rw [start_site _ _ hn]
theorem LInv.tick0 {X : MW} (h : LInv X) (n : Int) : LInv (X.tick0 n) := by
 unfold MW.tick0 MW.tick
 split
 ·exact h
 ·split
  ·exact h.same' (cfg_cTick X _).symm (MW.cTick_same X _).1
  ·exact h.same' (cfg_sTick X n _).symm (MW.sTick_same X n _).1
theorem LInv.setLg {X : MW} (h : LInv X) {n : Int} {l : Lg} (hn : N3 n) (hl : n ≠ 0 → ∃ k, l.recs = (X.lg n).recs.take k) : LInv (X.setLg n l) := fun m hm => by
 refine LOk.cfg (cfg_setLg X n l).symm ?_
 rw [lg_setLg hn (N3.s hm)]
 split
 ·next e =>
  subst e
  obtain ⟨k, e⟩ := hl (by omega)
  rw [e]
  exact (h m hm).take k
 ·exact h m hm
theorem LInv.start {X : MW} (h : LInv X) (n : Int) : LInv (X.start n) := h.same (cfg_start X n).symm fun m hm => by rw [start_site X n hm]
theorem LInv.restart {X : MW} (h : LInv X) {n : Int} (hn : N3 n) : LInv (X.restart n) := by
 unfold MW.restart
 dsimp only
 split
 ·exact (h.setLg hn fun _ => ⟨(X.lg n).recs.length, by simp⟩).start n
 ·exact h
theorem LInv.unfuse {X : MW} (h : LInv X) {n : Int} (hn : N3 n) (v : Int) : LInv (X.unfuse n v) := h.setLg hn fun _ => ⟨(X.lg n).recs.length, by simp⟩
theorem LInv.bag {X : MW} (h : LInv X) (b : List Ms) : LInv { X with bag := b } := h.same' rfl rfl
theorem LInv.bringAll : ∀ (l : List Ms) (X : MW), LInv X → (∀ m ∈ l, MsOk X m) → LInv (X.bringAll l)
 | [], _, h, _ => h
 | m :: l, X, h, hl => LInv.bringAll l (X.bring m) (h.bring (hl m (List.mem_cons_self ..))) fun x hx => (hl x (List.mem_cons_of_mem _ hx)).cfg (cfg_bring X m).symm
theorem LInv.round {X : MW} (h : LInv X) (hG : Good X) : LInv X.round := (((LInv.bringAll X.bag _ (h.bag []) fun m hm => hG.bg m hm).tick0 0).tick0 1).tick0 2
theorem LInv.rounds {X : MW} (h : LInv X) (hG : Good X) : ∀ k, LInv (X.rounds k)
 | 0 => h
 | k + 1 => (h.rounds hG k).round (hG.rounds k)
theorem LInv.wake1 {X : MW} (h : LInv X) {n : Int} (hn : N3 n) : LInv (X.wake1 n) := (h.restart hn).unfuse hn 0
theorem LInv.wake {X : MW} (h : LInv X) : LInv X.wake := ((h.wake1 (.inl rfl)).wake1 (.inr (.inl rfl))).wake1 (.inr (.inr rfl))
theorem LInv.heal {X : MW} (h : LInv X) (hG : Good X) (k : Nat) : LInv (X.heal k) := h.wake.rounds hG.wake k
theorem deal_app {X : MW} {x : Dl} {d : Int} (hd : 1 ≤ d ∧ d ≤ X.deals.length) : ({ X with deals := X.deals ++ [x] } : MW).deal d = X.deal d := by
 unfold MW.deal
 show (X.deals ++ [x]).getD _ _ = _
 rw [List.getD_eq_getElem?_getD, List.getD_eq_getElem?_getD, List.getElem?_append_left (by omega)]
theorem accs_app {X : MW} {x : Dl} {n : Int} : ∀ {l : List Rc}, (∀ r ∈ l, 1 ≤ r.2 ∧ r.2 ≤ X.deals.length) → ({ X with deals := X.deals ++ [x] } : MW).accs n l = X.accs n l := by
 intro l hl
 unfold MW.accs
 have key : ∀ (l : List Rc) (a : (Int → Int) × (Int → Int)), (∀ r ∈ l, 1 ≤ r.2 ∧ r.2 ≤ X.deals.length) → l.foldl (({ X with deals := X.deals ++ [x] } : MW).acc1 n) a = l.foldl (X.acc1 n) a := by
  intro l
  induction l with
  | nil => intro a _; rfl
  | cons r l ih =>
   intro a hl
   rw [List.foldl_cons, List.foldl_cons]
   have e : ({ X with deals := X.deals ++ [x] } : MW).acc1 n a r = X.acc1 n a r := by
    have := deal_app (X := X) (x := x) (hl r (List.mem_cons_self ..))
    unfold MW.acc1 MW.payer MW.payee MW.amount
    rw [this]
   rw [e]
   exact ih _ fun q hq => hl q (List.mem_cons_of_mem _ hq)
 exact key l _ hl
theorem LInv.begin {X : MW} (h : LInv X) (hG : Good X) (x : Dl) : LInv (X.begin x) := by
 have hD : LInv { X with deals := X.deals ++ [x] } := fun n hn => by
  have hr : ∀ r ∈ (X.lg n).recs, 1 ≤ r.2 ∧ r.2 ≤ X.deals.length := fun r hr => (hG.rc n (N3.s hn) r hr).1
  have key : ∀ l, LOk X n l → (∀ r ∈ l, 1 ≤ r.2 ∧ r.2 ≤ X.deals.length) → LOk { X with deals := X.deals ++ [x] } n l := by
   intro l hl
   induction hl with
   | nil => intro _; exact LOk.nil
   | @snoc a r _ ho ih =>
    intro hl
    have ha : ∀ r ∈ a, 1 ≤ r.2 ∧ r.2 ≤ X.deals.length := fun q hq => hl q (List.mem_append_left _ hq)
    have hd := deal_app (X := X) (x := x) (hl r (List.mem_append_right _ (List.mem_singleton.2 rfl)))
    refine LOk.snoc (ih ha) ?_
    unfold okRec MW.amount MW.payer at *
    rw [accs_app ha, hd]
    exact ho
  exact key _ (h n hn) hr
 exact hD.same' (cfg_turn _ _ _ _).symm (MW.turn_same _ _ _ _).1
theorem LInv.init (mem pat : Int) (f1 f2 : List Int) : LInv (MW.init mem pat f1 f2) := fun n _ => by
 have hz : (MW.init mem pat f1 f2).lg n = Lg.z := by unfold MW.lg; split; rfl; split <;> rfl
 rw [hz]; exact LOk.nil
theorem srec {X : MW} (hG : Good X) {n : Int} (hn : n = 1 ∨ n = 2) : ∀ r ∈ (X.lg n).recs, (1 ≤ r.2 ∧ r.2 ≤ X.deals.length) ∧ 1 ≤ r.1 ∧ r.1 ≤ 3 := fun r hr => by
 have := hG.rc n (N3.s hn) r hr
 exact ⟨this.1, by omega⟩
theorem fst_nonneg {X : MW} (hG : Good X) {n : Int} (hn : n = 1 ∨ n = 2) (i : Int) : 0 ≤ (X.fst n).getD i.toNat 0 := by
 rw [List.getD_eq_getElem?_getD]
 cases e : (X.fst n)[i.toNat]? with
 | none => simp
 | some x => exact (hG.fv n hn x (List.mem_of_getElem? e)).1
end Go.Proofs.Ytfbbagnpdfafjaa
