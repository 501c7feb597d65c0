import Derived.Test.YtbcjfjldmfljgaaGreatHeld
namespace Go.Proofs.YtbcjfjldmfljgaaGreat
open Go.RowKit
section
variable {P : Program} {f N : Nat} {k : List Item} {F : Fr} {w : World} {R : Ending → World → Prop} {ops : Array Oper} {o : Oper} {S : World → Prop} {fuel L : Nat} {listed : Array Bool} {Q : Exit → Act → World → Prop}
def wpLate (P : Program) (ops : Array Oper) (Q : Exit → Act → World → Prop) (S : World → Prop) (L : Nat) : Nat → Array Bool → Act → World → Prop
 | 0, listed, a, w => Region.ready .any ops listed = [] ∧ Q .normal a w
 | fuel + 1, listed, a, w => (Region.ready .any ops listed = [] → Q .normal a w) ∧ ∀ i ∈ Region.ready .any ops listed, wpOp P ops Q i (fun a' w' => (i = L ∨ S w') ∧ wpLate P ops Q S L fuel (listed.setIfInBounds i true) a' w') a w
theorem any_of_late : ∀ (fuel : Nat) (listed : Array Bool) (a : Act) (w : World), wpLate P ops Q S L fuel listed a w → wpAny P .any ops Q fuel listed a w
 | 0, _, _, _, h => h
 | fuel + 1, _, _, _, h => ⟨h.1, fun i hi => wpOp_mono (fun a' w' h' => any_of_late fuel _ a' w' h'.2) (h.2 i hi)⟩
def waitsB (ops : Array Oper) (L i : Nat) : Bool := ((ops[L]?).map fun o => o.after.any fun e => Region.binds .any e && e.on == i).getD false
theorem waits_spec {i : Nat} (h : waitsB ops L i = true) (hr : L ∈ Region.ready .any ops listed) : listed.getD i false = true := by
 obtain ⟨_, o, ho, hall⟩ := mem_ready.1 hr
 unfold waitsB at h
 rw [ho] at h
 simp only [Option.map_some, Option.getD_some, Array.any_eq_true, Bool.and_eq_true, beq_iff_eq] at h
 obtain ⟨j, hj, h1, h2⟩ := h
 rw [← h2]
 exact hall _ (Array.getElem_mem hj) h1
theorem late_first {i : Nat} {oi : Oper} {v : Value} (hi : ops[i]? = some oi) (hsel : ∀ (j : Nat) (o : Oper) cs b, ops[j]? = some o → o.op ≠ .select cs b)
  (hQ : ∀ c a w, Q (.panic c) (a.put oi.dst v) w → Q (.panic c) a w) (hL : waitsB ops L i = true) :
  ∀ (fuel : Nat) (listed : Array Bool) (a : Act) (w : World),
   (∀ j oj, ops[j]? = some oj → j ≠ i → listed.getD j true = false → (∀ e ∈ oj.after, Region.binds .any e = true → e.on ≠ i) → oi.apart ops oj = true) →
   i ∈ Region.ready .any ops listed → YieldsIf P ops S oi v a → S w →
   wpLate P ops Q S L fuel (listed.setIfInBounds i true) (a.put oi.dst v) w → wpLate P ops Q S L (fuel + 1) listed a w := by
 intro fuel
 induction fuel with
 | zero =>
  intro listed a w _ hr hy hS H
  refine ⟨fun h => (by rw [h] at hr; cases hr), fun j hj => ?_⟩
  by_cases hji : j = i
  ·subst hji; exact hy.wpOp hi hS ⟨.inr hS, H⟩
  ·have := ready_mono hj hji
   rw [H.1] at this
   cases this
 | succ fuel ih =>
  intro listed a w hfree hr hy hS H
  refine ⟨fun h => (by rw [h] at hr; cases hr), fun j hj => ?_⟩
  by_cases hji : j = i
  ·subst hji; exact hy.wpOp hi hS ⟨.inr hS, H⟩
  ·have hout : ∀ b : Bool, listed.getD i false = true → listed.getD i true = false → False := fun _ h1 h0 => by
    rcases Nat.lt_or_ge i listed.size with h' | h'
    ·simp [h'] at h0 h1; rw [h0] at h1; cases h1
    ·simp [Array.getElem?_eq_none h'] at h1
   have h0 := (mem_ready.1 hr).1
   have hjL : j ≠ L := fun e => hout true (waits_spec hL (e ▸ hj)) h0
   have h1 := H.2 j (ready_mono hj hji)
   obtain ⟨hjun, oj, hoj, hall⟩ := mem_ready.1 hj
   have hnot : ∀ e ∈ oj.after, Region.binds .any e = true → e.on ≠ i := fun e he hb heq => by
    have h1 := hall e he hb
    rw [heq] at h1
    exact hout true h1 h0
   have h2 := wpOp_putIf hoj (hfree j oj hoj hji hjun hnot) (fun cs b => hsel i oi cs b hi) (fun cs b => hsel j oj cs b hoj) hQ hy h1
   have hfree' : ∀ k ok, ops[k]? = some ok → k ≠ i → (listed.setIfInBounds j true).getD k true = false →
     (∀ e ∈ ok.after, Region.binds .any e = true → e.on ≠ i) → oi.apart ops ok = true := fun k ok hk hki hun hno => by
    refine hfree k ok hk hki ?_ hno
    by_cases hjk : j = k
    ·subst hjk; exact hjun
    ·rw [getD_set_ne true hjk] at hun; exact hun
   refine wpOp_mono (fun a' w' h3 => ?_) h2
   have hS' : S w' := h3.2.1.resolve_left hjL
   refine ⟨.inr hS', ih (listed.setIfInBounds j true) a' w' hfree' (ready_mono hr (Ne.symm hji)) h3.1 hS' ?_⟩
   rw [Array.setIfInBounds_comm _ _ hji]
   exact h3.2.2
def RHL (P : Program) (f N : Nat) (ops : Array Oper) (S : World → Prop) (L fuel : Nat) (listed : Array Bool) (k : List Item) (F : Fr) (w : World) (R : Ending → World → Prop) : Prop :=
 ∀ a, Holds N F a → wpLate P ops (QK P f k R) S L fuel listed a w
theorem run_late {id : Nat} {l : List Oper} (S : World → Prop) (L : Nat) (hm : P.follows .mixedOrders = true) (h : RHL P f N l.toArray S L l.length (Array.replicate l.length false) k F w.drew R) : Run P f N (.code (.region id l.toArray true) :: k) F w R :=
 fun a ha => runA_of_wp (wp_region_any hm (any_of_late _ _ _ _ (by simpa using h a ha)))
theorem rhl_v {d : Nat} {v : Value} {oi : Oper} (i : Nat) (hi : ops[i]? = some oi) (hs : (Region.noSelect ops && Region.free .any ops listed i && (Region.ready .any ops listed).contains i && waitsB ops L i) = true)
  (hg : oi.guard = none) (hd : oi.dst = some d) (hN : Nat.blt d N = true) (hS : S w) (hv : ∀ w', S w' → OpV P N oi F w' v) (h : RHL P f N ops S L fuel (listed.setIfInBounds i true) k ((d, v) :: F) w R) : RHL P f N ops S L (fuel + 1) listed k F w R := by
 intro a ha
 simp only [Bool.and_eq_true] at hs
 refine late_first hi (Region.noSelect_spec hs.1.1.1) (fun _ _ _ h => qk_put h) hs.2 fuel listed a w (Region.free_spec hi hs.1.1.2) (by simpa using hs.1.2) (v := v) (.inl ⟨by simp [Region.wanted, hg], fun w' hw' => hv w' hw' a ha⟩) hS ?_
 rw [hd]
 exact h _ (ha.put (lt_of_blt hN) v)
theorem rhl_done (hr : (Region.ready .any ops listed).isEmpty = true) (h : Run P f N k F w R) : RHL P f N ops S L fuel listed k F w R := by
 intro a ha
 have hr' : Region.ready .any ops listed = [] := by simpa using hr
 cases fuel with
 | zero => exact ⟨hr', h a ha⟩
 | succ fuel => exact ⟨fun _ => h a ha, by rw [hr']; simp⟩
def RCL (P : Program) (f N : Nat) (ops : Array Oper) (S : World → Prop) (L fuel : Nat) (listed : Array Bool) (k : List Item) (i : Nat) (F : Fr) (w : World) (R : Ending → World → Prop) : Prop :=
 ∀ a, Holds N F a → wpOp P ops (QK P f k R) i (fun a' w' => (i = L ∨ S w') ∧ wpLate P ops (QK P f k R) S L fuel (listed.setIfInBounds i true) a' w') a w
theorem rcl_op {oi : Oper} {i : Nat} {Post : Fr → World → Prop} (hi : ops[i]? = some oi) (hg : oi.guard = none) (hw : OpW P N oi F w Post)
  (h : ∀ F' w', Post F' w' → S w' ∧ RHL P f N ops S L fuel (listed.setIfInBounds i true) k F' w' R) : RCL P f N ops S L fuel listed k i F w R := by
 intro a ha
 unfold wpOp
 rw [hi]
 simp only [Region.wanted, hg, if_true]
 exact .inl (hw a ha _ _ fun F' a' w' hp ha' => ⟨.inr (h F' w' hp).1, (h F' w' hp).2 a' ha'⟩)
theorem rcl_last {oi : Oper} {Post : Fr → World → Prop} (hi : ops[L]? = some oi) (hg : oi.guard = none) (hw : OpW P N oi F w Post)
  (h : ∀ F' w', Post F' w' → RHL P f N ops S L fuel (listed.setIfInBounds L true) k F' w' R) : RCL P f N ops S L fuel listed k L F w R := by
 intro a ha
 unfold wpOp
 rw [hi]
 have hwt : Region.wanted oi (yielded ops a.tmps) = true := by simp [Region.wanted, hg]
 show (if Region.wanted oi (yielded ops a.tmps) = true then _ else _)
 rw [if_pos hwt]
 exact .inl (hw a ha _ _ fun F' a' w' hp ha' => ⟨.inl rfl, h F' w' hp a' ha'⟩)
theorem late_all {rs : List Nat} {a : Act} (hr : Region.ready .any ops listed = rs) (hne : rs ≠ [])
  (h : ∀ i ∈ rs, wpOp P ops Q i (fun a' w' => (i = L ∨ S w') ∧ wpLate P ops Q S L fuel (listed.setIfInBounds i true) a' w') a w) : wpLate P ops Q S L (fuel + 1) listed a w :=
 ⟨fun h0 => absurd (hr ▸ h0) hne, hr ▸ h⟩
theorem rhl_any1 (i : Nat) (hr : Region.ready .any ops listed = [i]) (h : RCL P f N ops S L fuel listed k i F w R) : RHL P f N ops S L (fuel + 1) listed k F w R := by
 intro a ha
 refine late_all hr (by simp) fun j hj => ?_
 obtain rfl : j = i := by simpa using hj
 exact h a ha
theorem rhl_any2 (i j : Nat) (hr : Region.ready .any ops listed = [i, j]) (h1 : RCL P f N ops S L fuel listed k i F w R) (h2 : RCL P f N ops S L fuel listed k j F w R) : RHL P f N ops S L (fuel + 1) listed k F w R := by
 intro a ha
 refine late_all hr (by simp) fun q hq => ?_
 rcases List.mem_cons.1 hq with rfl | hq
 ·exact h1 a ha
 ·obtain rfl : q = j := by simpa using hq
  exact h2 a ha
end
end Go.Proofs.YtbcjfjldmfljgaaGreat
