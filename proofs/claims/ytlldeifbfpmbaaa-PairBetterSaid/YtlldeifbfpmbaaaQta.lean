import Derived.Test.YtlldeifbfpmbaaaQui
namespace Go.Proofs.Ytlldeifbfpmbaaa
open Go.RowKit
section
variable {P : Program} {ops : Array Oper} {md : Region.Mode} {C : World → Prop}
def anyHead (P : Program) (md : Region.Mode) (ops : Array Oper) (C : World → Prop) (n : Nat) (L : Array Bool → Act → Prop) : Nat → Array Bool → Act → Prop
 | 0, listed, a => L listed a
 | f + 1, listed, a => Region.ready md ops listed ≠ [] ∧ ∀ i ∈ Region.ready md ops listed, i < n ∧ qOp P ops C i (anyHead P md ops C n L f (listed.setIfInBounds i true)) a
theorem any_of_head {n g : Nat} {L : Array Bool → Act → Prop} {Q' : Exit → Act → World → Prop} (hL : ∀ listed a w, C w → L listed a → wpAny P md ops Q' g listed a w) :
  ∀ (f : Nat) (listed : Array Bool) (a : Act) (w : World), C w → anyHead P md ops C n L f listed a → wpAny P md ops Q' (f + g) listed a w
 | 0, listed, a, w, hw, h => by rw [Nat.zero_add]; exact hL _ _ _ hw h
 | f + 1, listed, a, w, hw, h => by
  have e : f + 1 + g = (f + g) + 1 := by omega
  rw [e]
  refine ⟨fun h0 => absurd h0 h.1, fun i hi => ?_⟩
  exact wpOp_of_qOp hw (fun a' w' hw' h' => any_of_head hL f _ a' w' hw' h') (h.2 i hi).2
theorem head_low {n i j : Nat} {listed : Array Bool} (hs : Region.sinkB md ops n = true) (hc : Region.chainB md ops n = true) (hn : n < ops.size) (inv : HeadInv md ops n listed) (hin : i < n) (hun : listed.getD i true = false) (hj : j ∈ Region.ready md ops listed) : j < n := by
 rcases Nat.lt_or_ge j n with h | h
 ·exact h
 ·exact absurd hj (tail_waits hs hc hn inv _ i rfl hin hun j h)
theorem head_first {n i : Nat} {oi : Oper} {v : Value} {L : Array Bool → Act → Prop} (hi : ops[i]? = some oi) (hsel : ∀ (j : Nat) (o : Oper) cs b, ops[j]? = some o → o.op ≠ .select cs b)
  (hs : Region.sinkB md ops n = true) (hc : Region.chainB md ops n = true) (hn : n < ops.size) (hin : i < n) (hdone : ∀ listed a, L listed a → ∀ j ∈ Region.ready md ops listed, n ≤ j) :
  ∀ (f : Nat) (listed : Array Bool) (a : Act), HeadInv md ops n listed →
   (∀ j oj, ops[j]? = some oj → j ≠ i → listed.getD j true = false → (∀ e ∈ oj.after, Region.binds md e = true → e.on ≠ i) → oi.apart ops oj = true) →
   i ∈ Region.ready md ops listed → YieldsIn P ops C oi v a → anyHead P md ops C n L f (listed.setIfInBounds i true) (a.put oi.dst v) → anyHead P md ops C n L (f + 1) listed a
 | 0, listed, a, inv, _, hr, hy, H => by
  have hun := (mem_ready.1 hr).1
  refine ⟨fun h => (by rw [h] at hr; cases hr), fun j hj => ⟨head_low hs hc hn inv hin hun hj, ?_⟩⟩
  by_cases hji : j = i
  ·rw [hji]; exact hy.qOp hi H
  ·have h1 := hdone _ _ H j (ready_mono hj hji)
   have h2 := head_low hs hc hn inv hin hun hj
   omega
 | f + 1, listed, a, inv, hfree, hr, hy, H => by
  have hun := (mem_ready.1 hr).1
  refine ⟨fun h => (by rw [h] at hr; cases hr), fun j hj => ?_⟩
  have hjn := head_low hs hc hn inv hin hun hj
  refine ⟨hjn, ?_⟩
  by_cases hji : j = i
  ·rw [hji]; exact hy.qOp hi H
  ·obtain ⟨hjun, oj, hoj, hall⟩ := mem_ready.1 hj
   have hnot : ∀ e ∈ oj.after, Region.binds md e = true → e.on ≠ i := fun e he hb heq => by
    have h1 := hall e he hb
    rw [heq, getD_both hun] at h1
    cases h1
   have h2 := qOp_put hoj (hfree j oj hoj hji hjun hnot) (fun cs b => hsel i oi cs b hi) (fun cs b => hsel j oj cs b hoj) hy (H.2 j (ready_mono hj hji)).2
   refine qOp_mono (fun a' h3 => ?_) h2
   refine head_first hi hsel hs hc hn hin hdone f _ a' (inv.set hj hjn) (fun k ok hk hki hu hno => hfree k ok hk hki ?_ hno) (ready_mono hr (Ne.symm hji)) h3.1 ?_
   ·by_cases hjk : j = k
    ·rw [← hjk]; exact hjun
    ·rw [getD_set_ne true hjk] at hu; exact hu
   ·rw [Array.setIfInBounds_comm _ _ hji]; exact h3.2
theorem head_lex {n g : Nat} {Lq : Act → Prop} (hsel : Region.noSelect ops = true) (hs : Region.sinkB md ops n = true) (hc : Region.chainB md ops n = true) (hn : n < ops.size) :
  ∀ (l : List Oper) (k : Nat) (listed : Array Bool) (a : Act), (∀ j, j < l.length → l[j]? = ops[k + j]?) → k + l.length = n → HeadInv md ops n listed → Region.lexHead md ops g l.length k listed = true → wpQuiet P ops C Lq l a →
  anyHead P md ops C n (fun listed' a' => Region.seqB md ops g n listed' = true ∧ Lq a') l.length listed a
 | [], k, listed, a, _, hk, _, hB, h => by
  obtain rfl : k = n := by simpa using hk
  exact ⟨by simpa [Region.lexHead] using hB, h⟩
 | o :: l, k, listed, a, hl, hk, inv, hB, h => by
  have h0 : ops[k]? = some o := by simpa using (hl 0 (by simp)).symm
  simp only [List.length_cons, Region.lexHead, Bool.and_eq_true] at hB
  simp only [List.length_cons] at hk
  have hkn : k < n := by omega
  have hr : k ∈ Region.ready md ops listed := by simpa using hB.1.1
  have hq : qOp P ops C k (wpQuiet P ops C Lq l) a := by unfold qOp; simp only [h0]; exact h
  obtain ⟨v, hy, hK⟩ := yieldsIn_of_qOp h0 hq
  refine head_first h0 (Region.noSelect_spec hsel) hs hc hn hkn (fun listed' a' hL => seqB_ready hL.1) l.length listed a inv (Region.free_spec h0 hB.1.2) hr hy ?_
  exact head_lex hsel hs hc hn l (k + 1) _ _ (fun j hj => by have := hl (j + 1) (by simp; omega); simpa [Nat.add_assoc, Nat.add_comm 1 j] using this) (by omega) (inv.set hr hkn) hB.2 hK
theorem wp_ctail {id : Nat} {Q : Exit → Act → World → Prop} {a : Act} {w : World} {l : List Oper} (n : Nat) (hm : P.follows .mixedOrders = true) (hB : Region.lexTailB .any l.toArray n = true) (h0 : C w.drew)
  (h : wpQuiet P l.toArray C (fun a' => ∀ w', C w' → wpList P l.toArray Q (l.drop n) a' w') (l.take n) a) : (Code.region id l.toArray true).wp P Q a w := by
 simp only [Region.lexTailB, Bool.and_eq_true, decide_eq_true_eq] at hB
 obtain ⟨⟨⟨⟨hsel, hn⟩, hs⟩, hc⟩, hlex⟩ := hB
 have hn' : n < l.length := by simpa using hn
 have htl : (l.take n).length = n := by simp; omega
 have hdl : (l.drop n).length = l.toArray.size - n := by simp
 have inv0 : HeadInv .any l.toArray n (Array.replicate l.toArray.size false) :=
  ⟨by simp, fun j oj _ hl => (by rw [getD_replicate_false] at hl; cases hl), fun t _ ht => getD_in (by simpa using ht) (getD_replicate_false _ _)⟩
 have H := head_lex (P := P) (C := C) (md := .any) (g := l.toArray.size - n) hsel hs hc hn (l.take n) 0 _ a (fun j hj => by
  have hj' : j < n := by rw [htl] at hj; exact hj
  simp [hj']) (by simpa using htl) inv0 (by rw [htl]; exact hlex) h
 refine wp_region_any hm ?_
 have H2 := any_of_head (Q' := Q) (g := l.toArray.size - n) (fun listed a' w' hw' hL => by
  have h5 := wpAny_of_seq (md := .any) (Q' := Q) (l.drop n) n listed a' w' (fun j => by simp [List.getElem?_drop]) (by rw [hdl]; exact hL.1) (hL.2 w' hw')
  rw [hdl] at h5
  exact h5) _ _ _ _ h0 H
 rw [htl, show n + (l.toArray.size - n) = l.toArray.size by omega] at H2
 exact H2
end
section
variable {P : Program} {f N : Nat} {k : List Item} {F : Fr} {w : World} {R : Ending → World → Prop} {ops : Array Oper} {o : Oper} {rest tail : List Oper} {C : World → Prop}
def RTK (P : Program) (f N : Nat) (ops : Array Oper) (C : World → Prop) (l tail : List Oper) (k : List Item) (F : Fr) (R : Ending → World → Prop) : Prop :=
 ∀ a, Holds N F a → wpQuiet P ops C (fun a' => ∀ w', C w' → wpList P ops (QK P f k R) tail a' w') l a
theorem run_ctail {id : Nat} {l : List Oper} (C : World → Prop) (h0 : C w.drew) (n : Nat) (hm : P.follows .mixedOrders = true) (hB : Region.lexTailB .any l.toArray n = true) (h : RTK P f N l.toArray C (l.take n) (l.drop n) k F R) : Run P f N (.code (.region id l.toArray true) :: k) F w R :=
 fun a ha => runA_of_wp (wp_ctail n hm hB h0 (h a ha))
theorem rg_nil (h : ∀ w', C w' → RL P f N ops tail k F w' R) : RTK P f N ops C [] tail k F R := fun a ha => wpQuiet_nil fun w' hw' => h w' hw' a ha
theorem rg_v {d : Nat} {v : Value} (hg : o.guard = none) (hd : o.dst = some d) (hN : Nat.blt d N = true) (hv : ∀ w', C w' → OpV P N o F w' v) (h : RTK P f N ops C rest tail k ((d, v) :: F) R) : RTK P f N ops C (o :: rest) tail k F R := by
 intro a ha
 refine wpQuiet_step fun K hK => ?_
 rw [if_pos (by simp [Region.wanted, hg])]
 refine ⟨v, fun w' hw' => ?_, ?_⟩
 ·unfold Oper.quietAt
  rw [hv w' hw' a ha]
  exact ⟨rfl, rfl⟩
 ·rw [hd]
  exact hK _ (h _ (ha.put (lt_of_blt hN) v))
theorem rg_gv {j g d : Nat} {b : Bool} {v : Value} (hg : o.guard = some (j, b)) (hj : (ops[j]?).bind (·.dst) = some g) (hb : Fr.get F g = some (.bool b)) (hd : o.dst = some d) (hN : Nat.blt d N = true) (hv : ∀ w', C w' → OpV P N o F w' v)
  (h : RTK P f N ops C rest tail k ((d, v) :: F) R) : RTK P f N ops C (o :: rest) tail k F R := by
 intro a ha
 refine wpQuiet_step fun K hK => ?_
 rw [if_pos (by simp [Region.wanted, hg, yielded_of ha hj hb])]
 refine ⟨v, fun w' hw' => ?_, ?_⟩
 ·unfold Oper.quietAt
  rw [hv w' hw' a ha]
  exact ⟨rfl, rfl⟩
 ·rw [hd]
  exact hK _ (h _ (ha.put (lt_of_blt hN) v))
theorem rg_gskip {j g d : Nat} {b b' : Bool} (hg : o.guard = some (j, b)) (hj : (ops[j]?).bind (·.dst) = some g) (hb : Fr.get F g = some (.bool b')) (hne : (b' == b) = false) (hd : o.dst = some d) (hN : Nat.blt d N = true)
  (h : RTK P f N ops C rest tail k ((d, undef) :: F) R) : RTK P f N ops C (o :: rest) tail k F R := by
 intro a ha
 refine wpQuiet_step fun K hK => ?_
 have hw : Region.wanted o (yielded ops a.tmps) = false := by
  simp only [Region.wanted, hg, yielded_of ha hj hb]
  simpa using hne
 rw [if_neg (by simp [hw]), hd]
 exact hK _ (h _ (ha.put (lt_of_blt hN) undef))
theorem rg_gundef {j g d : Nat} {b : Bool} (hg : o.guard = some (j, b)) (hj : (ops[j]?).bind (·.dst) = some g) (hb : Fr.get F g = some undef) (hd : o.dst = some d) (hN : Nat.blt d N = true)
  (h : RTK P f N ops C rest tail k ((d, undef) :: F) R) : RTK P f N ops C (o :: rest) tail k F R := by
 intro a ha
 refine wpQuiet_step fun K hK => ?_
 have hw : Region.wanted o (yielded ops a.tmps) = false := by
  have e : yielded ops a.tmps j = none := by
   simp [yielded, hj, ha.at_ g _ hb]
   rfl
  simp [Region.wanted, hg, e]
 rw [if_neg (by simp [hw]), hd]
 exact hK _ (h _ (ha.put (lt_of_blt hN) undef))
theorem rg_split (g : Nat) {b : Bool} {l : List Oper} (hb : Fr.get F g = some (.bool b)) (ht : b = true → RTK P f N ops C l tail k ((g, .bool true) :: F) R) (hf : b = false → RTK P f N ops C l tail k ((g, .bool false) :: F) R) : RTK P f N ops C l tail k F R := by
 intro a ha
 cases hb' : b
 ·exact hf hb' a (holds_at ha (by rw [hb, hb']))
 ·exact ht hb' a (holds_at ha (by rw [hb, hb']))
theorem rg_split_dec (g : Nat) {p : Prop} {dp : Decidable p} {l : List Oper} (hb : Fr.get F g = some (.bool (decide p))) (ht : p → RTK P f N ops C l tail k ((g, .bool true) :: F) R) (hf : ¬ p → RTK P f N ops C l tail k ((g, .bool false) :: F) R) : RTK P f N ops C l tail k F R :=
 rg_split g hb (fun h => ht (of_decide_eq_true h)) (fun h => hf (of_decide_eq_false h))
theorem rg_gcall {fo : Operand} {xs : Array Operand} {ats : Array TypeId} {g j gs : Nat} {b : Bool} {cap : Array Value} {vs : List Value} {d : Nat} {v : Value} (hcl : Callable P g) (hg : o.guard = some (j, b)) (hj : (ops[j]?).bind (·.dst) = some gs) (hb : Fr.get F gs = some (.bool b)) (hd : o.dst = some d) (hN : Nat.blt d N = true)
  (ho : o.op = .call { callee := .value fo, args := xs, argTypes := ats }) (hf : Fr.ev F fo = some (.func (.func g) #[] cap)) (hx : Fr.evs F xs.toList = some vs)
  (hC : ∀ w', C w' → Calls P g (vs.toArray ++ cap) w' (fun e w'' => e = .returned v ∧ C w'')) (h : RTK P f N ops C rest tail k ((d, v) :: F) R) : RTK P f N ops C (o :: rest) tail k F R := by
 intro a ha
 refine wpQuiet_step fun K hK => ?_
 rw [if_pos (by simp [Region.wanted, hg, yielded_of ha hj hb])]
 refine ⟨v, quiet_call ha hcl ho hf hx hC, ?_⟩
 rw [hd]
 exact hK _ (h _ (ha.put (lt_of_blt hN) v))
end
end Go.Proofs.Ytlldeifbfpmbaaa
