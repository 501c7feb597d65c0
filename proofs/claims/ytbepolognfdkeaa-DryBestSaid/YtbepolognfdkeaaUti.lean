import Derived.Test.YtbepolognfdkeaaGow
import Derived.Test.YtbepolognfdkeaaTab
import Derived.Test.YtbepolognfdkeaaTb9
namespace Go.Proofs.Ytbepolognfdkeaa
open Go.RowKit
section
variable {P : Program} {f N : Nat} {k : List Item} {F : Fr} {w : World} {R : Ending → World → Prop} {ops : Array Oper} {o : Oper} {S : World → Prop} {fuel L : Nat} {listed : Array Bool} {Q : Exit → Act → World → Prop}
def wpLate (P : Program) (ops : Array Oper) (Q : Exit → Act → World → Prop) (S : World → Prop) (L : Nat) : Nat → Array Bool → Act → World → Prop
 | 0, listed, a, w => Region.ready .any ops listed = [] ∧ Q .normal a w
 | fuel + 1, listed, a, w => (Region.ready .any ops listed = [] → Q .normal a w) ∧ ∀ i ∈ Region.ready .any ops listed, wpOp P ops Q i (fun a' w' => (i = L ∨ S w') ∧ wpLate P ops Q S L fuel (listed.setIfInBounds i true) a' w') a w
theorem any_of_late : ∀ (fuel : Nat) (listed : Array Bool) (a : Act) (w : World), wpLate P ops Q S L fuel listed a w → wpAny P .any ops Q fuel listed a w
 | 0, _, _, _, h => h
 | fuel + 1, _, _, _, h => ⟨h.1, fun i hi => wpOp_mono (fun a' w' h' => any_of_late fuel _ a' w' h'.2) (h.2 i hi)⟩
def waitsB (ops : Array Oper) (L i : Nat) : Bool := ((ops[L]?).map fun o => o.after.any fun e => Region.binds .any e && e.on == i).getD false
theorem waits_spec {i : Nat} (h : waitsB ops L i = true) (hr : L ∈ Region.ready .any ops listed) : listed.getD i false = true := by
 obtain ⟨_, o, ho, hall⟩ := mem_ready.1 hr
 unfold waitsB at h
 rw [ho] at h
 simp only [Option.map_some, Option.getD_some, Array.any_eq_true, Bool.and_eq_true, beq_iff_eq] at h
 obtain ⟨j, hj, h1, h2⟩ := h
 rw [← h2]
 exact hall _ (Array.getElem_mem hj) h1
theorem late_first {i : Nat} {oi : Oper} {v : Value} (hi : ops[i]? = some oi) (hsel : ∀ (j : Nat) (o : Oper) cs b, ops[j]? = some o → o.op ≠ .select cs b)
  (hQ : ∀ c a w, Q (.panic c) (a.put oi.dst v) w → Q (.panic c) a w) (hL : waitsB ops L i = true) :
  ∀ (fuel : Nat) (listed : Array Bool) (a : Act) (w : World),
   (∀ j oj, ops[j]? = some oj → j ≠ i → listed.getD j true = false → (∀ e ∈ oj.after, Region.binds .any e = true → e.on ≠ i) → oi.apart ops oj = true) →
   i ∈ Region.ready .any ops listed → YieldsIf P ops S oi v a → S w →
   wpLate P ops Q S L fuel (listed.setIfInBounds i true) (a.put oi.dst v) w → wpLate P ops Q S L (fuel + 1) listed a w := by
 intro fuel
 induction fuel with
 | zero =>
  intro listed a w _ hr hy hS H
  refine ⟨fun h => (by rw [h] at hr; cases hr), fun j hj => ?_⟩
  by_cases hji : j = i
  ·subst hji; exact hy.wpOp hi hS ⟨.inr hS, H⟩
  ·have := ready_mono hj hji
   rw [H.1] at this
   cases this
 | succ fuel ih =>
  intro listed a w hfree hr hy hS H
  refine ⟨fun h => (by rw [h] at hr; cases hr), fun j hj => ?_⟩
  by_cases hji : j = i
  ·subst hji; exact hy.wpOp hi hS ⟨.inr hS, H⟩
  ·have hout : ∀ b : Bool, listed.getD i false = true → listed.getD i true = false → False := fun _ h1 h0 => by
    rcases Nat.lt_or_ge i listed.size with h' | h'
    ·simp [h'] at h0 h1; rw [h0] at h1; cases h1
    ·simp [Array.getElem?_eq_none h'] at h1
   have h0 := (mem_ready.1 hr).1
   have hjL : j ≠ L := fun e => hout true (waits_spec hL (e ▸ hj)) h0
   have h1 := H.2 j (ready_mono hj hji)
   obtain ⟨hjun, oj, hoj, hall⟩ := mem_ready.1 hj
   have hnot : ∀ e ∈ oj.after, Region.binds .any e = true → e.on ≠ i := fun e he hb heq => by
    have h1 := hall e he hb
    rw [heq] at h1
    exact hout true h1 h0
   have h2 := wpOp_putIf hoj (hfree j oj hoj hji hjun hnot) (fun cs b => hsel i oi cs b hi) (fun cs b => hsel j oj cs b hoj) hQ hy h1
   have hfree' : ∀ k ok, ops[k]? = some ok → k ≠ i → (listed.setIfInBounds j true).getD k true = false →
     (∀ e ∈ ok.after, Region.binds .any e = true → e.on ≠ i) → oi.apart ops ok = true := fun k ok hk hki hun hno => by
    refine hfree k ok hk hki ?_ hno
    by_cases hjk : j = k
    ·subst hjk; exact hjun
    ·rw [getD_set_ne true hjk] at hun; exact hun
   refine wpOp_mono (fun a' w' h3 => ?_) h2
   have hS' : S w' := h3.2.1.resolve_left hjL
   refine ⟨.inr hS', ih (listed.setIfInBounds j true) a' w' hfree' (ready_mono hr (Ne.symm hji)) h3.1 hS' ?_⟩
   rw [Array.setIfInBounds_comm _ _ hji]
   exact h3.2.2
def RHL (P : Program) (f N : Nat) (ops : Array Oper) (S : World → Prop) (L fuel : Nat) (listed : Array Bool) (k : List Item) (F : Fr) (w : World) (R : Ending → World → Prop) : Prop :=
 ∀ a, Holds N F a → wpLate P ops (QK P f k R) S L fuel listed a w
theorem run_late {id : Nat} {l : List Oper} (S : World → Prop) (L : Nat) (hm : P.follows .mixedOrders = true) (h : RHL P f N l.toArray S L l.length (Array.replicate l.length false) k F w.drew R) : Run P f N (.code (.region id l.toArray true) :: k) F w R :=
 fun a ha => runA_of_wp (wp_region_any hm (any_of_late _ _ _ _ (by simpa using h a ha)))
theorem rhl_v {d : Nat} {v : Value} {oi : Oper} (i : Nat) (hi : ops[i]? = some oi) (hs : (Region.noSelect ops && Region.free .any ops listed i && (Region.ready .any ops listed).contains i && waitsB ops L i) = true)
  (hg : oi.guard = none) (hd : oi.dst = some d) (hN : Nat.blt d N = true) (hS : S w) (hv : ∀ w', S w' → OpV P N oi F w' v) (h : RHL P f N ops S L fuel (listed.setIfInBounds i true) k ((d, v) :: F) w R) : RHL P f N ops S L (fuel + 1) listed k F w R := by
 intro a ha
 simp only [Bool.and_eq_true] at hs
 refine late_first hi (Region.noSelect_spec hs.1.1.1) (fun _ _ _ h => qk_put h) hs.2 fuel listed a w (Region.free_spec hi hs.1.1.2) (by simpa using hs.1.2) (v := v) (.inl ⟨by simp [Region.wanted, hg], fun w' hw' => hv w' hw' a ha⟩) hS ?_
 rw [hd]
 exact h _ (ha.put (lt_of_blt hN) v)
theorem rhl_done (hr : (Region.ready .any ops listed).isEmpty = true) (h : Run P f N k F w R) : RHL P f N ops S L fuel listed k F w R := by
 intro a ha
 have hr' : Region.ready .any ops listed = [] := by simpa using hr
 cases fuel with
 | zero => exact ⟨hr', h a ha⟩
 | succ fuel => exact ⟨fun _ => h a ha, by rw [hr']; simp⟩
def RCL (P : Program) (f N : Nat) (ops : Array Oper) (S : World → Prop) (L fuel : Nat) (listed : Array Bool) (k : List Item) (i : Nat) (F : Fr) (w : World) (R : Ending → World → Prop) : Prop :=
 ∀ a, Holds N F a → wpOp P ops (QK P f k R) i (fun a' w' => (i = L ∨ S w') ∧ wpLate P ops (QK P f k R) S L fuel (listed.setIfInBounds i true) a' w') a w
theorem rcl_op {oi : Oper} {i : Nat} {Post : Fr → World → Prop} (hi : ops[i]? = some oi) (hg : oi.guard = none) (hw : OpW P N oi F w Post)
  (h : ∀ F' w', Post F' w' → S w' ∧ RHL P f N ops S L fuel (listed.setIfInBounds i true) k F' w' R) : RCL P f N ops S L fuel listed k i F w R := by
 intro a ha
 unfold wpOp
 rw [hi]
 simp only [Region.wanted, hg, if_true]
 exact .inl (hw a ha _ _ fun F' a' w' hp ha' => ⟨.inr (h F' w' hp).1, (h F' w' hp).2 a' ha'⟩)
theorem rcl_last {oi : Oper} {Post : Fr → World → Prop} (hi : ops[L]? = some oi) (hg : oi.guard = none) (hw : OpW P N oi F w Post)
  (h : ∀ F' w', Post F' w' → RHL P f N ops S L fuel (listed.setIfInBounds L true) k F' w' R) : RCL P f N ops S L fuel listed k L F w R := by
 intro a ha
 unfold wpOp
 rw [hi]
 have hwt : Region.wanted oi (yielded ops a.tmps) = true := by simp [Region.wanted, hg]
 show (if Region.wanted oi (yielded ops a.tmps) = true then _ else _)
 rw [if_pos hwt]
 exact .inl (hw a ha _ _ fun F' a' w' hp ha' => ⟨.inl rfl, h F' w' hp a' ha'⟩)
theorem late_all {rs : List Nat} {a : Act} (hr : Region.ready .any ops listed = rs) (hne : rs ≠ [])
  (h : ∀ i ∈ rs, wpOp P ops Q i (fun a' w' => (i = L ∨ S w') ∧ wpLate P ops Q S L fuel (listed.setIfInBounds i true) a' w') a w) : wpLate P ops Q S L (fuel + 1) listed a w :=
 ⟨fun h0 => absurd (hr ▸ h0) hne, hr ▸ h⟩
theorem rhl_any1 (i : Nat) (hr : Region.ready .any ops listed = [i]) (h : RCL P f N ops S L fuel listed k i F w R) : RHL P f N ops S L (fuel + 1) listed k F w R := by
 intro a ha
 refine late_all hr (by simp) fun j hj => ?_
 obtain rfl : j = i := by simpa using hj
 exact h a ha
end
end Go.Proofs.Ytbepolognfdkeaa
set_option maxRecDepth 100000
namespace Go.Proofs.Ytbepolognfdkeaa
open Go.RowKit Go.Proofs
structure ClU (B : Nat) (w0 : World) (H : List (Option Blk)) (w : World) : Prop where
 own : Own B w0 w H
theorem IRow.capU {ao : Option Addr} {m cap : Nat} {E : TypeId} {n : Nat} {G : Int → Value} {c : Option Blk} (h : IRow (.slice ao m cap) E n G c) : n ≤ cap := by
 rcases h with ⟨h1, rfl, rfl⟩ | ⟨b, cap', g, h1, h2, h3, rfl, h5⟩
 ·omega
 ·cases h1; exact h2
theorem IRow.cellU {ao : Option Addr} {m cap b : Nat} {E : TypeId} {n : Nat} {G : Int → Value} {c : Option Blk} {B : Nat} {w0 w : World} {H : List (Option Blk)} (h : IRow (.slice ao m cap) E n G c) (ho : Own B w0 w H) (k : Nat) (hk : H[k]? = some c) (ha : ao = some ⟨b, 0, none⟩) {i : Int} (i0 : 0 ≤ i) (i1 : i < n) : w.cell? ⟨b, 0 + i.toNat, none⟩ = some (G i) := by
 obtain ⟨b', e, r⟩ := h.openS ho k hk
 have := e (by omega)
 rw [ha] at this
 cases this
 exact r i i0 i1
theorem SRow.cellU {ao : Option Addr} {m cap b s n : Nat} {E : TypeId} {G : Int → List Value} {c : Option Blk} {B : Nat} {w0 w : World} {H : List (Option Blk)} (h : SRow (.slice ao m cap) E s n G c) (ho : Own B w0 w H) (k : Nat) (hk : H[k]? = some c) (ha : ao = some ⟨b, 0, none⟩) :
  ∀ i : Int, 0 ≤ i → i < n → ∀ fo, fo < s → w.cell? ⟨b, 0 + i.toNat * s + fo, none⟩ = some ((G i).getD fo undef) := fun i i0 i1 => by
 obtain ⟨b', e, r⟩ := h.openS ho k hk
 have := e (by omega)
 rw [ha] at this
 cases this
 exact r i i0 i1
theorem Own.satU {B : Nat} {w0 w : World} {H : List (Option Blk)} (hO : Own B w0 w H) {ao : Option Addr} {s n : Nat} {G : Int → List Value} (h : SAt B w0 ao s n G) : SAt w.heap.size w ao s n G := (h.below hO.below).mono hO.size
theorem SrcI.adr {R : List (Option Blk)} {ao : Option Addr} {n : Nat} {g : Int → Int} (h : SrcI R ao n g) {B : Nat} {w0 w : World} (hO : Own B w0 w R) (hn : 0 < n) :
  ∃ b off, ao = some ⟨b, off, none⟩ ∧ ∀ {B : Nat} {w0 w : World}, Own B w0 w R → ∀ i : Int, 0 ≤ i → i < n → w.cell? ⟨b, off + i.toNat, none⟩ = some (iv (g i)) := by
 obtain ⟨b, off, e, _⟩ := (h _ _ _ hO).open
 have e1 := e hn
 refine ⟨b, off, e1, fun {B' w0' w'} hO' i i0 i1 => ?_⟩
 obtain ⟨b', off', e', r⟩ := (h _ _ _ hO').open
 have e2 := e' hn
 rw [e1] at e2
 cases e2
 exact r _ (Below.refl _ _) i i0 i1
def TOwn (H : List (Option Blk)) (oa : Option Addr) (n : Nat) (L : Int → Nat) (R : Int → Int → Int) : Prop :=
 ∃ (A : Int → Option Addr) (C : Int → Nat), (∀ r : Int, 0 ≤ r → r < n → L r ≤ C r) ∧ ∀ (B : Nat) (w0 w : World), Own B w0 w H → IAt w.heap.size w oa n (fun r => .slice (A r) (L r) (C r)) ∧ ∀ r : Int, 0 ≤ r → r < n → IAt w.heap.size w (A r) (L r) (fun c => iv (R r c))
theorem OTab.town {ao : Option Addr} {m cap n : Nat} {T1 T2 : TypeId} {L : Int → Nat} {F : Int → Int → Int} {H : List (Option Blk)} (h : OTab (.slice ao m cap) T1 T2 n L (fun r c => iv (F r c)) H) : TOwn H ao n L F := by
 obtain ⟨c, rv, ch, rfl, h2, h3⟩ := h
 have hv : ∀ r : Int, ∃ p : Option Addr × Nat, 0 ≤ r → r < n → rv r = .slice p.1 (L r) p.2 := fun r => by
  by_cases hr : 0 ≤ r ∧ r < n
  ·obtain ⟨q, rfl⟩ := Int.eq_ofNat_of_zero_le hr.1
   obtain ⟨a, b, e⟩ := Row.val (h3 q (by omega))
   exact ⟨(a, b), fun _ _ => e⟩
  ·exact ⟨(none, 0), fun a b => absurd ⟨a, b⟩ hr⟩
 have hAC : ∀ r : Int, 0 ≤ r → r < n → rv r = .slice (Classical.choose (hv r)).1 (L r) (Classical.choose (hv r)).2 := fun r h0 hr => Classical.choose_spec (hv r) h0 hr
 have hrow : ∀ q : Nat, q < n → IRow (.slice (Classical.choose (hv q)).1 (L q) (Classical.choose (hv q)).2) T2 (L q) (fun c => iv (F q c)) (ch q) := fun q hq => by
  have := h3 q hq
  rw [hAC q (by omega) (by omega)] at this
  exact this
 refine ⟨fun r => (Classical.choose (hv r)).1, fun r => (Classical.choose (hv r)).2, fun r h0 hr => ?_, fun B w0 w hO => ⟨(h2.reads hO 0 rfl).congr hAC, fun r h0 hr => ?_⟩⟩
 ·obtain ⟨q, rfl⟩ := Int.eq_ofNat_of_zero_le h0
  exact (hrow q (by omega)).capU
 ·obtain ⟨q, rfl⟩ := Int.eq_ofNat_of_zero_le h0
  refine (hrow q (by omega)).reads hO (q + 1) ?_
  have : q < n := by omega
  simp [this]
theorem TOwn.sub {N M : List (Option Blk)} {oa : Option Addr} {n : Nat} {L : Int → Nat} {R : Int → Int → Int} (h : TOwn N oa n L R) (hs : N.Sublist M) : TOwn M oa n L R := by
 obtain ⟨A, C, h1, h2⟩ := h
 exact ⟨A, C, h1, fun B w0 w hO => h2 B w0 w (hO.sub hs)⟩
theorem TOwn.itab {H : List (Option Blk)} {oa : Option Addr} {n : Nat} {L : Int → Nat} {R : Int → Int → Int} (h : TOwn H oa n L R) {B : Nat} {w0 w : World} (hO : Own B w0 w H) : ITab w.heap.size w oa n L (fun r c => iv (R r c)) := by
 obtain ⟨A, C, _, h2⟩ := h
 exact ⟨A, C, (h2 B w0 w hO).1, (h2 B w0 w hO).2⟩
theorem TOwn.adr {H : List (Option Blk)} {oa : Option Addr} {n : Nat} {L : Int → Nat} {R : Int → Int → Int} (h : TOwn H oa n L R) {B : Nat} {w0 w : World} (hO : Own B w0 w H) (hn : 0 < n) :
  ∃ (A : Int → Option Addr) (C : Int → Nat) (b off : Nat), oa = some ⟨b, off, none⟩ ∧ (∀ {B : Nat} {w0 w : World}, Own B w0 w H → ∀ i : Int, 0 ≤ i → i < n → w.cell? ⟨b, off + i.toNat, none⟩ = some (.slice (A i) (L i) (C i))) ∧ ∀ r : Int, 0 ≤ r → r < n → SrcI H (A r) (L r) (R r) := by
 obtain ⟨A, C, h1, h2⟩ := h
 obtain ⟨b, off, e, _⟩ := (h2 B w0 w hO).1.open
 have e1 := e hn
 refine ⟨A, C, b, off, e1, fun {B' w0' w'} hO' i i0 i1 => ?_, fun r r0 r1 B w0 w hO => (h2 B w0 w hO).2 r r0 r1⟩
 obtain ⟨b', off', e', r⟩ := (h2 B' w0' w' hO').1.open
 have e2 := e' hn
 rw [e1] at e2
 cases e2
 exact r _ (Below.refl _ _) i i0 i1
end Go.Proofs.Ytbepolognfdkeaa
