import Derived.Test.YtlldeifbfpmbaaaGreatFaC
import Derived.Test.YtlldeifbfpmbaaaGreatMaps
import Derived.Test.YtlldeifbfpmbaaaGreatRgf
set_option maxRecDepth 100000
namespace Go.Proofs.YtlldeifbfpmbaaaGreat
open Go.RowKit Go.Proofs
namespace Fair
structure Cut (f : Fair) (l : Int → Int) (q : Int) (bl : Int → Nat) : Prop where
 le : ∀ b : Int, 0 ≤ b → b < f.m → bl b ≤ f.bl b
 by_ : ∀ b i : Int, 0 ≤ b → b < f.m → 0 ≤ i → i < q → f.rg i b < f.rg i (l i) → f.rb b i < f.bl b → bl b ≤ f.rb b i
 ex : ∀ b : Int, 0 ≤ b → b < f.m → bl b = f.bl b ∨ ∃ i : Int, (0 ≤ i ∧ i < q) ∧ f.rg i b < f.rg i (l i) ∧ f.rb b i < f.bl b ∧ (bl b : Int) = f.rb b i
def cut (f : Fair) (l : Int → Int) (q : Int) (bl : Int → Nat) : Fair :=
 ⟨f.n, f.m, fun g => if g < q then (if l g < 0 then 0 else 1) else f.gl g, fun g k => if g < q then l g else f.ge g k, bl, f.be, f.q⟩
section
variable {f : Fair} {l : Int → Int} {q : Int} {bl : Int → Nat}
theorem cut_gl_lo {g : Int} (h : g < q) : (f.cut l q bl).gl g = if l g < 0 then 0 else 1 := if_pos h
theorem cut_gl_hi {g : Int} (h : ¬ g < q) : (f.cut l q bl).gl g = f.gl g := if_neg h
theorem cut_ge_hi {g : Int} (h : ¬ g < q) : (f.cut l q bl).ge g = f.ge g := funext fun _ => if_neg h
theorem cut_rg_hi {g b : Int} (h : ¬ g < q) : (f.cut l q bl).rg g b = f.rg g b := by
 unfold rg
 rw [cut_gl_hi h, cut_ge_hi h]
theorem cut_rg_lo {g b : Int} (h : g < q) : (f.cut l q bl).rg g b < (f.cut l q bl).gl g ↔ 0 ≤ l g ∧ b = l g := by
 have hr := rk_rng ((f.cut l q bl).ge g) b ((f.cut l q bl).gl g)
 unfold rg
 constructor
 ·intro h1
  have h2 := rk_at h1
  have h3 : (f.cut l q bl).ge g (rk ((f.cut l q bl).ge g) ((f.cut l q bl).gl g) b) = l g := if_pos h
  rw [cut_gl_lo h] at h1 hr
  by_cases c : l g < 0
  ·rw [if_pos c] at h1 hr; omega
  ·exact ⟨by omega, h2.symm.trans h3⟩
 ·rintro ⟨h1, h2⟩
  have e : (f.cut l q bl).gl g = 1 := by rw [cut_gl_lo h, if_neg (by omega)]
  refine Classical.byContradiction fun hn => ?_
  have h3 := rk_ne (f := (f.cut l q bl).ge g) (x := b) (n := (f.cut l q bl).gl g) (k := 0) (Int.le_refl _) (by rw [e] at hn hr ⊢; omega)
  exact h3 ((if_pos h : (f.cut l q bl).ge g 0 = l g).trans h2.symm)
theorem rk_short {X : Int → Int} {a b : Nat} (hab : a ≤ b) {x : Int} : (rk X a x < a ↔ rk X b x < a) ∧ (rk X b x < a → rk X a x = rk X b x) := by
 have h1 := rk_rng X x a
 have h2 := rk_rng X x b
 have key : rk X b x < a → rk X a x = rk X b x := fun h => by
  rcases Int.lt_trichotomy (rk X a x) (rk X b x) with c | c | c
  ·exact absurd (rk_at (by omega)) (rk_ne (n := b) h1.1 c)
  ·exact c
  ·exact absurd (rk_at (f := X) (n := b) (x := x) (by omega)) (rk_ne (n := a) h2.1 c)
 refine ⟨⟨fun h => ?_, fun h => by rw [key h]; exact h⟩, key⟩
 exact Classical.byContradiction fun hn => rk_ne (f := X) (n := b) (x := x) h1.1 (by omega) (rk_at h)
theorem cut_rb (hc : f.Cut l q bl) {b g : Int} (b0 : 0 ≤ b) (b1 : b < f.m) : ((f.cut l q bl).rb b g < bl b ↔ f.rb b g < bl b) ∧ (f.rb b g < bl b → (f.cut l q bl).rb b g = f.rb b g) :=
 rk_short (hc.le b b0 b1)
theorem cut_ok (hf : f.Ok) (hc : f.Cut l q bl) (hl : ∀ i : Int, 0 ≤ i → i < q → l i < f.m) : (f.cut l q bl).Ok := by
 refine ⟨fun g k g0 g1 k0 k1 => ?_, fun g g0 g1 a b a0 a1 b0 b1 e => ?_, fun b k b0 b1 k0 k1 => hf.br b k b0 b1 k0 (by have := hc.le b b0 b1; change k < (bl b : Int) at k1; omega), fun b b0 b1 x y x0 x1 y0 y1 e => ?_, hf.q0⟩
 ·by_cases c : g < q
  ·rw [cut_gl_lo c] at k1
   show 0 ≤ (if g < q then l g else f.ge g k) ∧ (if g < q then l g else f.ge g k) < f.m
   rw [if_pos c]
   by_cases c2 : l g < 0
   ·rw [if_pos c2] at k1; omega
   ·exact ⟨by omega, hl g g0 c⟩
  ·rw [cut_gl_hi c] at k1
   rw [cut_ge_hi c]
   exact hf.gr g k g0 g1 k0 k1
 ·by_cases c : g < q
  ·rw [cut_gl_lo c] at a1 b1
   by_cases c2 : l g < 0
   ·rw [if_pos c2] at a1; omega
   ·rw [if_neg c2] at a1 b1; omega
  ·rw [cut_gl_hi c] at a1 b1
   rw [cut_ge_hi c] at e
   exact hf.gd g g0 g1 a b a0 a1 b0 b1 e
 ·have := hc.le b b0 b1
  change x < (bl b : Int) at x1
  change y < (bl b : Int) at y1
  exact hf.bd b b0 b1 x y x0 (by omega) y0 (by omega) e
theorem Cut.full (hc : f.Cut l q bl) {s : Int → Int} (hs : f.Stab s) (hsl : ∀ i : Int, 0 ≤ i → i < q → s i = l i) (hq : q ≤ f.n) {b i : Int} (b0 : 0 ≤ b) (b1 : b < f.m) (i0 : 0 ≤ i) (i1 : i < q) (h1 : f.rg i b < f.rg i (l i)) (h2 : f.rb b i < f.bl b) : f.q b ≤ f.cnt s b ∧ ∀ j : Int, 0 ≤ j → j < f.n → s j = b → f.rb b j ≤ f.rb b i := by
 have hr := rk_rng (f.ge i) (l i) (f.gl i)
 change 0 ≤ f.rg i (l i) ∧ f.rg i (l i) ≤ f.gl i at hr
 have hsi := hsl i i0 i1
 have hnb := hs.none i b i0 (by omega) b0 b1
 have hbl : ¬ (f.cnt s b < f.q b ∨ ∃ j : Int, (0 ≤ j ∧ j < f.n) ∧ s j = b ∧ f.rb b i < f.rb b j) := fun h => hnb ⟨fun e => by rw [hsi] at e; rw [e] at h1; omega, ⟨by omega, h2⟩, fun ⟨_, h⟩ => by rw [hsi] at h; omega, h⟩
 refine ⟨Int.not_lt.1 fun h => hbl (.inl h), fun j j0 j1 e => Int.not_lt.1 fun h => hbl (.inr ⟨j, ⟨j0, j1⟩, e, h⟩)⟩
theorem cut_stab (hc : f.Cut l q bl) {s : Int → Int} (hs : f.Stab s) (hsl : ∀ i : Int, 0 ≤ i → i < q → s i = l i) (hq : q ≤ f.n) : (f.cut l q bl).Stab s := by
 have hkn : ∀ g : Int, 0 ≤ g → g < f.n → s g ≠ -1 → (0 ≤ s g ∧ s g < f.m) ∧ (f.cut l q bl).know g (s g) := fun g g0 g1 hne => by
  rcases hs.poss.at_ g g0 g1 with e | ⟨hr, hk⟩
  ·exact absurd e hne
  ·refine ⟨hr, ?_, ?_⟩
   ·by_cases c : g < q
    ·exact (cut_rg_lo c).2 ⟨by rw [← hsl g g0 c]; exact hr.1, hsl g g0 c⟩
    ·rw [cut_rg_hi c, cut_gl_hi c]; exact hk.1
   ·refine (cut_rb hc hr.1 hr.2).1.2 (Classical.byContradiction fun hn => ?_)
    rcases hc.ex (s g) hr.1 hr.2 with e | ⟨i, hi, h1, h2, h3⟩
    ·have := hk.2; omega
    ·have h4 := (hc.full hs hsl hq hr.1 hr.2 hi.1 hi.2 h1 h2).2 g g0 g1 rfl
     have h5 : f.rb (s g) i = f.rb (s g) g := by omega
     have h6 := rb_inj h2 h5
     rw [h6, ← hsl g (by omega) (by omega)] at h1
     omega
 refine ⟨⟨fun g g0 g1 => ?_, hs.poss.cnt⟩, fun g b g0 g1 b0 b1 hB => ?_⟩
 ·by_cases e : s g = -1
  ·exact .inl e
  ·exact .inr (hkn g g0 g1 e)
 ·obtain ⟨h1, h2, h3, h4⟩ := hB
  by_cases c : g < q
  ·exact h1 ((hsl g g0 c).trans ((cut_rg_lo c).1 h2.1).2.symm)
  ·have hrb := (cut_rb hc b0 b1).1.1 h2.2
   refine hs.none g b g0 g1 b0 b1 ⟨h1, ⟨by have := h2.1; rw [cut_rg_hi c, cut_gl_hi c] at this; exact this, by have := hc.le b b0 b1; omega⟩, fun ⟨p1, p2⟩ => h3 ⟨p1, by rw [cut_rg_hi c, cut_rg_hi c]; exact p2⟩, ?_⟩
   rcases h4 with h4 | ⟨i, hi, e, h5⟩
   ·exact .inl h4
   ·refine .inr ⟨i, hi, e, ?_⟩
    have hki := (hkn i hi.1 hi.2 (by omega)).2.2
    rw [e] at hki
    have hki2 := (cut_rb hc b0 b1).1.1 hki
    rw [(cut_rb hc b0 b1).2 hrb, (cut_rb hc b0 b1).2 hki2] at h5
    exact h5
theorem cut_best (hf : f.Ok) (hc : f.Cut l q bl) {s o : Int → Int} (hs : f.Stab s) (hsl : ∀ i : Int, 0 ≤ i → i < q → s i = l i) (hq : q ≤ f.n) (ho : (f.cut l q bl).Best o) : (∀ i : Int, 0 ≤ i → i < q → o i = l i) ∧ f.Stab o := by
 have hsh := ho.share (cut_stab hc hs hsl hq)
 have hol : ∀ i : Int, 0 ≤ i → i < q → o i = l i := fun i i0 i1 => by
  rcases ho.stab.poss.at_ i i0 (show i < f.n by omega) with e | ⟨_, hk⟩
  ·rw [e, ← hsl i i0 i1, (hsh.who i i0 (show i < f.n by omega)).1 e]
  ·exact ((cut_rg_lo i1).1 hk.1).2
 have hkn : ∀ g : Int, 0 ≤ g → g < f.n → o g ≠ -1 → (0 ≤ o g ∧ o g < f.m) ∧ f.know g (o g) ∧ f.rb (o g) g < bl (o g) := fun g g0 g1 hne => by
  rcases ho.stab.poss.at_ g g0 g1 with e | ⟨hr, hk⟩
  ·exact absurd e hne
  ·have h2 := (cut_rb hc hr.1 hr.2).1.1 hk.2
   refine ⟨hr, ⟨?_, by have := hc.le _ hr.1 hr.2; omega⟩, h2⟩
   by_cases c : g < q
   ·have h3 := hol g g0 c
    have h4 := hsl g g0 c
    rcases hs.poss.at_ g g0 g1 with e | ⟨_, hks⟩
    ·omega
    ·rw [h3, ← h4]; exact hks.1
   ·have := hk.1
    rw [cut_rg_hi c, cut_gl_hi c] at this
    exact this
 have hfull : ∀ b g : Int, 0 ≤ b → b < f.m → (bl b : Int) ≤ f.rb b g → f.rb b g < f.bl b → f.q b ≤ f.cnt o b := fun b g b0 b1 h1 h2 => by
  rcases hc.ex b b0 b1 with e | ⟨i, hi, h3, h4, h5⟩
  ·omega
  ·have h6 := (hc.full hs hsl hq b0 b1 hi.1 hi.2 h3 h4).1
   rw [show f.cnt o b = f.cnt s b from hsh.cnt b b0 b1]
   exact h6
 refine ⟨hol, ⟨⟨fun g g0 g1 => ?_, fun b b0 b1 => ho.stab.poss.cnt b b0 b1⟩, fun g b g0 g1 b0 b1 hB => ?_⟩⟩
 ·by_cases e : o g = -1
  ·exact .inl e
  ·exact .inr ⟨(hkn g g0 g1 e).1, (hkn g g0 g1 e).2.1⟩
 ·obtain ⟨h1, h2, h3, h4⟩ := hB
  have hcutg : (bl b : Int) ≤ f.rb b g → False := fun hle => by
   rcases h4 with h4 | ⟨i, hi, e, h5⟩
   ·have := hfull b g b0 b1 hle h2.2; omega
   ·have := (hkn i hi.1 hi.2 (by omega)).2.2
    rw [e] at this
    omega
  by_cases c : g < q
  ·have hog := hol g g0 c
   have hlt : f.rg g b < f.rg g (l g) := by
    by_cases e : 0 ≤ l g
    ·have h5 : ¬ f.rg g (l g) < f.rg g b := fun h => h3 ⟨by rw [hog]; exact e, by rw [hog]; exact h⟩
     refine Classical.byContradiction fun hn => ?_
     have h6 : f.rg g b = f.rg g (l g) := by omega
     exact h1 (by rw [hog]; exact (rg_inj h2.1 h6).symm)
    ·have h5 : f.rg g (l g) = f.gl g := by
      have hr := rk_rng (f.ge g) (l g) (f.gl g)
      refine Classical.byContradiction fun hn => ?_
      have h6 := rk_at (f := f.ge g) (n := f.gl g) (x := l g) (by unfold rg at hn; omega)
      have h7 := hf.gr g (rk (f.ge g) (f.gl g) (l g)) g0 g1 hr.1 (by unfold rg at hn; omega)
      omega
     rw [h5]; exact h2.1
   exact hcutg (hc.by_ b g b0 b1 g0 c hlt h2.2)
  ·by_cases c2 : f.rb b g < bl b
   ·refine ho.stab.none g b g0 g1 b0 b1 ⟨h1, ⟨by rw [cut_rg_hi c, cut_gl_hi c]; exact h2.1, (cut_rb hc b0 b1).1.2 c2⟩, fun ⟨p1, p2⟩ => h3 ⟨p1, by rw [cut_rg_hi c, cut_rg_hi c] at p2; exact p2⟩, ?_⟩
    rcases h4 with h4 | ⟨i, hi, e, h5⟩
    ·exact .inl h4
    ·refine .inr ⟨i, hi, e, ?_⟩
     have hki := (hkn i hi.1 hi.2 (by omega)).2.2
     rw [e] at hki
     rw [(cut_rb hc b0 b1).2 c2, (cut_rb hc b0 b1).2 hki]
     exact h5
   ·exact hcutg (by omega)
end
end Fair
end Go.Proofs.YtlldeifbfpmbaaaGreat
set_option maxRecDepth 100000
namespace Go.Proofs.YtlldeifbfpmbaaaGreat
open Go.RowKit Go.Proofs
abbrev iv (n : Int) : Value := .int .i64 n
abbrev ptr (b : Nat) : Value := .pointer (some ⟨b, 0, none⟩)
section
variable {P : Program} {f N : Nat} {k : List Item} {F : Fr} {w : World} {R : Ending → World → Prop} {o : Oper} {B : Nat} {w0 : World} {H : List (Option Blk)}
theorem run_once {c : Code} (h : Run P f N (.code c :: .inLoop c :: k) F w R) : Run P f N (.code (.loop c) :: k) F w R := fun a ha => RunA.of_step (fun _ => .one step_loop) (h a ha)
end
end Go.Proofs.YtlldeifbfpmbaaaGreat
namespace Go.Proofs.YtlldeifbfpmbaaaGreat
open Go.RowKit
section
variable {P : Program} {f N : Nat} {k : List Item} {F : Fr} {w : World} {R : Ending → World → Prop} {ops : Array Oper} {o : Oper} {S : World → Prop} {fuel L : Nat} {listed : Array Bool} {Q : Exit → Act → World → Prop}
def wpLate (P : Program) (ops : Array Oper) (Q : Exit → Act → World → Prop) (S : World → Prop) (L : Nat) : Nat → Array Bool → Act → World → Prop
 | 0, listed, a, w => Region.ready .any ops listed = [] ∧ Q .normal a w
 | fuel + 1, listed, a, w => (Region.ready .any ops listed = [] → Q .normal a w) ∧ ∀ i ∈ Region.ready .any ops listed, wpOp P ops Q i (fun a' w' => (i = L ∨ S w') ∧ wpLate P ops Q S L fuel (listed.setIfInBounds i true) a' w') a w
theorem any_of_late : ∀ (fuel : Nat) (listed : Array Bool) (a : Act) (w : World), wpLate P ops Q S L fuel listed a w → wpAny P .any ops Q fuel listed a w
 | 0, _, _, _, h => h
 | fuel + 1, _, _, _, h => ⟨h.1, fun i hi => wpOp_mono (fun a' w' h' => any_of_late fuel _ a' w' h'.2) (h.2 i hi)⟩
def waitsB (ops : Array Oper) (L i : Nat) : Bool := ((ops[L]?).map fun o => o.after.any fun e => Region.binds .any e && e.on == i).getD false
theorem waits_spec {i : Nat} (h : waitsB ops L i = true) (hr : L ∈ Region.ready .any ops listed) : listed.getD i false = true := by
 obtain ⟨_, o, ho, hall⟩ := mem_ready.1 hr
 unfold waitsB at h
 rw [ho] at h
 simp only [Option.map_some, Option.getD_some, Array.any_eq_true, Bool.and_eq_true, beq_iff_eq] at h
 obtain ⟨j, hj, h1, h2⟩ := h
 rw [← h2]
 exact hall _ (Array.getElem_mem hj) h1
theorem late_first {i : Nat} {oi : Oper} {v : Value} (hi : ops[i]? = some oi) (hsel : ∀ (j : Nat) (o : Oper) cs b, ops[j]? = some o → o.op ≠ .select cs b)
  (hQ : ∀ c a w, Q (.panic c) (a.put oi.dst v) w → Q (.panic c) a w) (hL : waitsB ops L i = true) :
  ∀ (fuel : Nat) (listed : Array Bool) (a : Act) (w : World),
   (∀ j oj, ops[j]? = some oj → j ≠ i → listed.getD j true = false → (∀ e ∈ oj.after, Region.binds .any e = true → e.on ≠ i) → oi.apart ops oj = true) →
   i ∈ Region.ready .any ops listed → YieldsIf P ops S oi v a → S w →
   wpLate P ops Q S L fuel (listed.setIfInBounds i true) (a.put oi.dst v) w → wpLate P ops Q S L (fuel + 1) listed a w := by
 intro fuel
 induction fuel with
 | zero =>
  intro listed a w _ hr hy hS H
  refine ⟨fun h => (by rw [h] at hr; cases hr), fun j hj => ?_⟩
  by_cases hji : j = i
  ·subst hji; exact hy.wpOp hi hS ⟨.inr hS, H⟩
  ·have := ready_mono hj hji
   rw [H.1] at this
   cases this
 | succ fuel ih =>
  intro listed a w hfree hr hy hS H
  refine ⟨fun h => (by rw [h] at hr; cases hr), fun j hj => ?_⟩
  by_cases hji : j = i
  ·subst hji; exact hy.wpOp hi hS ⟨.inr hS, H⟩
  ·have hout : ∀ b : Bool, listed.getD i false = true → listed.getD i true = false → False := fun _ h1 h0 => by
    rcases Nat.lt_or_ge i listed.size with h' | h'
    ·simp [h'] at h0 h1; rw [h0] at h1; cases h1
    ·simp [Array.getElem?_eq_none h'] at h1
   have h0 := (mem_ready.1 hr).1
   have hjL : j ≠ L := fun e => hout true (waits_spec hL (e ▸ hj)) h0
   have h1 := H.2 j (ready_mono hj hji)
   obtain ⟨hjun, oj, hoj, hall⟩ := mem_ready.1 hj
   have hnot : ∀ e ∈ oj.after, Region.binds .any e = true → e.on ≠ i := fun e he hb heq => by
    have h1 := hall e he hb
    rw [heq] at h1
    exact hout true h1 h0
   have h2 := wpOp_putIf hoj (hfree j oj hoj hji hjun hnot) (fun cs b => hsel i oi cs b hi) (fun cs b => hsel j oj cs b hoj) hQ hy h1
   have hfree' : ∀ k ok, ops[k]? = some ok → k ≠ i → (listed.setIfInBounds j true).getD k true = false →
     (∀ e ∈ ok.after, Region.binds .any e = true → e.on ≠ i) → oi.apart ops ok = true := fun k ok hk hki hun hno => by
    refine hfree k ok hk hki ?_ hno
    by_cases hjk : j = k
    ·subst hjk; exact hjun
    ·rw [getD_set_ne true hjk] at hun; exact hun
   refine wpOp_mono (fun a' w' h3 => ?_) h2
   have hS' : S w' := h3.2.1.resolve_left hjL
   refine ⟨.inr hS', ih (listed.setIfInBounds j true) a' w' hfree' (ready_mono hr (Ne.symm hji)) h3.1 hS' ?_⟩
   rw [Array.setIfInBounds_comm _ _ hji]
   exact h3.2.2
def RHL (P : Program) (f N : Nat) (ops : Array Oper) (S : World → Prop) (L fuel : Nat) (listed : Array Bool) (k : List Item) (F : Fr) (w : World) (R : Ending → World → Prop) : Prop :=
 ∀ a, Holds N F a → wpLate P ops (QK P f k R) S L fuel listed a w
theorem run_late {id : Nat} {l : List Oper} (S : World → Prop) (L : Nat) (hm : P.follows .mixedOrders = true) (h : RHL P f N l.toArray S L l.length (Array.replicate l.length false) k F w.drew R) : Run P f N (.code (.region id l.toArray true) :: k) F w R :=
 fun a ha => runA_of_wp (wp_region_any hm (any_of_late _ _ _ _ (by simpa using h a ha)))
theorem rhl_v {d : Nat} {v : Value} {oi : Oper} (i : Nat) (hi : ops[i]? = some oi) (hs : (Region.noSelect ops && Region.free .any ops listed i && (Region.ready .any ops listed).contains i && waitsB ops L i) = true)
  (hg : oi.guard = none) (hd : oi.dst = some d) (hN : Nat.blt d N = true) (hS : S w) (hv : ∀ w', S w' → OpV P N oi F w' v) (h : RHL P f N ops S L fuel (listed.setIfInBounds i true) k ((d, v) :: F) w R) : RHL P f N ops S L (fuel + 1) listed k F w R := by
 intro a ha
 simp only [Bool.and_eq_true] at hs
 refine late_first hi (Region.noSelect_spec hs.1.1.1) (fun _ _ _ h => qk_put h) hs.2 fuel listed a w (Region.free_spec hi hs.1.1.2) (by simpa using hs.1.2) (v := v) (.inl ⟨by simp [Region.wanted, hg], fun w' hw' => hv w' hw' a ha⟩) hS ?_
 rw [hd]
 exact h _ (ha.put (lt_of_blt hN) v)
theorem rhl_done (hr : (Region.ready .any ops listed).isEmpty = true) (h : Run P f N k F w R) : RHL P f N ops S L fuel listed k F w R := by
 intro a ha
 have hr' : Region.ready .any ops listed = [] := by simpa using hr
 cases fuel with
 | zero => exact ⟨hr', h a ha⟩
 | succ fuel => exact ⟨fun _ => h a ha, by rw [hr']; simp⟩
def RCL (P : Program) (f N : Nat) (ops : Array Oper) (S : World → Prop) (L fuel : Nat) (listed : Array Bool) (k : List Item) (i : Nat) (F : Fr) (w : World) (R : Ending → World → Prop) : Prop :=
 ∀ a, Holds N F a → wpOp P ops (QK P f k R) i (fun a' w' => (i = L ∨ S w') ∧ wpLate P ops (QK P f k R) S L fuel (listed.setIfInBounds i true) a' w') a w
theorem rcl_op {oi : Oper} {i : Nat} {Post : Fr → World → Prop} (hi : ops[i]? = some oi) (hg : oi.guard = none) (hw : OpW P N oi F w Post)
  (h : ∀ F' w', Post F' w' → S w' ∧ RHL P f N ops S L fuel (listed.setIfInBounds i true) k F' w' R) : RCL P f N ops S L fuel listed k i F w R := by
 intro a ha
 unfold wpOp
 rw [hi]
 simp only [Region.wanted, hg, if_true]
 exact .inl (hw a ha _ _ fun F' a' w' hp ha' => ⟨.inr (h F' w' hp).1, (h F' w' hp).2 a' ha'⟩)
theorem rcl_last {oi : Oper} {Post : Fr → World → Prop} (hi : ops[L]? = some oi) (hg : oi.guard = none) (hw : OpW P N oi F w Post)
  (h : ∀ F' w', Post F' w' → RHL P f N ops S L fuel (listed.setIfInBounds L true) k F' w' R) : RCL P f N ops S L fuel listed k L F w R := by
 intro a ha
 unfold wpOp
 rw [hi]
 have hwt : Region.wanted oi (yielded ops a.tmps) = true := by simp [Region.wanted, hg]
 show (if Region.wanted oi (yielded ops a.tmps) = true then _ else _)
 rw [if_pos hwt]
 exact .inl (hw a ha _ _ fun F' a' w' hp ha' => ⟨.inl rfl, h F' w' hp a' ha'⟩)
theorem late_all {rs : List Nat} {a : Act} (hr : Region.ready .any ops listed = rs) (hne : rs ≠ [])
  (h : ∀ i ∈ rs, wpOp P ops Q i (fun a' w' => (i = L ∨ S w') ∧ wpLate P ops Q S L fuel (listed.setIfInBounds i true) a' w') a w) : wpLate P ops Q S L (fuel + 1) listed a w :=
 ⟨fun h0 => absurd (hr ▸ h0) hne, hr ▸ h⟩
theorem rhl_any1 (i : Nat) (hr : Region.ready .any ops listed = [i]) (h : RCL P f N ops S L fuel listed k i F w R) : RHL P f N ops S L (fuel + 1) listed k F w R := by
 intro a ha
 refine late_all hr (by simp) fun j hj => ?_
 obtain rfl : j = i := by simpa using hj
 exact h a ha
theorem rhl_any2 (i j : Nat) (hr : Region.ready .any ops listed = [i, j]) (h1 : RCL P f N ops S L fuel listed k i F w R) (h2 : RCL P f N ops S L fuel listed k j F w R) : RHL P f N ops S L (fuel + 1) listed k F w R := by
 intro a ha
 refine late_all hr (by simp) fun q hq => ?_
 rcases List.mem_cons.1 hq with rfl | hq
 ·exact h1 a ha
 ·obtain rfl : q = j := by simpa using hq
  exact h2 a ha
end
end Go.Proofs.YtlldeifbfpmbaaaGreat
