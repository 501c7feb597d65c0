import Derived.Test.YtbcjfjldmfljgaaGreatHlE
import Derived.Test.YtbcjfjldmfljgaaGreatFdA
import Derived.Test.YtbcjfjldmfljgaaGreatGaK
set_option maxRecDepth 100000
namespace Go.Proofs.YtbcjfjldmfljgaaGreat
open Go.RowKit Go.Proofs Go.MapKept Hal
theorem ov_nonil {P : Program} {N : Nat} {o : Oper} {F : Fr} {w : World} {T U E : TypeId} {x : Operand} {ao : Option Addr} {n c : Nat} (ho : o.op = .binOp .neq T x (.const (.slice none 0 0)) U) (hT : P.underlying T = some (.slice E)) (hx : Fr.ev F x = some (.slice ao n c)) : OpV P N o F w (.bool (!ao.isNone)) := by
 intro a ha
 unfold execOp
 have h1 := run_equal_slice_nil (P := P) (w := w) T E ao n c hT
 have hn : a.eval (.const (.slice none 0 0)) = .slice none 0 0 := rfl
 simp only [ho, ha.ev hx, hn, Sem.run_bind, eqGuard]
 simp [binOp, h1, Result.andThen]
noncomputable def prt (h : Hal) (S : Int → Prop) : Hal := ⟨h.nb, h.nl, fun i j => @ite _ (S i) (Classical.propDecidable _) (h.V i j) 0⟩
theorem prt_in {h : Hal} {S : Int → Prop} {i : Int} (hi : S i) (j : Int) : (prt h S).V i j = h.V i j := if_pos hi
theorem prt_out {h : Hal} {S : Int → Prop} {i : Int} (hi : ¬ S i) (j : Int) : (prt h S).V i j = 0 := if_neg hi
theorem prt_gn {h : Hal} {S : Int → Prop} {p : Int → Int} {i : Int} (hi : S i) : (prt h S).gn p i = h.gn p i := by
 unfold Hal.gn
 have e : (prt h S).V i = h.V i := funext fun j => prt_in hi j
 rw [e]; rfl
theorem prt_wn {h : Hal} {S : Int → Prop} {p : Int → Int} {i j : Int} (hi : S i) : (prt h S).wn p i j ↔ h.wn p i j := by
 unfold Hal.wn
 rw [prt_gn hi, prt_in hi]
theorem prt_no {h : Hal} {S : Int → Prop} {p : Int → Int} (hp : ∀ j : Int, 0 ≤ j → j < h.nl → 0 ≤ p j) {i : Int} (hg : 0 < (prt h S).gn p i) : S i := Classical.byContradiction fun hn => by
 have : (prt h S).gn p i = 0 := gnN_uniq (Int.le_refl _) (fun j j0 j1 => by
  have := hp j j0 j1
  rw [prt_out hn]; omega) (.inl rfl)
 omega
structure Gvn (h : Hal) (p : Int → Int) (B L : Int → Prop) (m : Int → Int) : Prop where
 w : ∀ j : Int, L j → B (m j) ∧ h.wn p (m j) j
 i : ∀ j k : Int, L j → L k → m j = m k → j = k
theorem rise_inj {n : Nat} {X : Int → Int} (hX : Rise n X) {a b : Int} (a0 : 0 ≤ a) (a1 : a < n) (b0 : 0 ≤ b) (b1 : b < n) (e : X a = X b) : a = b := by
 rcases Int.lt_trichotomy a b with d | d | d
 ·have := hX.inc a b a0 d b1; omega
 ·exact d
 ·have := hX.inc b a b0 d a1; omega
theorem gvn_of {h : Hal} {p : Int → Int} {bn ln : Nat} {Bs Ls : Int → Int} (hC : CrF h p bn Bs ln Ls) (hN : NoC (prt h fun i => InR Bs bn i ∧ i ≠ Bs 0) p) : ∃ m, Gvn h p (InR Bs bn) (InR Ls ln) m := by
 obtain ⟨of1, hm⟩ := hN
 have hn := hC.n
 have hS : ∀ q : Int, 0 ≤ q → q < bn → q ≠ 0 → InR Bs bn (Bs q) ∧ Bs q ≠ Bs 0 := fun q q0 q1 hq => ⟨⟨q, ⟨q0, q1⟩, rfl⟩, fun e => hq (rise_inj hC.b q0 q1 (Int.le_refl _) (by omega) e)⟩
 have hex : ∀ x : Int, ∃ b : Int, (InR Bs bn x ∧ x ≠ Bs 0) → (0 ≤ b ∧ b < h.nl) ∧ of1 b = x := fun x => by
  by_cases c : InR Bs bn x ∧ x ≠ Bs 0
  ·have hb := hC.c.br x c.1
   obtain ⟨b, hb2, e⟩ := hm.cov x hb.1.1 ⟨hb.1, by rw [prt_gn c]; exact hb.2⟩
   exact ⟨b, fun _ => ⟨hb2, e⟩⟩
  ·exact ⟨0, fun q => absurd q c⟩
 have hw : ∀ x b : Int, (InR Bs bn x ∧ x ≠ Bs 0) → 0 ≤ b → b < h.nl → of1 b = x → h.wn p x b := fun x b c b0 b1 e => by
  have hb := hC.c.br x c.1
  have q := (hm.ok b b0 b1 (by omega)).2
  rw [e] at q
  exact (prt_wn c).1 q
 have hall := crowd_all (σ := fun x => Classical.choose (hex x)) hC.b hC.l hn (x := 0) (Int.le_refl _) (by omega) (fun q q0 q1 hq => by
  have c := hS q q0 q1 hq
  obtain ⟨r1, r2⟩ := Classical.choose_spec (hex (Bs q)) c
  exact hC.c.wl (Bs q) _ c.1 r1.1 r1.2 (hw _ _ c r1.1 r1.2 r2)) (fun q r q0 q1 r0 r1 hq hr e => by
  have c := (Classical.choose_spec (hex (Bs q)) (hS q q0 q1 hq)).2
  have d := (Classical.choose_spec (hex (Bs r)) (hS r r0 r1 hr)).2
  have e' : Classical.choose (hex (Bs q)) = Classical.choose (hex (Bs r)) := e
  rw [e'] at c
  exact rise_inj hC.b q0 q1 r0 r1 (c.symm.trans d))
 have hl : ∀ j : Int, InR Ls ln j → (InR Bs bn (of1 j) ∧ of1 j ≠ Bs 0) ∧ 0 ≤ of1 j := fun j ⟨k, hk, e⟩ => by
  obtain ⟨q, hq, hne, eq⟩ := hall k hk.1 hk.2
  have c := hS q hq.1 hq.2 hne
  have d := (Classical.choose_spec (hex (Bs q)) c).2
  have e' : Classical.choose (hex (Bs q)) = Ls k := eq
  rw [e', e] at d
  rw [d]
  exact ⟨c, (hC.c.br _ c.1).1.1⟩
 refine ⟨of1, ⟨fun j hj => ?_, fun j k hj hk e => ?_⟩⟩
 ·have r := hC.c.lr j hj
  have q := hl j hj
  exact ⟨q.1.1, hw _ j q.1 r.1 r.2 rfl⟩
 ·have rj := hC.c.lr j hj
  have rk := hC.c.lr k hk
  exact hm.inj j k rj.1 rj.2 rk.1 rk.2 (hl j hj).2 e
theorem crf_prt {h : Hal} {p : Int → Int} (hp : ∀ j : Int, 0 ≤ j → j < h.nl → 0 ≤ p j) {bn : Nat} {Bs : Int → Int} {x : Int} (x0 : 0 ≤ x) (x1 : x < bn) {bn' ln' : Nat} {Bs' Ls' : Int → Int} (hC : CrF (prt h fun i => InR Bs bn i ∧ i ≠ Bs x) p bn' Bs' ln' Ls') : CrF h p bn' Bs' ln' Ls' ∧ bn' < bn := by
 have hin : ∀ i : Int, InR Bs' bn' i → InR Bs bn i ∧ i ≠ Bs x := fun i hi => prt_no (h := h) hp (hC.c.br i hi).2
 refine ⟨⟨hC.b, hC.l, hC.n, ⟨fun i hi => ⟨(hC.c.br i hi).1, by have := (hC.c.br i hi).2; rw [prt_gn (hin i hi)] at this; exact this⟩, hC.c.lr, fun i j hi j0 j1 hw => hC.c.wl i j hi j0 j1 ((prt_wn (hin i hi)).2 hw)⟩⟩, ?_⟩
 have hex : ∀ q : Int, ∃ r : Int, 0 ≤ q → q < ((bn' + 1 : Nat) : Int) → (0 ≤ r ∧ r < bn) ∧ (q < bn' → Bs r = Bs' q) ∧ (q = bn' → r = x) := fun q => by
  by_cases c : 0 ≤ q ∧ q < bn'
  ·obtain ⟨r, hr, e⟩ := (hin (Bs' q) ⟨q, c, rfl⟩).1
   exact ⟨r, fun _ _ => ⟨hr, fun _ => e, fun h => by omega⟩⟩
  ·exact ⟨x, fun _ _ => ⟨⟨x0, x1⟩, fun h => by omega, fun _ => rfl⟩⟩
 have := pigeonG (n := bn' + 1) (m := bn) (e := fun q => Classical.choose (hex q)) (fun q q0 q1 => (Classical.choose_spec (hex q) q0 q1).1) (fun a b a0 a1 b0 b1 e => by
  obtain ⟨_, ha2, ha3⟩ := Classical.choose_spec (hex a) a0 a1
  obtain ⟨_, hb2, hb3⟩ := Classical.choose_spec (hex b) b0 b1
  have e' : Classical.choose (hex a) = Classical.choose (hex b) := e
  by_cases ca : a < bn' <;> by_cases cb : b < bn'
  ·have q1 := ha2 ca
   have q2 := hb2 cb
   rw [e'] at q1
   exact rise_inj hC.b a0 ca b0 cb (q1.symm.trans q2)
  ·have q1 := ha2 ca
   rw [e', hb3 (by omega)] at q1
   exact absurd q1.symm (hin (Bs' a) ⟨a, ⟨a0, ca⟩, rfl⟩).2
  ·have q1 := hb2 cb
   rw [← e', ha3 (by omega)] at q1
   exact absurd q1.symm (hin (Bs' b) ⟨b, ⟨b0, cb⟩, rfl⟩).2
  ·omega)
 omega
theorem inR_rk {X : Int → Int} {n : Nat} {x : Int} : rk X n x < n ↔ InR X n x := by
 constructor
 ·intro h; exact ⟨rk X n x, ⟨(rk_rng X x n).1, h⟩, rk_at h⟩
 ·rintro ⟨q, hq, e⟩
  exact Classical.byContradiction fun hn => rk_ne (n := n) hq.1 (by have := (rk_rng X x n).2; omega) e
end Go.Proofs.YtbcjfjldmfljgaaGreat
set_option maxRecDepth 100000
namespace Go.Proofs.YtbcjfjldmfljgaaGreat
def lex (f : Int → Int) (a b : Int) : Prop := f a < f b ∨ (f a = f b ∧ a < b)
theorem lex_irr {f : Int → Int} {a : Int} (h1 : lex f a a) : False := by unfold lex at *; omega
def SameV (N : Nat) (g Y : Int → Int) : Prop := ∀ v : Int, (∃ a : Int, (0 ≤ a ∧ a < N) ∧ g a = v) ↔ ∃ a : Int, (0 ≤ a ∧ a < N) ∧ Y a = v
structure SrtS (f Y : Int → Int) (N : Nat) (g : Int → Int) (i : Int) : Prop where
 same : SameV N g Y
 low : ∀ a b : Int, 0 ≤ a → a < i → i ≤ b → b < N → g a < g b
 rest : ∀ a : Int, i ≤ a → a < N → g a = Y a
 srt : ∀ a b : Int, 0 ≤ a → a < b → b < i → lex f (g a) (g b)
structure InsS (f Y : Int → Int) (N : Nat) (g : Int → Int) (i j : Int) : Prop where
 rng : 0 ≤ j ∧ j ≤ i ∧ i < N
 same : SameV N g Y
 low : ∀ a b : Int, 0 ≤ a → a ≤ i → i < b → b < N → g a < g b
 rest : ∀ a : Int, i < a → a < N → g a = Y a
 vlt : ∀ a : Int, 0 ≤ a → a ≤ i → a ≠ j → g a < g j
 srt : ∀ a b : Int, 0 ≤ a → a < b → b ≤ i → a ≠ j → b ≠ j → lex f (g a) (g b)
 right : ∀ b : Int, j < b → b ≤ i → f (g j) < f (g b)
section
variable {f Y g : Int → Int} {N : Nat} {i j : Int}
theorem SrtS.init (hg : ∀ a : Int, 0 ≤ a → a < N → g a = Y a) (hY : ∀ a b : Int, 0 ≤ a → a < b → b < N → Y a < Y b) : SrtS f Y N g 1 := by
 refine ⟨fun v => ⟨fun ⟨a, ha, e⟩ => ⟨a, ha, by rw [← hg a ha.1 ha.2]; exact e⟩, fun ⟨a, ha, e⟩ => ⟨a, ha, by rw [hg a ha.1 ha.2]; exact e⟩⟩, fun a b a0 a1 b0 b1 => ?_, fun a a0 a1 => hg a (by omega) a1, fun a b a0 ab b1 => by omega⟩
 rw [hg a a0 (by omega), hg b (by omega) b1]
 exact hY a b a0 (by omega) b1
theorem SrtS.ins (h : SrtS f Y N g i) (hY : ∀ a b : Int, 0 ≤ a → a < b → b < N → Y a < Y b) (i0 : 0 ≤ i) (i1 : i < N) : InsS f Y N g i i := by
 refine ⟨by omega, h.same, fun a b a0 a1 b0 b1 => ?_, fun a a0 a1 => h.rest a (by omega) a1, fun a a0 a1 hne => h.low a i a0 (by omega) (Int.le_refl _) i1, fun a b a0 ab b1 h1 h2 => h.srt a b a0 ab (by omega), fun b h1 h2 => by omega⟩
 by_cases c : a = i
 ·rw [h.rest a (by omega) (by omega), h.rest b (by omega) b1]; exact hY a b a0 (by omega) b1
 ·exact h.low a b a0 (by omega) (by omega) b1
theorem InsS.done (h : InsS f Y N g i j) (hd : ¬ (0 < j ∧ f (g j) < f (g (j - 1)))) : SrtS f Y N g (i + 1) := by
 have hr := h.rng
 refine ⟨h.same, fun a b a0 a1 b0 b1 => h.low a b a0 (by omega) (by omega) b1, fun a a0 a1 => h.rest a (by omega) a1, fun a b a0 ab b1 => ?_⟩
 by_cases ca : a = j
 ·rw [ca] at ab ⊢
  exact .inl (h.right b ab (by omega))
 ·by_cases cb : b = j
  ·rw [cb] at ab ⊢
   have hv := h.vlt a a0 (by omega) ca
   have hk : f (g (j - 1)) ≤ f (g j) := by omega
   by_cases c1 : a = j - 1
   ·rw [c1] at hv ⊢
    unfold lex; omega
   ·have hs := h.srt a (j - 1) a0 (by omega) (by omega) ca (by omega)
    unfold lex at hs ⊢; omega
  ·exact h.srt a b a0 ab (by omega) ca cb
theorem InsS.step (h : InsS f Y N g i j) (hj : 0 < j) (hd : f (g j) < f (g (j - 1))) : InsS f Y N (upd (upd g j (g (j - 1))) (j - 1) (g j)) i (j - 1) := by
 have hr := h.rng
 obtain ⟨q, hq⟩ : ∃ q, q = upd (upd g j (g (j - 1))) (j - 1) (g j) := ⟨_, rfl⟩
 have e1 : q (j - 1) = g j := by rw [hq, upd_same]
 have e2 : q j = g (j - 1) := by rw [hq, upd_ne _ _ (by omega), upd_same]
 have e3 : ∀ a : Int, a ≠ j → a ≠ j - 1 → q a = g a := fun a h1 h2 => by rw [hq, upd_ne _ _ h2, upd_ne _ _ h1]
 rw [← hq]
 refine ⟨by omega, fun v => ?_, fun a b a0 a1 b0 b1 => ?_, fun a a0 a1 => by rw [e3 a (by omega) (by omega)]; exact h.rest a a0 a1, fun a a0 a1 hne => ?_, fun a b a0 ab b1 h1 h2 => ?_, fun b h1 h2 => ?_⟩
 ·rw [← h.same v]
  constructor
  ·rintro ⟨a, ha, e⟩
   by_cases c1 : a = j
   ·exact ⟨j - 1, by omega, by rw [← e2, ← c1, e]⟩
   ·by_cases c2 : a = j - 1
    ·exact ⟨j, by omega, by rw [← e1, ← c2, e]⟩
    ·exact ⟨a, ha, by rw [← e3 a c1 c2, e]⟩
  ·rintro ⟨a, ha, e⟩
   by_cases c1 : a = j
   ·exact ⟨j - 1, by omega, by rw [e1, ← c1, e]⟩
   ·by_cases c2 : a = j - 1
    ·exact ⟨j, by omega, by rw [e2, ← c2, e]⟩
    ·exact ⟨a, ha, by rw [e3 a c1 c2, e]⟩
 ·rw [e3 b (by omega) (by omega)]
  by_cases c1 : a = j
  ·rw [c1, e2]; exact h.low (j - 1) b (by omega) (by omega) b0 b1
  ·by_cases c2 : a = j - 1
   ·rw [c2, e1]; exact h.low j b (by omega) (by omega) b0 b1
   ·rw [e3 a c1 c2]; exact h.low a b a0 a1 b0 b1
 ·rw [e1]
  by_cases c1 : a = j
  ·rw [c1, e2]; exact h.vlt (j - 1) (by omega) (by omega) (by omega)
  ·rw [e3 a c1 hne]; exact h.vlt a a0 a1 c1
 ·by_cases c1 : a = j
  ·rw [c1, e2, e3 b (by omega) h2]
   exact h.srt (j - 1) b (by omega) (by omega) b1 (by omega) (by omega)
  ·by_cases c2 : b = j
   ·rw [c2, e2, e3 a c1 h1]
    exact h.srt a (j - 1) a0 (by omega) (by omega) c1 (by omega)
   ·rw [e3 a c1 h1, e3 b c2 h2]
    exact h.srt a b a0 ab b1 c1 c2
 ·rw [e1]
  by_cases c1 : b = j
  ·rw [c1, e2]; exact hd
  ·rw [e3 b c1 (by omega)]; exact h.right b (by omega) h2
end
end Go.Proofs.YtbcjfjldmfljgaaGreat
