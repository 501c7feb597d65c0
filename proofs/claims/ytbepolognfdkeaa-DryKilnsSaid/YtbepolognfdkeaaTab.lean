import Derived.Test.YtbepolognfdkeaaHeld
import Derived.Deep.Quiet
import Derived.Test.YtbepolognfdkeaaEff
namespace Go.Proofs.Ytbepolognfdkeaa
open Go.RowKit
section
variable {P : Program} {f N : Nat} {k : List Item} {F : Fr} {w : World} {R : Ending → World → Prop} {ops : Array Oper} {o : Oper} {rest : List Oper} {C : World → Prop}
theorem holds_at {a : Act} (ha : Holds N F a) {g : Nat} {v : Value} (h : Fr.get F g = some v) : Holds N ((g, v) :: F) a := ha.weaken fun i u hu => by
 unfold Fr.get at hu
 by_cases e' : i = g
 ·subst e'; simp at hu; rw [← hu]; exact h
 ·have : Nat.beq i g = false := nbeq e'
  simpa [this] using hu
theorem rl_no (g : Nat) {b : Bool} {l : List Oper} (hb : Fr.get F g = some (.bool b)) (h : b = false) (hf : RL P f N ops l k ((g, .bool false) :: F) w R) : RL P f N ops l k F w R :=
 rl_split g hb (fun e => by rw [h] at e; cases e) (fun _ => hf)
theorem rl_noD (g : Nat) {p : Prop} {dp : Decidable p} {l : List Oper} (hb : Fr.get F g = some (.bool (decide p))) (h : ¬ p) (hf : RL P f N ops l k ((g, .bool false) :: F) w R) : RL P f N ops l k F w R :=
 rl_split_dec g hb (fun e => absurd e h) (fun _ => hf)
theorem rl_yesD (g : Nat) {p : Prop} {dp : Decidable p} {l : List Oper} (hb : Fr.get F g = some (.bool (decide p))) (h : p) (hf : RL P f N ops l k ((g, .bool true) :: F) w R) : RL P f N ops l k F w R :=
 rl_split_dec g hb (fun _ => hf) (fun e => absurd h e)
theorem rc_gop {S : World → Prop} {fuel i j g : Nat} {b : Bool} {listed : Array Bool} {oi : Oper} {Post : Fr → World → Prop} (hi : ops[i]? = some oi) (hg : oi.guard = some (j, b)) (hj : (ops[j]?).bind (·.dst) = some g) (hb : Fr.get F g = some (.bool b)) (hw : OpW P N oi F w Post)
  (h : ∀ F' w', Post F' w' → S w' ∧ RH P f N ops S fuel (listed.setIfInBounds i true) k F' w' R) : RC P f N ops S fuel listed k i F w R := by
 intro a ha
 unfold wpOp
 rw [hi]
 simp only [Region.wanted, hg, yielded_of ha hj hb]
 rw [if_pos (by simp)]
 exact .inl (hw a ha _ _ fun F' a' w' hp ha' => ⟨(h F' w' hp).1, (h F' w' hp).2 a' ha'⟩)
end
section
variable {P : Program} {f N : Nat} {ops : Array Oper} {k : List Item} {F : Fr} {w : World} {R : Ending → World → Prop} {S : World → Prop} {fuel : Nat} {listed : Array Bool}
theorem rh_yes (g : Nat) {b : Bool} (hb : Fr.get F g = some (.bool b)) (h : b = true) (hf : RH P f N ops S fuel listed k ((g, .bool true) :: F) w R) : RH P f N ops S fuel listed k F w R :=
 fun a ha => hf a (holds_at ha (by rw [hb, h]))
theorem rh_yesD (g : Nat) {p : Prop} {dp : Decidable p} (hb : Fr.get F g = some (.bool (decide p))) (h : p) (hf : RH P f N ops S fuel listed k ((g, .bool true) :: F) w R) : RH P f N ops S fuel listed k F w R :=
 rh_yes g hb (decide_eq_true h) hf
end
end Go.Proofs.Ytbepolognfdkeaa
namespace Go.Proofs.Ytbepolognfdkeaa
open Go.RowKit
theorem IAt.mono {B B' : Nat} {w : World} {ao : Option Addr} {n : Nat} {G : Int → Value} (h : IAt B w ao n G) (hB : B ≤ B') : IAt B' w ao n G := RAt.mono h hB
theorem IAt.below {B : Nat} {w w' : World} {ao : Option Addr} {n : Nat} {G : Int → Value} (h : IAt B w ao n G) (hb : Below B w w') : IAt B w' ao n G := RAt.below h hb
theorem IAt.congr {B : Nat} {w : World} {ao : Option Addr} {n : Nat} {G G' : Int → Value} (h : IAt B w ao n G) (e : ∀ i : Int, 0 ≤ i → i < n → G i = G' i) : IAt B w ao n G' := RAt.congr h fun i hi => e i (by omega) (by omega)
def ITab (B : Nat) (w : World) (ao : Option Addr) (n : Nat) (L : Int → Nat) (F : Int → Int → Value) : Prop :=
 ∃ (A : Int → Option Addr) (C : Int → Nat), IAt B w ao n (fun r => .slice (A r) (L r) (C r)) ∧ ∀ r : Int, 0 ≤ r → r < n → IAt B w (A r) (L r) (F r)
theorem ITab.below {B : Nat} {w w' : World} {ao : Option Addr} {n : Nat} {L : Int → Nat} {F : Int → Int → Value} (h : ITab B w ao n L F) (hb : Below B w w') : ITab B w' ao n L F := by
 obtain ⟨A, C, h1, h2⟩ := h
 exact ⟨A, C, h1.below hb, fun r h0 hr => (h2 r h0 hr).below hb⟩
theorem ITab.mono {B B' : Nat} {w : World} {ao : Option Addr} {n : Nat} {L : Int → Nat} {F : Int → Int → Value} (h : ITab B w ao n L F) (hB : B ≤ B') : ITab B' w ao n L F := by
 obtain ⟨A, C, h1, h2⟩ := h
 exact ⟨A, C, h1.mono hB, fun r h0 hr => (h2 r h0 hr).mono hB⟩
theorem ITab.later {w w' : World} {ao : Option Addr} {n : Nat} {L : Int → Nat} {F : Int → Int → Value} (h : ITab w.heap.size w ao n L F) (hb : Below w.heap.size w w') : ITab w'.heap.size w' ao n L F := (h.below hb).mono hb.size
theorem ITab.open {B : Nat} {w : World} {ao : Option Addr} {n : Nat} {L : Int → Nat} {F : Int → Int → Value} (h : ITab B w ao n L F) :
  ∃ (A : Int → Option Addr) (C RB RO : Int → Nat) (gb go : Nat), (0 < n → ao = some ⟨gb, go, none⟩) ∧ (∀ w', Below B w w' → ∀ r : Int, 0 ≤ r → r < n → w'.cell? ⟨gb, go + r.toNat, none⟩ = some (.slice (A r) (L r) (C r))) ∧
   (∀ r : Int, 0 ≤ r → r < n → 0 < L r → A r = some ⟨RB r, RO r, none⟩) ∧ (∀ w', Below B w w' → ∀ r : Int, 0 ≤ r → r < n → ∀ j : Int, 0 ≤ j → j < L r → w'.cell? ⟨RB r, RO r + j.toNat, none⟩ = some (F r j)) ∧
   ∀ r : Int, 0 ≤ r → r < n → IAt B w (A r) (L r) (F r) := by
 obtain ⟨A, C, h1, h2⟩ := h
 obtain ⟨gb, go, hga, hrow⟩ := h1.open
 have hx : ∀ r : Int, ∃ p : Nat × Nat, 0 ≤ r → r < n → (0 < L r → A r = some ⟨p.1, p.2, none⟩) ∧ ∀ w', Below B w w' → ∀ j : Int, 0 ≤ j → j < L r → w'.cell? ⟨p.1, p.2 + j.toNat, none⟩ = some (F r j) := by
  intro r
  by_cases hr : 0 ≤ r ∧ r < n
  ·obtain ⟨b, o, e1, e2⟩ := (h2 r hr.1 hr.2).open
   exact ⟨(b, o), fun _ _ => ⟨e1, e2⟩⟩
  ·exact ⟨(0, 0), fun a b => absurd ⟨a, b⟩ hr⟩
 exact ⟨A, C, fun r => (Classical.choose (hx r)).1, fun r => (Classical.choose (hx r)).2, gb, go, hga, hrow, fun r h0 hr => (Classical.choose_spec (hx r) h0 hr).1,
  fun w' hb r h0 hr => (Classical.choose_spec (hx r) h0 hr).2 w' hb, h2⟩
def OTab (v : Value) (T1 T2 : TypeId) (n : Nat) (L : Int → Nat) (F : Int → Int → Value) (H : List (Option Blk)) : Prop :=
 ∃ (c : Option Blk) (rv : Int → Value) (ch : Nat → Option Blk), H = c :: (List.range n).map ch ∧ IRow v T1 n rv c ∧ ∀ r : Nat, r < n → IRow (rv r) T2 (L r) (F r) (ch r)
end Go.Proofs.Ytbepolognfdkeaa
