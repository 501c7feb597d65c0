import Derived.Test.YtlldeifbfpmbaaaFnF
set_option maxRecDepth 100000
namespace Go.Proofs.Ytlldeifbfpmbaaa
open Go.RowKit Go.Proofs Go.MapKept
theorem rk_is {f : Int → Int} {n : Nat} {x r : Int} (r0 : 0 ≤ r) (r1 : r < n) (e : f r = x) (h : ∀ j : Int, 0 ≤ j → j < r → f j ≠ x) : rk f n x = r := by
 have hr := rk_rng f x n
 rcases Int.lt_trichotomy (rk f n x) r with c | c | c
 ·exact absurd (rk_at (by omega)) (h _ hr.1 c)
 ·exact c
 ·exact absurd e (rk_ne r0 c)
theorem rk_none {f : Int → Int} {n : Nat} {x : Int} (h : ∀ j : Int, 0 ≤ j → j < n → f j ≠ x) : rk f n x = n := by
 have hr := rk_rng f x n
 refine Classical.byContradiction fun hn => ?_
 exact absurd (rk_at (by omega)) (h _ hr.1 (by omega))
theorem wrk_lik (n : Nat) (L : Int → Nat) (E : Int → Int → Int) (i k : Int) : (wishOf n L E).rk i k < (wishOf n L E).l i ∧ lik5 L E i k = (wishOf n L E).rk i k ∨ (wishOf n L E).rk i k = (wishOf n L E).l i ∧ lik5 L E i k = L i + 1 := by
 have ha := rk_rng (E i) i (L i)
 have hk := rk_rng (E i) k (L i)
 obtain ⟨a, hae⟩ : ∃ a, a = rk (E i) (L i) i := ⟨_, rfl⟩
 have hl : (wishOf n L E).l i = a.toNat + 1 := by rw [hae]; rfl
 have hrk : (wishOf n L E).rk i k = rk (fun j => if j < a then E i j else i) (a.toNat + 1) k := by rw [hae]; rfl
 rw [hl, hrk]
 unfold lik5
 rw [← hae] at ha ⊢
 by_cases c : k = i
 ·left
  rw [if_pos c, rk_is (r := a) ha.1 (by omega) (by rw [if_neg (by omega), c]) fun j j0 j1 => by rw [if_pos j1, c]; exact rk_ne (n := L i) j0 (by omega)]
  exact ⟨by omega, rfl⟩
 ·rw [if_neg c]
  by_cases c2 : rk (E i) (L i) k < a
  ·left
   rw [if_pos c2, rk_is (r := rk (E i) (L i) k) hk.1 (by omega) (by rw [if_pos c2]; exact rk_at (by omega)) fun j j0 j1 => by rw [if_pos (by omega)]; exact rk_ne j0 j1]
   exact ⟨by omega, rfl⟩
  ·right
   rw [if_neg c2, rk_none fun j j0 j1 => ?_]
   ·exact ⟨rfl, rfl⟩
   ·by_cases c3 : j < a
    ·rw [if_pos c3]; exact rk_ne (n := L i) j0 (by omega)
    ·rw [if_neg c3]; exact fun e => c e.symm
theorem wl_le (n : Nat) (L : Int → Nat) (E : Int → Int → Int) (i : Int) : (wishOf n L E).l i ≤ L i + 1 := by
 have ha := rk_rng (E i) i (L i)
 show (rk (E i) (L i) i).toNat + 1 ≤ L i + 1
 omega
theorem lik_lt {n : Nat} {L : Int → Nat} {E : Int → Int → Int} {i k j : Int} : lik5 L E i k < lik5 L E i j ↔ (wishOf n L E).rk i k < (wishOf n L E).rk i j := by
 have h1 := wrk_lik n L E i k
 have h2 := wrk_lik n L E i j
 have h3 := wl_le n L E i
 omega
theorem lik_eq {n : Nat} {L : Int → Nat} {E : Int → Int → Int} {i k j : Int} : lik5 L E i k = lik5 L E i j ↔ (wishOf n L E).rk i k = (wishOf n L E).rk i j := by
 have h1 := @lik_lt n L E i k j
 have h2 := @lik_lt n L E i j k
 omega
theorem inL_lt {X : Int → Int} {n m : Nat} {k : Int} (hm : m ≤ n) : InL X m k ↔ rk X n k < m := by
 constructor
 ·rintro ⟨j, ⟨j0, j1⟩, e⟩
  exact Classical.byContradiction fun h => rk_ne (n := n) j0 (by omega) e
 ·intro h
  exact ⟨rk X n k, ⟨(rk_rng X k n).1, h⟩, rk_at (by omega)⟩
def fnL (W : Wish) (l : Int → Int) (x : Int) : Nat := if W.rk x (l x) < W.l x then (W.rk x (l x)).toNat + 1 else W.n
def fnE (W : Wish) (l : Int → Int) (x k : Int) : Int := if W.rk x (l x) < W.l x then W.e x k else k
def mrL (W : Wish) (l : Int → Int) (x : Int) : Nat := (W.rk x (l x)).toNat
theorem fn_in {W : Wish} {l : Int → Int} {x k : Int} (k0 : 0 ≤ k) (k1 : k < W.n) : InL (fnE W l x) (fnL W l x) k ↔ W.rk x k ≤ W.rk x (l x) := by
 have h1 := rk_rng (W.e x) (l x) (W.l x)
 have h2 := rk_rng (W.e x) k (W.l x)
 change 0 ≤ W.rk x (l x) ∧ W.rk x (l x) ≤ W.l x at h1
 change 0 ≤ W.rk x k ∧ W.rk x k ≤ W.l x at h2
 unfold fnL
 by_cases c : W.rk x (l x) < W.l x
 ·rw [if_pos c, show fnE W l x = W.e x from funext fun j => if_pos c, inL_lt (n := W.l x) (by omega)]
  show W.rk x k < _ ↔ _
  omega
 ·rw [if_neg c, show fnE W l x = id from funext fun j => if_neg c]
  exact ⟨fun _ => by omega, fun _ => ⟨k, ⟨k0, k1⟩, rfl⟩⟩
theorem mr_in {W : Wish} {l : Int → Int} {x k : Int} : InL (W.e x) (mrL W l x) k ↔ W.rk x k < W.rk x (l x) := by
 have h1 := rk_rng (W.e x) (l x) (W.l x)
 change 0 ≤ W.rk x (l x) ∧ W.rk x (l x) ≤ W.l x at h1
 unfold mrL
 rw [inL_lt (n := W.l x) (by omega)]
 show W.rk x k < _ ↔ _
 omega
theorem opD_op5 {n mn : Nat} {M : Int → Int} {L : Int → Nat} {E : Int → Int → Int} {l : Int → Int} {W : Wish} (hW : W = wishOf n L E) (hM : Memb n mn M) {who x k : Int} (hx : InI M mn x) : opD M mn who (fnL W l) (mrL W l) (fnE W l) W.e x k ↔ op5 (lik5 L E) l (InI M mn) who x k := by
 unfold opD op5
 by_cases hk : InI M mn k
 ·have hkr := hM.in_rng hk
  have hn : W.n = n := by rw [hW]; rfl
  have h1 := @lik_lt n L E x k (l x)
  have h2 := @lik_eq n L E x k (l x)
  rw [← hW] at h1 h2
  have h3 := fn_in (l := l) (x := x) hkr.1 (by rw [hn]; exact hkr.2)
  have h4 := mr_in (W := W) (l := l) (x := x) (k := k)
  by_cases e : x = who
  ·rw [if_pos e, h4]
   exact ⟨fun h => ⟨hx, hk, .inl (h1.2 h.2)⟩, fun h => ⟨hk, h.2.2.elim h1.1 fun h => absurd e h.1⟩⟩
  ·rw [if_neg e, h3]
   constructor
   ·rintro ⟨_, h⟩
    refine ⟨hx, hk, ?_⟩
    rcases Int.lt_or_eq_of_le h with h | h
    ·exact .inl (h1.2 h)
    ·exact .inr ⟨e, h2.2 h⟩
   ·rintro ⟨_, _, h | h⟩
    ·exact ⟨hk, Int.le_of_lt (h1.1 h)⟩
    ·exact ⟨hk, Int.le_of_eq (h2.1 h.2)⟩
 ·exact ⟨fun h => absurd h.1 hk, fun h => absurd h.2.1 hk⟩
theorem deal_coal {n mn : Nat} {M : Int → Int} {L : Int → Nat} {E : Int → Int → Int} {l : Int → Int} {W : Wish} (hW : W = wishOf n L E) (hM : Memb n mn M) : (∃ who : Int, InI M mn who ∧ CoalG (opD M mn who (fnL W l) (mrL W l) (fnE W l) W.e) (InI M mn)) ↔ Coal (lik5 L E) l (InI M mn) := by
 constructor
 ·rintro ⟨w, hw, σ, h1, h2⟩
  exact ⟨w, hw, σ, fun x hx => (opD_op5 hW hM hx).1 (h1 x hx), h2⟩
 ·rintro ⟨w, hw, σ, h1, h2⟩
  exact ⟨w, hw, σ, fun x hx => (opD_op5 hW hM hx).2 (h1 x hx), h2⟩
def RdR (T : List (Option Blk)) (v : Value) (n : Nat) (E : Int → Int) : Prop := ∃ (ao : Option Addr) (c : Nat), v = .slice ao n c ∧ n ≤ c ∧ ∀ (B : Nat) (w0 w : World), Own B w0 w T → IAt w.heap.size w ao n (fun j => iv (E j))
theorem RdR.cons {T : List (Option Blk)} {v : Value} {n : Nat} {E : Int → Int} (h : RdR T v n E) (c : Option Blk) : RdR (c :: T) v n E := by
 obtain ⟨ao, cp, h1, h2, h3⟩ := h
 exact ⟨ao, cp, h1, h2, fun B w0 w hO => h3 B w0 w hO.tail⟩
theorem RdR.of {T : List (Option Blk)} {ao : Option Addr} {cp : Nat} {U : TypeId} {n m : Nat} {E F : Int → Int} {c : Option Blk} (h : IRow (.slice ao n cp) U n (fun j => iv (E j)) c) (k : Nat) (hk : T[k]? = some c) (hm : m ≤ n) (e : ∀ j : Int, 0 ≤ j → j < m → F j = E j) : RdR T (.slice ao m cp) m F :=
 ⟨ao, cp, rfl, Nat.le_trans hm h.capF, fun B w0 w hO => ((h.reads hO k hk).take hm).congr fun j j0 j1 => congrArg iv (e j j0 j1).symm⟩
theorem RdR.rtab {T : List (Option Blk)} {tb n : Nat} {U : TypeId} {rv : Int → Value} {L : Int → Nat} {E : Int → Int → Int} {B : Nat} {w0 w : World} {H : List (Option Blk)} (hr : ∀ r : Int, 0 ≤ r → r < n → RdR T (rv r) (L r) (E r)) (k : Nat) (hO : Own B w0 w H) (hk : H[k]? = some (some (vch tb U n rv))) (hT : Own B w0 w T) : RTab w.heap.size w (some ⟨tb, 0, none⟩) n L E := by
 have hv : ∀ r : Int, ∃ p : Option Addr × Nat, 0 ≤ r → r < n → rv r = .slice p.1 (L r) p.2 ∧ L r ≤ p.2 ∧ IAt w.heap.size w p.1 (L r) (fun j => iv (E r j)) := fun r => by
  by_cases c : 0 ≤ r ∧ r < n
  ·obtain ⟨ao, cp, h1, h2, h3⟩ := hr r c.1 c.2
   exact ⟨(ao, cp), fun _ _ => ⟨h1, h2, h3 B w0 w hT⟩⟩
  ·exact ⟨(none, 0), fun a b => absurd ⟨a, b⟩ c⟩
 refine ⟨fun r => (Classical.choose (hv r)).1, fun r => (Classical.choose (hv r)).2, ?_, fun r r0 r1 => ?_, fun r r0 r1 => ?_⟩
 ·exact (hO.readsI k hk).congr fun r r0 r1 => (Classical.choose_spec (hv r) r0 r1).1
 ·exact (Classical.choose_spec (hv r) r0 r1).2.1
 ·exact (Classical.choose_spec (hv r) r0 r1).2.2
theorem index5_w (ao : Option Addr) (n c : Nat) (X : Int → Int) (v r : Int) (w : World) (hn : n ≤ 1000000) (hr : r = if rk X n v < n then rk X n v else -1) (h : IAt w.heap.size w ao n (fun i => iv (X i))) :
  Calls Try.prog 58 #[.slice ao n c, iv v] w fun e w' => e = .returned (iv r) ∧ Below w.heap.size w w' := by
 rw [hr]
 exact index5_any ao n c X v w hn h
end Go.Proofs.Ytlldeifbfpmbaaa
