import Derived.Test.YtbepolognfdkeaaGaE
set_option maxRecDepth 100000
namespace Go.Proofs.Ytbepolognfdkeaa
namespace Net
def conn (G : Net) (u v m : Int) : Net :=
 ⟨G.nn, G.np + 1, upd (upd G.TO (2 * G.np) v) (2 * G.np + 1) u, upd (upd G.OL u (G.OL u + 1)) v (G.OL v + 1), upd (upd G.OE u (upd (G.OE u) (G.OL u) (2 * G.np))) v (upd (G.OE v) (G.OL v) (2 * G.np + 1)), upd G.CP G.np m⟩
def connL (G : Net) (L : Int → Int) (m : Int) : Int → Int := upd (upd L (2 * G.np) m) (2 * G.np + 1) 0
def empty (nn : Nat) : Net := ⟨nn, 0, fun _ => 0, fun _ => 0, fun _ _ => 0, fun _ => 0⟩
theorem Ok.empty {nn : Nat} (h : 2 ≤ nn) : (empty nn).Ok :=
 ⟨h, fun e e0 e1 => by have h2 : e < 2 * ((0 : Nat) : Int) := e1; omega, fun v k v0 v1 k0 k1 => by have h2 : k < ((0 : Nat) : Int) := k1; omega, fun e e0 e1 => by have h2 : e < 2 * ((0 : Nat) : Int) := e1; omega, fun j j0 j1 => by have h2 : j < ((0 : Nat) : Int) := j1; omega⟩
section
variable {G : Net} {u v m : Int}
theorem conn_to0 : (G.conn u v m).TO (2 * G.np) = v := by unfold conn; dsimp only; rw [upd_ne _ _ (by omega), upd_same]
theorem conn_to1 : (G.conn u v m).TO (2 * G.np + 1) = u := by unfold conn; dsimp only; rw [upd_same]
theorem conn_to {e : Int} (h : e < 2 * G.np) : (G.conn u v m).TO e = G.TO e := by unfold conn; dsimp only; rw [upd_ne _ _ (by omega), upd_ne _ _ (by omega)]
theorem conn_cp {j : Int} (h : j < G.np) : (G.conn u v m).CP j = G.CP j := by unfold conn; dsimp only; rw [upd_ne _ _ (by omega)]
theorem conn_cpn : (G.conn u v m).CP G.np = m := by unfold conn; dsimp only; rw [upd_same]
theorem conn_ol (hne : u ≠ v) (t : Int) : (G.conn u v m).OL t = if t = v then G.OL v + 1 else if t = u then G.OL u + 1 else G.OL t := by
 unfold conn; dsimp only
 by_cases a : t = v
 ·rw [a, upd_same, if_pos rfl]
 ·rw [upd_ne _ _ a, if_neg a]
  by_cases b : t = u
  ·rw [b, upd_same, if_pos rfl]
  ·rw [upd_ne _ _ b, if_neg b]
theorem conn_oe (hne : u ≠ v) (t k : Int) : (G.conn u v m).OE t k = if t = v then upd (G.OE v) (G.OL v) (2 * G.np + 1) k else if t = u then upd (G.OE u) (G.OL u) (2 * G.np) k else G.OE t k := by
 unfold conn; dsimp only
 by_cases a : t = v
 ·rw [a, upd_same, if_pos rfl]
 ·rw [upd_ne _ _ a, if_neg a]
  by_cases b : t = u
  ·rw [b, upd_same, if_pos rfl]
  ·rw [upd_ne _ _ b, if_neg b]
theorem Ok.conn (hG : G.Ok) (u0 : 0 ≤ u) (u1 : u < G.nn) (v0 : 0 ≤ v) (v1 : v < G.nn) (hne : u ≠ v) (m0 : 0 ≤ m) : (G.conn u v m).Ok := by
 have hnp : (((G.conn u v m).np : Nat) : Int) = G.np + 1 := by show ((G.np + 1 : Nat) : Int) = _; omega
 have hxa : x1 (2 * G.np) = 2 * G.np + 1 := by unfold x1; rw [if_pos (by omega)]
 have hxb : x1 (2 * G.np + 1) = 2 * G.np := by unfold x1; rw [if_neg (by omega)]; omega
 have hnew : ∀ t k : Int, 0 ≤ t → t < G.nn → 0 ≤ k → k < G.OL t → (0 ≤ G.OE t k ∧ G.OE t k < 2 * (G.conn u v m).np) ∧ (G.conn u v m).TO (x1 (G.OE t k)) = t := fun t k t0 t1 k0 k1 => by
  obtain ⟨h1, h2⟩ := hG.out t k t0 t1 k0 k1
  have hx := x1_rng h1.1 h1.2
  exact ⟨by rw [hnp]; omega, by rw [conn_to hx.2]; exact h2⟩
 refine ⟨hG.n2, fun e e0 e1 => ?_, fun t k t0 t1 k0 k1 => ?_, fun e e0 e1 => ?_, fun j j0 j1 => ?_⟩
 ·rw [hnp] at e1
  show 0 ≤ (G.conn u v m).TO e ∧ (G.conn u v m).TO e < G.nn
  by_cases a : e = 2 * G.np + 1
  ·rw [a, conn_to1]; exact ⟨u0, u1⟩
  ·by_cases b : e = 2 * G.np
   ·rw [b, conn_to0]; exact ⟨v0, v1⟩
   ·rw [conn_to (by omega)]; exact hG.to e e0 (by omega)
 ·rw [conn_oe hne]
  rw [conn_ol hne] at k1
  by_cases a : t = v
  ·rw [if_pos a] at k1 ⊢
   by_cases c : k = G.OL v
   ·rw [c, upd_same, hxb, conn_to0, a]
    exact ⟨by rw [hnp]; omega, rfl⟩
   ·rw [upd_ne _ _ c, a]; exact hnew v k v0 v1 k0 (by omega)
  ·rw [if_neg a] at k1 ⊢
   by_cases b : t = u
   ·rw [if_pos b] at k1 ⊢
    by_cases c : k = G.OL u
    ·rw [c, upd_same, hxa, conn_to1, b]
     exact ⟨by rw [hnp]; omega, rfl⟩
    ·rw [upd_ne _ _ c, b]; exact hnew u k u0 u1 k0 (by omega)
   ·rw [if_neg b] at k1 ⊢
    exact hnew t k t0 t1 k0 k1
 ·rw [hnp] at e1
  by_cases a : e = 2 * G.np + 1
  ·rw [a, hxb, conn_to0]
   refine ⟨G.OL v, ⟨by omega, ?_⟩, ?_⟩
   ·rw [conn_ol hne, if_pos rfl]; omega
   ·rw [conn_oe hne, if_pos rfl, upd_same]
  ·by_cases b : e = 2 * G.np
   ·rw [b, hxa, conn_to1]
    refine ⟨G.OL u, ⟨by omega, ?_⟩, ?_⟩
    ·rw [conn_ol hne, if_neg hne, if_pos rfl]; omega
    ·rw [conn_oe hne, if_neg hne, if_pos rfl, upd_same]
   ·have hx := x1_rng (p := G.np) e0 (by omega)
    rw [conn_to hx.2]
    obtain ⟨k, hk, e2⟩ := hG.all e e0 (by omega)
    refine ⟨k, ⟨hk.1, ?_⟩, ?_⟩
    ·rw [conn_ol hne]
     split
     ·rename_i c; rw [c] at hk; omega
     ·split
      ·rename_i c; rw [c] at hk; omega
      ·exact hk.2
    ·rw [conn_oe hne]
     split
     ·rename_i c; rw [c] at hk e2; rw [upd_ne _ _ (by omega)]; exact e2
     ·split
      ·rename_i c; rw [c] at hk e2; rw [upd_ne _ _ (by omega)]; exact e2
      ·exact e2
 ·rw [hnp] at j1
  by_cases a : j = G.np
  ·rw [a, conn_cpn]; exact m0
  ·rw [conn_cp (by omega)]; exact hG.cp j j0 (by omega)
end
structure Is (nn : Nat) (A : List (Int × Int × Int)) (G : Net) : Prop where
 nn : G.nn = nn
 np : G.np = A.length
 to0 : ∀ j : Nat, ∀ h : j < A.length, G.TO (2 * j) = (A[j]).2.1
 to1 : ∀ j : Nat, ∀ h : j < A.length, G.TO (2 * j + 1) = (A[j]).1
 cp : ∀ j : Nat, ∀ h : j < A.length, G.CP j = (A[j]).2.2
theorem Is.nil (nn : Nat) : Is nn [] (empty nn) := ⟨rfl, rfl, fun j h => absurd h (Nat.not_lt_zero _), fun j h => absurd h (Nat.not_lt_zero _), fun j h => absurd h (Nat.not_lt_zero _)⟩
theorem Is.conn {nn : Nat} {A : List (Int × Int × Int)} {G : Net} (h : Is nn A G) (a : Int × Int × Int) : Is nn (A ++ [a]) (G.conn a.1 a.2.1 a.2.2) := by
 have hnp := h.np
 have hlast : (A ++ [a])[A.length]'(by simp) = a := by simp
 refine ⟨h.nn, by rw [List.length_append]; show G.np + 1 = _; rw [hnp]; rfl, fun j hj => ?_, fun j hj => ?_, fun j hj => ?_⟩
 ·rw [List.length_append] at hj
  by_cases c : j = A.length
  ·subst c
   rw [hlast, ← hnp]
   exact conn_to0
  ·have hj2 : j < A.length := by simp at hj; omega
   rw [conn_to (by omega), List.getElem_append_left hj2]
   exact h.to0 j hj2
 ·rw [List.length_append] at hj
  by_cases c : j = A.length
  ·subst c
   rw [hlast, ← hnp]
   exact conn_to1
  ·have hj2 : j < A.length := by simp at hj; omega
   rw [conn_to (by omega), List.getElem_append_left hj2]
   exact h.to1 j hj2
 ·rw [List.length_append] at hj
  by_cases c : j = A.length
  ·subst c
   rw [hlast, ← hnp]
   exact conn_cpn
  ·have hj2 : j < A.length := by simp at hj; omega
   rw [conn_cp (by omega), List.getElem_append_left hj2]
   exact h.cp j hj2
structure Fresh (G : Net) (L : Int → Int) : Prop where
 a : ∀ j : Int, 0 ≤ j → j < G.np → L (2 * j) = G.CP j
 b : ∀ j : Int, 0 ≤ j → j < G.np → L (2 * j + 1) = 0
theorem Fresh.nil (nn : Nat) (L : Int → Int) : (empty nn).Fresh L := ⟨fun j j0 j1 => by have h2 : j < ((0 : Nat) : Int) := j1; omega, fun j j0 j1 => by have h2 : j < ((0 : Nat) : Int) := j1; omega⟩
theorem Fresh.conn {G : Net} {L : Int → Int} (h : G.Fresh L) (u v m : Int) : (G.conn u v m).Fresh (G.connL L m) := by
 have hnp : (((G.conn u v m).np : Nat) : Int) = G.np + 1 := by show ((G.np + 1 : Nat) : Int) = _; omega
 refine ⟨fun j j0 j1 => ?_, fun j j0 j1 => ?_⟩
 ·rw [hnp] at j1
  unfold connL
  rw [upd_ne _ _ (by omega)]
  by_cases c : j = G.np
  ·rw [c, upd_same, conn_cpn]
  ·rw [upd_ne _ _ (by omega), conn_cp (by omega)]; exact h.a j j0 (by omega)
 ·rw [hnp] at j1
  unfold connL
  by_cases c : j = G.np
  ·rw [c, upd_same]
  ·rw [upd_ne _ _ (by omega), upd_ne _ _ (by omega)]; exact h.b j j0 (by omega)
theorem Fresh.flow {G : Net} {L : Int → Int} (hG : G.Ok) (h : G.Fresh L) : G.Flow L 0 := by
 refine ⟨fun e e0 e1 => ?_, fun j j0 j1 => by rw [h.a j j0 j1, h.b j j0 j1]; omega, fun g => ?_⟩
 ·rcases (show e % 2 = 0 ∨ e % 2 = 1 by omega) with c | c
  ·have := h.a (e / 2) (by omega) (by omega)
   rw [show 2 * (e / 2) = e by omega] at this
   rw [this]; exact hG.cp _ (by omega) (by omega)
  ·have := h.b (e / 2) (by omega) (by omega)
   rw [show 2 * (e / 2) + 1 = e by omega] at this
   rw [this]; exact Int.le_refl _
 ·rw [Int.zero_mul]
  exact sm_zeroG fun j j0 j1 => by rw [h.b j j0 j1, Int.zero_mul]
end Net
end Go.Proofs.Ytbepolognfdkeaa
