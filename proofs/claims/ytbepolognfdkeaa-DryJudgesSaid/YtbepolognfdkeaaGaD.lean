import Derived.Test.YtbepolognfdkeaaGaA
set_option maxRecDepth 100000
namespace Go.Proofs.Ytbepolognfdkeaa
def x1 (e : Int) : Int := if e % 2 = 0 then e + 1 else e - 1
theorem x1_x1 (e : Int) : x1 (x1 e) = e := by unfold x1; split <;> split <;> omega
theorem x1_rng {e : Int} {p : Nat} (h0 : 0 ≤ e) (h1 : e < 2 * p) : 0 ≤ x1 e ∧ x1 e < 2 * p := by unfold x1; split <;> omega
theorem x1_ne (e : Int) : x1 e ≠ e := by unfold x1; split <;> omega
theorem x1_pair (e : Int) : e = 2 * (e / 2) ∧ x1 e = 2 * (e / 2) + 1 ∨ e = 2 * (e / 2) + 1 ∧ x1 e = 2 * (e / 2) := by unfold x1; split <;> omega
structure Net where
 nn : Nat
 np : Nat
 TO : Int → Int
 OL : Int → Nat
 OE : Int → Int → Int
 CP : Int → Int
namespace Net
structure Ok (G : Net) : Prop where
 n2 : 2 ≤ G.nn
 to : ∀ e : Int, 0 ≤ e → e < 2 * G.np → 0 ≤ G.TO e ∧ G.TO e < G.nn
 out : ∀ v k : Int, 0 ≤ v → v < G.nn → 0 ≤ k → k < G.OL v → (0 ≤ G.OE v k ∧ G.OE v k < 2 * G.np) ∧ G.TO (x1 (G.OE v k)) = v
 all : ∀ e : Int, 0 ≤ e → e < 2 * G.np → ∃ k : Int, (0 ≤ k ∧ k < G.OL (G.TO (x1 e))) ∧ G.OE (G.TO (x1 e)) k = e
 cp : ∀ j : Int, 0 ≤ j → j < G.np → 0 ≤ G.CP j
structure Flow (G : Net) (L : Int → Int) (fl : Int) : Prop where
 nn : ∀ e : Int, 0 ≤ e → e < 2 * G.np → 0 ≤ L e
 cap : ∀ j : Int, 0 ≤ j → j < G.np → L (2 * j) + L (2 * j + 1) = G.CP j
 sum : ∀ g : Int → Int, sm (fun j => L (2 * j + 1) * (g (G.TO (2 * j + 1)) - g (G.TO (2 * j)))) G.np = fl * (g 0 - g (G.nn - 1))
def Adds (G : Net) (L L' : Int → Int) (v got : Int) : Prop :=
 ∀ g : Int → Int, sm (fun j => L' (2 * j + 1) * (g (G.TO (2 * j + 1)) - g (G.TO (2 * j)))) G.np = sm (fun j => L (2 * j + 1) * (g (G.TO (2 * j + 1)) - g (G.TO (2 * j)))) G.np + got * (g v - g (G.nn - 1))
structure Room (G : Net) (L : Int → Int) : Prop where
 nn : ∀ e : Int, 0 ≤ e → e < 2 * G.np → 0 ≤ L e
 cap : ∀ j : Int, 0 ≤ j → j < G.np → L (2 * j) + L (2 * j + 1) = G.CP j
theorem Flow.room {G : Net} {L : Int → Int} {fl : Int} (h : G.Flow L fl) : G.Room L := ⟨h.nn, h.cap⟩
theorem Flow.adds {G : Net} {L L' : Int → Int} {fl got : Int} (h : G.Flow L fl) (hr : G.Room L') (ha : G.Adds L L' 0 got) : G.Flow L' (fl + got) :=
 ⟨hr.nn, hr.cap, fun g => by rw [ha g, h.sum g, Int.add_mul]⟩
theorem Adds.zero (G : Net) (L : Int → Int) (v : Int) : G.Adds L L v 0 := fun g => by rw [Int.zero_mul, Int.add_zero]
theorem Adds.sink (G : Net) (L : Int → Int) (got : Int) : G.Adds L L (G.nn - 1) got := fun g => by rw [Int.sub_self, Int.mul_zero, Int.add_zero]
def psh (L : Int → Int) (e got : Int) : Int → Int := upd (upd L e (L e - got)) (x1 e) (L (x1 e) + got)
theorem psh_o {L : Int → Int} {e got i : Int} (h1 : i ≠ e) (h2 : i ≠ x1 e) : psh L e got i = L i := by unfold psh; rw [upd_ne _ _ h2, upd_ne _ _ h1]
theorem psh_e {L : Int → Int} {e got : Int} : psh L e got e = L e - got := by unfold psh; rw [upd_ne _ _ (fun h => x1_ne e h.symm), upd_same]
theorem psh_x {L : Int → Int} {e got : Int} : psh L e got (x1 e) = L (x1 e) + got := by unfold psh; rw [upd_same]
theorem Room.push {G : Net} {L : Int → Int} (h : G.Room L) {e got : Int} (e0 : 0 ≤ e) (e1 : e < 2 * G.np) (g0 : 0 ≤ got) (g1 : got ≤ L e) : G.Room (psh L e got) := by
 have hx := x1_rng e0 e1
 have hp := x1_pair e
 refine ⟨fun i i0 i1 => ?_, fun j j0 j1 => ?_⟩
 ·by_cases c : i = e
  ·rw [c, psh_e]; omega
  ·by_cases d : i = x1 e
   ·rw [d, psh_x]; have := h.nn _ hx.1 hx.2; omega
   ·rw [psh_o c d]; exact h.nn i i0 i1
 ·have hc := h.cap j j0 j1
  by_cases c : j = e / 2
  ·rcases hp with ⟨p1, p2⟩ | ⟨p1, p2⟩
   ·have a1 : psh L e got (2 * j) = L e - got := by rw [show 2 * j = e by omega]; exact psh_e
    have a2 : psh L e got (2 * j + 1) = L (x1 e) + got := by rw [show 2 * j + 1 = x1 e by omega]; exact psh_x
    rw [a1, a2, p2, ← c]
    rw [← c] at p1
    rw [p1]
    omega
   ·have a1 : psh L e got (2 * j + 1) = L e - got := by rw [show 2 * j + 1 = e by omega]; exact psh_e
    have a2 : psh L e got (2 * j) = L (x1 e) + got := by rw [show 2 * j = x1 e by omega]; exact psh_x
    rw [a1, a2, p2, ← c]
    rw [← c] at p1
    rw [p1]
    omega
  ·rw [psh_o (by omega) (by omega), psh_o (by omega) (by omega)]
   exact hc
theorem Adds.push {G : Net} {L L' : Int → Int} {e got : Int} (e0 : 0 ≤ e) (e1 : e < 2 * G.np) (h : G.Adds L L' (G.TO e) got) : G.Adds L (psh L' e got) (G.TO (x1 e)) got := fun g => by
 have hj0 : 0 ≤ e / 2 := by omega
 have hj1 : e / 2 < G.np := by omega
 have key : (fun j => psh L' e got (2 * j + 1) * (g (G.TO (2 * j + 1)) - g (G.TO (2 * j)))) = upd (fun j => L' (2 * j + 1) * (g (G.TO (2 * j + 1)) - g (G.TO (2 * j)))) (e / 2) (psh L' e got (2 * (e / 2) + 1) * (g (G.TO (2 * (e / 2) + 1)) - g (G.TO (2 * (e / 2))))) := by
  funext j
  by_cases c : j = e / 2
  ·rw [c, upd_same]
  ·rw [upd_ne _ _ c, psh_o]
   ·rcases x1_pair e with ⟨p1, p2⟩ | ⟨p1, p2⟩ <;> omega
   ·rcases x1_pair e with ⟨p1, p2⟩ | ⟨p1, p2⟩ <;> omega
 rw [key, sm_upd _ _ _ hj0 hj1, h g]
 have e2 : psh L' e got (2 * (e / 2) + 1) * (g (G.TO (2 * (e / 2) + 1)) - g (G.TO (2 * (e / 2)))) = L' (2 * (e / 2) + 1) * (g (G.TO (2 * (e / 2) + 1)) - g (G.TO (2 * (e / 2)))) + got * (g (G.TO (x1 e)) - g (G.TO e)) := by
  rcases x1_pair e with ⟨p1, p2⟩ | ⟨p1, p2⟩
  ·have a : psh L' e got (2 * (e / 2) + 1) = L' (2 * (e / 2) + 1) + got := by rw [← p2]; exact psh_x
   rw [a, Int.add_mul, p2]
   conv => rhs; rw [show G.TO e = G.TO (2 * (e / 2)) from congrArg _ p1]
  ·have a : psh L' e got (2 * (e / 2) + 1) = L' (2 * (e / 2) + 1) - got := by
    have h1 : psh L' e got e = L' e - got := psh_e
    rw [← p1]; exact h1
   have b : G.TO e = G.TO (2 * (e / 2) + 1) := congrArg _ p1
   rw [a, Int.sub_mul, p2, b]
   simp only [Int.mul_sub]
   omega
 rw [e2]
 simp only [Int.mul_sub]
 omega
structure Cut (G : Net) (L : Int → Int) (S : Int → Prop) : Prop where
 src : S 0
 snk : ¬ S (G.nn - 1)
 cl : ∀ e : Int, 0 ≤ e → e < 2 * G.np → S (G.TO (x1 e)) → 0 < L e → S (G.TO e)
theorem Cut.flow {G : Net} {L : Int → Int} {fl : Int} {S : Int → Prop} (hf : G.Flow L fl) (hc : G.Cut L S) : fl = sm (fun j => G.CP j * (ind (S (G.TO (2 * j + 1))) * (1 - ind (S (G.TO (2 * j)))))) G.np := by
 have h := hf.sum fun v => ind (S v)
 rw [ind_t hc.src, ind_f hc.snk] at h
 have h1 : fl = fl * (1 - 0) := by rw [Int.sub_zero, Int.mul_one]
 rw [h1, ← h]
 refine sm_congr fun j j0 j1 => ?_
 have hcap := hf.cap j j0 j1
 have n0 := hf.nn (2 * j) (by omega) (by omega)
 have n1 := hf.nn (2 * j + 1) (by omega) (by omega)
 have xa : x1 (2 * j) = 2 * j + 1 := by unfold x1; rw [if_pos (by omega)]
 have xb : x1 (2 * j + 1) = 2 * j := by unfold x1; rw [if_neg (by omega)]; omega
 by_cases a : S (G.TO (2 * j + 1)) <;> by_cases b : S (G.TO (2 * j))
 ·rw [ind_t a, ind_t b]; simp
 ·rw [ind_t a, ind_f b]
  have : L (2 * j) = 0 := by
   refine Classical.byContradiction fun hn => b (hc.cl (2 * j) (by omega) (by omega) (by rw [xa]; exact a) (by omega))
  rw [show L (2 * j + 1) = G.CP j by omega, Int.one_mul]
 ·rw [ind_f a, ind_t b]
  have : L (2 * j + 1) = 0 := by
   refine Classical.byContradiction fun hn => a (hc.cl (2 * j + 1) (by omega) (by omega) (by rw [xb]; exact b) (by omega))
  rw [this]; simp
 ·rw [ind_f a, ind_f b]; simp
end Net
end Go.Proofs.Ytbepolognfdkeaa
