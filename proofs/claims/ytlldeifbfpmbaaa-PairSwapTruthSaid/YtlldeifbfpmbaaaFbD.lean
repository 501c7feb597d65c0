import Derived.Test.YtlldeifbfpmbaaaFbC
import Derived.Test.YtlldeifbfpmbaaaRep
set_option maxRecDepth 100000
namespace Go.Proofs.Ytlldeifbfpmbaaa
open Go.RowKit Go.Proofs Go.MapKept
theorem IRow.cutF {ao : Option Addr} {m cap : Nat} {E : TypeId} {n k : Nat} {G : Int → Value} {c : Option Blk} (h : IRow (.slice ao m cap) E n G c) (hk : k ≤ n) : IRow (.slice ao k cap) E k G c := by
 rcases h with ⟨q1, q0, q2⟩ | ⟨hb, cap', g, q1, q2, q3, q4, q5⟩
 ·cases q1
  obtain rfl : k = 0 := by omega
  exact .inl ⟨rfl, rfl, q2⟩
 ·cases q1
  exact .inr ⟨hb, cap, g, rfl, by omega, q3, q4, fun i hi => q5 i (by omega)⟩
theorem IRow.capF {ao : Option Addr} {m cap : Nat} {E : TypeId} {n : Nat} {G : Int → Value} {c : Option Blk} (h : IRow (.slice ao m cap) E n G c) : n ≤ cap := by
 rcases h with ⟨q1, q0, q2⟩ | ⟨hb, cap', g, q1, q2, q3, q4, q5⟩
 ·cases q1; omega
 ·cases q1; exact q2
structure Cw where
 cb : Nat
 mb : Nat
 sv : Value
 c : Option Blk
 n : Nat
 P : Int → Int
 A : Int → Int
def crB (x : Cw) : Option Blk := some (lch x.cb 111 [.map (some x.mb), x.sv])
def crBs (x : Cw) : List (Option Blk) := [x.c, crB x]
def fam (K : Nat → Cw) (m : Nat) : List (Option Blk) := (List.range m).flatMap fun b => crBs (K b)
def famR (K : Nat → Cw) (m b : Nat) : List (Option Blk) := ((List.range m).erase b).flatMap fun b => crBs (K b)
def updK (K : Nat → Cw) (b : Nat) (x : Cw) : Nat → Cw := fun c => if c = b then x else K c
theorem updK_same (K : Nat → Cw) (b : Nat) (x : Cw) : updK K b x b = x := if_pos rfl
theorem updK_ne (K : Nat → Cw) {b c : Nat} (x : Cw) (h : c ≠ b) : updK K b x c = K c := if_neg h
theorem fam_succ (K : Nat → Cw) (m : Nat) : fam K (m + 1) = fam K m ++ crBs (K m) := by
 unfold fam
 rw [List.range_succ, List.flatMap_append]
 simp
theorem fam_perm (K : Nat → Cw) {m b : Nat} (hb : b < m) : (fam K m).Perm ((K b).c :: crB (K b) :: famR K m b) :=
 (List.perm_cons_erase (List.mem_range.2 hb)).flatMap_right _
theorem famR_upd (K : Nat → Cw) (m b : Nat) (x : Cw) : famR (updK K b x) m b = famR K m b := by
 unfold famR
 simp only [List.flatMap_def]
 congr 1
 refine List.map_congr_left fun c hc => ?_
 have : c ≠ b := fun e => by rw [e] at hc; exact (List.Nodup.not_mem_erase List.nodup_range) hc
 rw [updK_ne _ _ this]
theorem perm_front2 {α : Type} {x y a b c d : α} {M M' : List α} (h : M.Perm (x :: y :: M')) : (a :: b :: c :: d :: M).Perm (x :: y :: a :: b :: c :: d :: M') :=
 (h.append_left [a, b, c, d]).trans ((List.perm_append_comm (l₁ := [a, b, c, d]) (l₂ := [x, y])).append_right M')
theorem Own.crew {B : Nat} {w0 w : World} {a b c d : Option Blk} {K : Nat → Cw} {m i : Nat} (h : Own B w0 w (a :: b :: c :: d :: fam K m)) (hi : i < m) : Own B w0 w ((K i).c :: crB (K i) :: a :: b :: c :: d :: famR K m i) := h.perm (perm_front2 (fam_perm K hi))
theorem Own.crewBack {B : Nat} {w0 w : World} {a b c d : Option Blk} {K : Nat → Cw} {m i : Nat} {x : Cw} (h : Own B w0 w (x.c :: crB x :: a :: b :: c :: d :: famR K m i)) (hi : i < m) : Own B w0 w (a :: b :: c :: d :: fam (updK K i x) m) := by
 refine h.perm (perm_front2 ?_).symm
 have := fam_perm (updK K i x) hi
 rw [famR_upd, updK_same] at this
 exact this
structure CwOk (f : Fair) (l : Int → Int) (b : Int) (x : Cw) : Prop where
 hp : HP x.n x.P x.A
 ch : CH (rkL (f.be b) (f.bl b)) x.n x.P x.A
 ct : Cont f.n x.n x.P x.A (fun g => if l g = b then f.rb b g + 1 else 0)
 cn : (x.n : Int) = f.cnt l b
 row : IRow x.sv 3 x.n (crG x.P) x.c
theorem cont_congr {N n : Int} {P A S S' : Int → Int} (h : Cont N n P A S) (e : ∀ i : Int, 0 ≤ i → i < N → S i = S' i) : Cont N n P A S' :=
 ⟨fun k k0 k1 => by have := h.at_ k k0 k1; rw [← e _ this.1.1 this.1.2]; exact this, h.inj, fun i i0 i1 hi => h.all i i0 i1 (by rw [e i i0 i1]; exact hi)⟩
section
variable {f : Fair} {l : Int → Int} {b : Int} {x : Cw}
theorem CwOk.mem (h : CwOk f l b x) {k : Int} (k0 : 0 ≤ k) (k1 : k < x.n) : (0 ≤ x.P k ∧ x.P k < f.n) ∧ l (x.P k) = b ∧ x.A k = f.rb b (x.P k) + 1 := by
 obtain ⟨h1, h2, h3⟩ := h.ct.at_ k k0 k1
 by_cases e : l (x.P k) = b
 ·rw [if_pos e] at h2; exact ⟨h1, e, h2⟩
 ·rw [if_neg e] at h2; omega
theorem CwOk.find (h : CwOk f l b x) {g : Int} (g0 : 0 ≤ g) (g1 : g < f.n) (hg : l g = b) : ∃ k : Int, 0 ≤ k ∧ k < x.n ∧ x.P k = g := by
 refine h.ct.all g g0 g1 ?_
 have := (rk_rng (f.be b) g (f.bl b)).1
 rw [if_pos hg]
 unfold Fair.rb
 omega
theorem CwOk.other (h : CwOk f l b x) {l' : Int → Int} (e : ∀ g : Int, 0 ≤ g → g < f.n → (l' g = b ↔ l g = b)) : CwOk f l' b x := by
 refine ⟨h.hp, h.ch, cont_congr h.ct fun g g0 g1 => ?_, by rw [h.cn]; exact (Fair.cnt_congr e).symm, h.row⟩
 by_cases c : l g = b
 ·rw [if_pos c, if_pos ((e g g0 g1).2 c)]
 ·rw [if_neg c, if_neg fun c2 => c ((e g g0 g1).1 c2)]
theorem CwOk.chPush (hf : f.Ok) (h : CwOk f l b x) (b0 : 0 ≤ b) (b1 : b < f.m) (hbl : f.bl b ≤ 64) {g : Int} (hk : f.know g b) (hkn : ∀ i : Int, 0 ≤ i → i < f.n → l i = b → f.know i b) : CH (rkL (f.be b) (f.bl b)) ((x.n + 1 : Nat) : Int) (upd x.P x.n g) (upd x.A x.n (f.rb b g + 1)) := by
 have hlk : ∀ i : Int, f.know i b → lkp (rkL (f.be b) (f.bl b)) i = some (iv (f.rb b i)) := fun i hi => by
  rw [rkL_lkp (hf.bd b b0 b1), if_pos (show rk (f.be b) (f.bl b) i < f.bl b from hi.2)]; rfl
 have hr0 := (rk_rng (f.be b) g (f.bl b)).1
 have hk2 := hk.2
 refine ⟨fun k k0 k1 => ?_, fun k j k0 k1 j0 j1 e => ?_⟩
 ·by_cases c : k = x.n
  ·rw [c, upd_same, upd_same, hlk g hk]
   unfold Fair.rb at hk2 ⊢
   exact ⟨by rw [Int.add_sub_cancel], by omega, by omega⟩
  ·rw [upd_ne _ _ c, upd_ne _ _ c]; exact h.ch.rk k k0 (by omega)
 ·have key : ∀ j : Int, 0 ≤ j → j < x.n → x.A j = f.rb b g + 1 → x.P j = g := fun j j0 j1 e => by
   obtain ⟨p1, p2, p3⟩ := h.mem j0 j1
   exact (Fair.rb_inj hk.2 (by omega)).symm
  by_cases c : k = x.n <;> by_cases d : j = x.n
  ·rw [c, d]
  ·rw [c, upd_same, upd_ne _ _ d] at e ⊢
   exact (key j j0 (by omega) e.symm).symm
  ·rw [d, upd_same, upd_ne _ _ c] at e ⊢
   exact key k k0 (by omega) e
  ·rw [upd_ne _ _ c, upd_ne _ _ d] at e ⊢
   exact h.ch.inj k j k0 (by omega) j0 (by omega) e
end
end Go.Proofs.Ytlldeifbfpmbaaa
