import Derived.Test.YtlldeifbfpmbaaaFbC
import Derived.Test.YtlldeifbfpmbaaaRep
set_option maxRecDepth 100000
namespace Go.Proofs.Ytlldeifbfpmbaaa
open Go.RowKit Go.Proofs Go.MapKept
theorem IRow.cutF {ao : Option Addr} {m cap : Nat} {E : TypeId} {n k : Nat} {G : Int → Value} {c : Option Blk} (h : IRow (.slice ao m cap) E n G c) (hk : k ≤ n) : IRow (.slice ao k cap) E k G c := by
 rcases h with ⟨q1, q0, q2⟩ | ⟨hb, cap', g, q1, q2, q3, q4, q5⟩
 ·cases q1
  obtain rfl : k = 0 := by omega
  exact .inl ⟨rfl, rfl, q2⟩
 ·cases q1
  exact .inr ⟨hb, cap, g, rfl, by omega, q3, q4, fun i hi => q5 i (by omega)⟩
theorem IRow.capF {ao : Option Addr} {m cap : Nat} {E : TypeId} {n : Nat} {G : Int → Value} {c : Option Blk} (h : IRow (.slice ao m cap) E n G c) : n ≤ cap := by
 rcases h with ⟨q1, q0, q2⟩ | ⟨hb, cap', g, q1, q2, q3, q4, q5⟩
 ·cases q1; omega
 ·cases q1; exact q2
structure Cw where
 cb : Nat
 mb : Nat
 sv : Value
 c : Option Blk
 n : Nat
 P : Int → Int
 A : Int → Int
def crB (x : Cw) : Option Blk := some (lch x.cb 111 [.map (some x.mb), x.sv])
def crBs (x : Cw) : List (Option Blk) := [x.c, crB x]
def fam (K : Nat → Cw) (m : Nat) : List (Option Blk) := (List.range m).flatMap fun b => crBs (K b)
def famR (K : Nat → Cw) (m b : Nat) : List (Option Blk) := ((List.range m).erase b).flatMap fun b => crBs (K b)
def updK (K : Nat → Cw) (b : Nat) (x : Cw) : Nat → Cw := fun c => if c = b then x else K c
theorem updK_same (K : Nat → Cw) (b : Nat) (x : Cw) : updK K b x b = x := if_pos rfl
theorem updK_ne (K : Nat → Cw) {b c : Nat} (x : Cw) (h : c ≠ b) : updK K b x c = K c := if_neg h
theorem fam_succ (K : Nat → Cw) (m : Nat) : fam K (m + 1) = fam K m ++ crBs (K m) := by
 unfold fam
 rw [List.range_succ, List.flatMap_append]
 simp
theorem fam_perm (K : Nat → Cw) {m b : Nat} (hb : b < m) : (fam K m).Perm ((K b).c :: crB (K b) :: famR K m b) :=
 (List.perm_cons_erase (List.mem_range.2 hb)).flatMap_right _
theorem famR_upd (K : Nat → Cw) (m b : Nat) (x : Cw) : famR (updK K b x) m b = famR K m b := by
 unfold famR
 simp only [List.flatMap_def]
 congr 1
 refine List.map_congr_left fun c hc => ?_
 have : c ≠ b := fun e => by rw [e] at hc; exact (List.Nodup.not_mem_erase List.nodup_range) hc
 rw [updK_ne _ _ this]
theorem perm_front2 {α : Type} {x y a b c d : α} {M M' : List α} (h : M.Perm (x :: y :: M')) : (a :: b :: c :: d :: M).Perm (x :: y :: a :: b :: c :: d :: M') :=
 (h.append_left [a, b, c, d]).trans ((List.perm_append_comm (l₁ := [a, b, c, d]) (l₂ := [x, y])).append_right M')
theorem Own.crew {B : Nat} {w0 w : World} {a b c d : Option Blk} {K : Nat → Cw} {m i : Nat} (h : Own B w0 w (a :: b :: c :: d :: fam K m)) (hi : i < m) : Own B w0 w ((K i).c :: crB (K i) :: a :: b :: c :: d :: famR K m i) := h.perm (perm_front2 (fam_perm K hi))
theorem Own.crewBack {B : Nat} {w0 w : World} {a b c d : Option Blk} {K : Nat → Cw} {m i : Nat} {x : Cw} (h : Own B w0 w (x.c :: crB x :: a :: b :: c :: d :: famR K m i)) (hi : i < m) : Own B w0 w (a :: b :: c :: d :: fam (updK K i x) m) := by
 refine h.perm (perm_front2 ?_).symm
 have := fam_perm (updK K i x) hi
 rw [famR_upd, updK_same] at this
 exact this
structure CwOk (f : Fair) (l : Int → Int) (b : Int) (x : Cw) : Prop where
 hp : HP x.n x.P x.A
 ch : CH (rkL (f.be b) (f.bl b)) x.n x.P x.A
 ct : Cont f.n x.n x.P x.A (fun g => if l g = b then f.rb b g + 1 else 0)
 cn : (x.n : Int) = f.cnt l b
 row : IRow x.sv 3 x.n (crG x.P) x.c
theorem cont_congr {N n : Int} {P A S S' : Int → Int} (h : Cont N n P A S) (e : ∀ i : Int, 0 ≤ i → i < N → S i = S' i) : Cont N n P A S' :=
 ⟨fun k k0 k1 => by have := h.at_ k k0 k1; rw [← e _ this.1.1 this.1.2]; exact this, h.inj, fun i i0 i1 hi => h.all i i0 i1 (by rw [e i i0 i1]; exact hi)⟩
section
variable {f : Fair} {l : Int → Int} {b : Int} {x : Cw}
theorem CwOk.mem (h : CwOk f l b x) {k : Int} (k0 : 0 ≤ k) (k1 : k < x.n) : (0 ≤ x.P k ∧ x.P k < f.n) ∧ l (x.P k) = b ∧ x.A k = f.rb b (x.P k) + 1 := by
 obtain ⟨h1, h2, h3⟩ := h.ct.at_ k k0 k1
 by_cases e : l (x.P k) = b
 ·rw [if_pos e] at h2; exact ⟨h1, e, h2⟩
 ·rw [if_neg e] at h2; omega
theorem CwOk.find (h : CwOk f l b x) {g : Int} (g0 : 0 ≤ g) (g1 : g < f.n) (hg : l g = b) : ∃ k : Int, 0 ≤ k ∧ k < x.n ∧ x.P k = g := by
 refine h.ct.all g g0 g1 ?_
 have := (rk_rng (f.be b) g (f.bl b)).1
 rw [if_pos hg]
 unfold Fair.rb
 omega
theorem CwOk.other (h : CwOk f l b x) {l' : Int → Int} (e : ∀ g : Int, 0 ≤ g → g < f.n → (l' g = b ↔ l g = b)) : CwOk f l' b x := by
 refine ⟨h.hp, h.ch, cont_congr h.ct fun g g0 g1 => ?_, by rw [h.cn]; exact (Fair.cnt_congr e).symm, h.row⟩
 by_cases c : l g = b
 ·rw [if_pos c, if_pos ((e g g0 g1).2 c)]
 ·rw [if_neg c, if_neg fun c2 => c ((e g g0 g1).1 c2)]
theorem CwOk.chPush (hf : f.Ok) (h : CwOk f l b x) (b0 : 0 ≤ b) (b1 : b < f.m) (hbl : f.bl b ≤ 64) {g : Int} (hk : f.know g b) (hkn : ∀ i : Int, 0 ≤ i → i < f.n → l i = b → f.know i b) : CH (rkL (f.be b) (f.bl b)) ((x.n + 1 : Nat) : Int) (upd x.P x.n g) (upd x.A x.n (f.rb b g + 1)) := by
 have hlk : ∀ i : Int, f.know i b → lkp (rkL (f.be b) (f.bl b)) i = some (iv (f.rb b i)) := fun i hi => by
  rw [rkL_lkp (hf.bd b b0 b1), if_pos (show rk (f.be b) (f.bl b) i < f.bl b from hi.2)]; rfl
 have hr0 := (rk_rng (f.be b) g (f.bl b)).1
 have hk2 := hk.2
 refine ⟨fun k k0 k1 => ?_, fun k j k0 k1 j0 j1 e => ?_⟩
 ·by_cases c : k = x.n
  ·rw [c, upd_same, upd_same, hlk g hk]
   unfold Fair.rb at hk2 ⊢
   exact ⟨by rw [Int.add_sub_cancel], by omega, by omega⟩
  ·rw [upd_ne _ _ c, upd_ne _ _ c]; exact h.ch.rk k k0 (by omega)
 ·have key : ∀ j : Int, 0 ≤ j → j < x.n → x.A j = f.rb b g + 1 → x.P j = g := fun j j0 j1 e => by
   obtain ⟨p1, p2, p3⟩ := h.mem j0 j1
   exact (Fair.rb_inj hk.2 (by omega)).symm
  by_cases c : k = x.n <;> by_cases d : j = x.n
  ·rw [c, d]
  ·rw [c, upd_same, upd_ne _ _ d] at e ⊢
   exact (key j j0 (by omega) e.symm).symm
  ·rw [d, upd_same, upd_ne _ _ c] at e ⊢
   exact key k k0 (by omega) e
  ·rw [upd_ne _ _ c, upd_ne _ _ d] at e ⊢
   exact h.ch.inj k j k0 (by omega) j0 (by omega) e
end
end Go.Proofs.Ytlldeifbfpmbaaa
set_option maxRecDepth 100000
namespace Go.Proofs.Ytlldeifbfpmbaaa
open Go.RowKit Go.Proofs Go.MapKept
theorem CwOk.push {f : Fair} {l : Int → Int} {b : Int} {x : Cw} (h : CwOk f l b x) {g : Int} (g0 : 0 ≤ g) (g1 : g < f.n) (hl : l g ≠ b) {sv : Value} {c : Option Blk} {P A : Int → Int} (hp : HP ((x.n : Int) + 1) P A) (hc : CH (rkL (f.be b) (f.bl b)) ((x.n + 1 : Nat) : Int) P A) (hr : IRow sv 3 (x.n + 1) (crG P) c)
  (hC : ∀ (N : Int) (S : Int → Int), 0 ≤ g → g < N → S g = 0 → 0 < f.rb b g + 1 → Cont N x.n x.P x.A S → Cont N (x.n + 1) P A (upd S g (f.rb b g + 1))) : CwOk f (upd l g b) b ⟨x.cb, x.mb, sv, c, x.n + 1, P, A⟩ := by
 have hr0 := Fair.rb_nonneg f b g
 have h1 := hC f.n _ g0 g1 (if_neg hl) (by omega) h.ct
 refine ⟨hp, hc, cont_congr h1 fun i i0 i1 => ?_, ?_, hr⟩
 ·unfold upd
  by_cases e : i = g
  ·rw [if_pos e, if_pos e, if_pos rfl, e]
  ·rw [if_neg e, if_neg e]
 ·rw [Fair.cnt_upd g0 g1, if_neg hl, if_pos rfl, ← h.cn]
  show ((x.n + 1 : Nat) : Int) = _
  omega
theorem CwOk.pop {f : Fair} {l : Int → Int} {b : Int} {x : Cw} (h : CwOk f l b x) (b0 : 0 ≤ b) (hn : 1 ≤ x.n) {sv : Value} {c : Option Blk} {P A : Int → Int} (hp : HP ((x.n - 1 : Nat) : Int) P A) (hc : CH (rkL (f.be b) (f.bl b)) ((x.n - 1 : Nat) : Int) P A) (hr : IRow sv 3 (x.n - 1) (crG P) c)
  (hC : ∀ (N : Int) (S : Int → Int), Cont N x.n x.P x.A S → Cont N ((x.n - 1 : Nat) : Int) P A (upd S (x.P 0) 0)) : CwOk f (upd l (x.P 0) (-1)) b ⟨x.cb, x.mb, sv, c, x.n - 1, P, A⟩ := by
 obtain ⟨⟨w0, w1⟩, hw, _⟩ := h.mem (k := 0) (by omega) (by omega)
 refine ⟨hp, hc, cont_congr (hC f.n _ h.ct) fun i i0 i1 => ?_, ?_, hr⟩
 ·unfold upd
  by_cases e : i = x.P 0
  ·rw [if_pos e, if_pos e, if_neg (by omega)]
  ·rw [if_neg e, if_neg e]
 ·rw [Fair.cnt_upd w0 w1, if_pos hw, if_neg (by omega), ← h.cn]
  show ((x.n - 1 : Nat) : Int) = _
  omega
theorem CwOk.top {f : Fair} {l : Int → Int} {b : Int} {x : Cw} (h : CwOk f l b x) (hn : 1 ≤ x.n) {i : Int} (i0 : 0 ≤ i) (i1 : i < f.n) (hi : l i = b) : f.rb b i ≤ f.rb b (x.P 0) := by
 obtain ⟨k, k0, k1, rfl⟩ := h.find i0 i1 hi
 have h1 := h.hp.top k.toNat k rfl k0 k1
 have h2 := (h.mem k0 k1).2.2
 have h3 := (h.mem (k := 0) (by omega) (by omega)).2.2
 unfold bf at h1
 omega
structure OS (f : Fair) (l nx al : Int → Int) (ka : Nat) (K : Nat → Cw) : Prop where
 da : f.DA l nx
 alr : ∀ i : Int, 0 ≤ i → i < ka → (0 ≤ al i ∧ al i < f.n) ∧ l (al i) = -1
 ali : ∀ i j : Int, 0 ≤ i → i < ka → 0 ≤ j → j < ka → al i = al j → i = j
 alo : ∀ g : Int, 0 ≤ g → g < f.n → l g = -1 → (∃ i : Int, 0 ≤ i ∧ i < ka ∧ al i = g) ∨ nx g = f.gl g
 cw : ∀ b : Nat, b < f.m → CwOk f l b (K b)
section
variable {f : Fair} {l nx al : Int → Int} {ka : Nat} {K : Nat → Cw} (hf : f.Ok) (h : OS f l nx al ka K) (hka : 1 ≤ ka)
theorem OS.top (h : OS f l nx al ka K) (hka : 1 ≤ ka) : (0 ≤ al ((ka : Int) - 1) ∧ al ((ka : Int) - 1) < f.n) ∧ l (al ((ka : Int) - 1)) = -1 := h.alr _ (by omega) (by omega)
theorem OS.drop (h : OS f l nx al ka K) (hka : 1 ≤ ka) (hx : nx (al ((ka : Int) - 1)) = f.gl (al ((ka : Int) - 1))) : OS f l nx al (ka - 1) K := by
 refine ⟨h.da, fun i i0 i1 => h.alr i i0 (by omega), fun i j i0 i1 j0 j1 => h.ali i j i0 (by omega) j0 (by omega), fun g g0 g1 hl => ?_, h.cw⟩
 rcases h.alo g g0 g1 hl with ⟨i, i0, i1, e⟩ | e
 ·by_cases c : i = (ka : Int) - 1
  ·right; rw [← e, c]; exact hx
  ·exact .inl ⟨i, i0, by omega, e⟩
 ·exact .inr e
theorem OS.skip (hf : f.Ok) (h : OS f l nx al ka K) {g : Int} (hg : g = al ((ka : Int) - 1)) (hka : 1 ≤ ka) (hn : nx g < f.gl g) (hk : ¬ f.know g (f.ge g (nx g)) ∨ f.q (f.ge g (nx g)) = 0) : OS f l (upd nx g (nx g + 1)) al ka K := by
 obtain ⟨⟨g0, g1⟩, hl⟩ := h.top hka
 rw [← hg] at g0 g1 hl
 refine ⟨h.da.skip hf g0 g1 hl hn hk, h.alr, h.ali, fun i i0 i1 hi => ?_, h.cw⟩
 by_cases e : i = g
 ·exact .inl ⟨(ka : Int) - 1, by omega, by omega, by rw [e, hg]⟩
 ·rw [upd_ne _ _ e]; exact h.alo i i0 i1 hi
theorem OS.take (hf : f.Ok) (h : OS f l nx al ka K) {g : Int} (hg : g = al ((ka : Int) - 1)) (hka : 1 ≤ ka) (hn : nx g < f.gl g) {b : Int} (hb : b = f.ge g (nx g)) (hk : f.know g b) (hc : f.cnt l b < f.q b) {x : Cw} (hx : CwOk f (upd l g b) b x) :
  OS f (upd l g b) (upd nx g (nx g + 1)) al (ka - 1) (updK K b.toNat x) := by
 obtain ⟨⟨g0, g1⟩, hl⟩ := h.top hka
 rw [← hg] at g0 g1 hl
 have hnx := h.da.nxr g g0 g1
 have hbr := hf.gr g (nx g) g0 g1 hnx.1 hn
 subst hb
 refine ⟨h.da.take hf g0 g1 hl hn hk hc, fun i i0 i1 => ?_, fun i j i0 i1 j0 j1 => h.ali i j i0 (by omega) j0 (by omega), fun i i0 i1 hi => ?_, fun c hcm => ?_⟩
 ·have hne : al i ≠ g := fun e => by have := h.ali i ((ka : Int) - 1) i0 (by omega) (by omega) (by omega) (by rw [e, hg]); omega
  rw [upd_ne _ _ hne]
  exact h.alr i i0 (by omega)
 ·by_cases e : i = g
  ·rw [e, upd_same] at hi; omega
  ·rw [upd_ne _ _ e] at hi ⊢
   rcases h.alo i i0 i1 hi with ⟨j, j0, j1, e2⟩ | e2
   ·exact .inl ⟨j, j0, Classical.byContradiction fun hlt => e (by rw [← e2, hg, show j = (ka : Int) - 1 by omega]), e2⟩
   ·exact .inr e2
 ·by_cases e : c = (f.ge g (nx g)).toNat
  ·rw [e, updK_same, show (((f.ge g (nx g)).toNat : Nat) : Int) = f.ge g (nx g) by omega]
   exact hx
  ·rw [updK_ne _ _ e]
   refine (h.cw c hcm).other fun i i0 i1 => ?_
   by_cases e2 : i = g
   ·rw [e2, upd_same, hl]; omega
   ·rw [upd_ne _ _ e2]
theorem OS.swap (hf : f.Ok) (h : OS f l nx al ka K) {g : Int} (hg : g = al ((ka : Int) - 1)) (hka : 1 ≤ ka) (hn : nx g < f.gl g) {b : Int} (hb : b = f.ge g (nx g)) (hk : f.know g b) (hq : f.q b ≤ f.cnt l b) {x y : Cw} (hx : CwOk f (upd l g b) b x) (hxn : 1 ≤ x.n) (hy : CwOk f (upd (upd l g b) (x.P 0) (-1)) b y) :
  OS f (upd (upd l g b) (x.P 0) (-1)) (upd nx g (nx g + 1)) (upd al ((ka - 1 : Nat) : Int) (x.P 0)) (ka - 1 + 1) (updK K b.toNat y) := by
 obtain ⟨⟨g0, g1⟩, hl⟩ := h.top hka
 rw [← hg] at g0 g1 hl
 have hnx := h.da.nxr g g0 g1
 have hbr := hf.gr g (nx g) g0 g1 hnx.1 hn
 obtain ⟨⟨w0, w1⟩, hw, _⟩ := hx.mem (k := 0) (by omega) (by omega)
 subst hb
 have hag : ∀ i : Int, 0 ≤ i → i < ((ka - 1 : Nat) : Int) → al i ≠ g := fun i i0 i1 e => by have := h.ali i ((ka : Int) - 1) i0 (by omega) (by omega) (by omega) (by rw [e, hg]); omega
 have haw : ∀ i : Int, 0 ≤ i → i < ((ka - 1 : Nat) : Int) → al i ≠ x.P 0 := fun i i0 i1 e => by
  have h1 := hag i i0 i1
  rw [← e, upd_ne _ _ h1, (h.alr i i0 (by omega)).2] at hw
  omega
 refine ⟨h.da.swap hf g0 g1 hl hn hk hq w0 w1 hw fun i i0 i1 hi => hx.top hxn i0 i1 hi, fun i i0 i1 => ?_, fun i j i0 i1 j0 j1 e => ?_, fun i i0 i1 hi => ?_, fun c hcm => ?_⟩
 ·by_cases e : i = ((ka - 1 : Nat) : Int)
  ·rw [e, upd_same, upd_same]; exact ⟨⟨w0, w1⟩, rfl⟩
  ·rw [upd_ne _ _ e, upd_ne _ _ (haw i i0 (by omega)), upd_ne _ _ (hag i i0 (by omega))]
   exact h.alr i i0 (by omega)
 ·by_cases e1 : i = ((ka - 1 : Nat) : Int) <;> by_cases e2 : j = ((ka - 1 : Nat) : Int)
  ·omega
  ·rw [e1, upd_same, upd_ne _ _ e2] at e; exact absurd e.symm (haw j j0 (by omega))
  ·rw [e2, upd_same, upd_ne _ _ e1] at e; exact absurd e (haw i i0 (by omega))
  ·rw [upd_ne _ _ e1, upd_ne _ _ e2] at e; exact h.ali i j i0 (by omega) j0 (by omega) e
 ·by_cases e : i = x.P 0
  ·exact .inl ⟨((ka - 1 : Nat) : Int), by omega, by omega, by rw [upd_same, e]⟩
  ·rw [upd_ne _ _ e] at hi
   by_cases e1 : i = g
   ·rw [e1, upd_same] at hi; omega
   ·rw [upd_ne _ _ e1] at hi ⊢
    rcases h.alo i i0 i1 hi with ⟨j, j0, j1, e2⟩ | e2
    ·have hj : j < ((ka - 1 : Nat) : Int) := Classical.byContradiction fun hlt => e1 (by rw [← e2, hg, show j = (ka : Int) - 1 by omega])
     exact .inl ⟨j, j0, by omega, by rw [upd_ne _ _ (by omega)]; exact e2⟩
    ·exact .inr e2
 ·by_cases e : c = (f.ge g (nx g)).toNat
  ·rw [e, updK_same, show (((f.ge g (nx g)).toNat : Nat) : Int) = f.ge g (nx g) by omega]
   exact hy
  ·rw [updK_ne _ _ e]
   refine (h.cw c hcm).other fun i i0 i1 => ?_
   by_cases e3 : i = x.P 0
   ·rw [e3, upd_same]
    by_cases e4 : x.P 0 = g
    ·rw [e4, hl]
    ·rw [upd_ne _ _ e4] at hw
     rw [hw]; omega
   ·rw [upd_ne _ _ e3]
    by_cases e2 : i = g
    ·rw [e2, upd_same, hl]; omega
    ·rw [upd_ne _ _ e2]
end
def left (f : Fair) (nx : Int → Int) : Nat := (sm (fun g => (f.gl g : Int) - nx g) f.n).toNat
theorem left_upd {f : Fair} {l nx : Int → Int} (h : f.DA l nx) {g : Int} (g0 : 0 ≤ g) (g1 : g < f.n) (hn : nx g < f.gl g) : left f (upd nx g (nx g + 1)) + 1 = left f nx := by
 unfold left
 have e : (fun i => (f.gl i : Int) - upd nx g (nx g + 1) i) = upd (fun i => f.gl i - nx i) g (f.gl g - nx g - 1) := by
  funext i
  unfold upd
  by_cases c : i = g
  ·rw [if_pos c, if_pos c, c]; omega
  ·rw [if_neg c, if_neg c]
 have h1 := sm_pos (f := fun g => (f.gl g : Int) - nx g) (k := f.n) (fun i i0 i1 => by have := h.nxr i i0 i1; omega) g g0 g1
 rw [e, sm_upd _ _ _ g0 g1]
 omega
theorem OS.init {f : Fair} (hf : f.Ok) {al : Int → Int} {K : Nat → Cw} (hal : ∀ i : Int, 0 ≤ i → i < f.n → al i = i) (hK : ∀ b : Nat, b < f.m → (K b).n = 0 ∧ (K b).sv = .slice none 0 0 ∧ (K b).c = none) : OS f (fun _ => -1) (fun _ => 0) al f.n K := by
 refine ⟨Fair.DA.init f hf.q0, fun i i0 i1 => by rw [hal i i0 i1]; exact ⟨⟨i0, i1⟩, rfl⟩, fun i j i0 i1 j0 j1 e => by rw [hal i i0 i1, hal j j0 j1] at e; exact e, fun g g0 g1 _ => .inl ⟨g, g0, g1, hal g g0 g1⟩, fun b hb => ?_⟩
 obtain ⟨h1, h2, h3⟩ := hK b hb
 refine ⟨fun k k0 k1 => by omega, ⟨fun k k0 k1 => by omega, fun k j k0 k1 => by omega⟩, ⟨fun k k0 k1 => by omega, fun k j k0 k1 => by omega, fun i i0 i1 hi => ?_⟩, ?_, ?_⟩
 ·rw [if_neg (by omega)] at hi; omega
 ·rw [h1]
  unfold Fair.cnt
  rw [sm_congr (g := fun _ => 0) fun i _ _ => if_neg (show ¬ (-1 : Int) = b by omega), sm_const 0 (by omega)]
  omega
 ·rw [h1, h2, h3]; exact IRow.nil _ _
end Go.Proofs.Ytlldeifbfpmbaaa
