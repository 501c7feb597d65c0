import Derived.Test.YtbepolognfdkeaaGreatGaD
set_option maxRecDepth 100000
namespace Go.Proofs.YtbepolognfdkeaaGreat
theorem sm_oneG {k x : Int} (x0 : 0 ≤ x) (x1 : x < k) (c : Int) : sm (fun i => if x = i then c else 0) k = c := by
 have e : (fun i => if x = i then c else 0) = upd (fun _ => 0) x c := by
  funext i
  unfold upd
  by_cases h : i = x
  ·rw [if_pos h.symm, if_pos h]
  ·rw [if_neg h, if_neg fun e => h e.symm]
 rw [e, sm_upd _ _ _ x0 x1, sm_const 0 (by omega)]
 omega
theorem sm_zeroG {f : Int → Int} {k : Int} (h : ∀ i : Int, 0 ≤ i → i < k → f i = 0) : sm f k = 0 := by
 rw [sm_congr (g := fun _ => 0) h]
 by_cases k0 : 0 ≤ k
 ·rw [sm_const 0 k0]; omega
 ·exact sm_neg _ (by omega)
theorem sm_uniG {p : Int → Prop} [∀ i, Decidable (p i)] {n : Int} (h : ∀ i j : Int, 0 ≤ i → i < n → 0 ≤ j → j < n → p i → p j → i = j) : sm (fun i => if p i then 1 else 0) n ≤ 1 := by
 by_cases c : ∃ i : Int, 0 ≤ i ∧ i < n ∧ p i
 ·obtain ⟨i, i0, i1, hi⟩ := c
  have e : sm (fun i => if p i then 1 else 0) n = sm (fun j => if i = j then 1 else 0) n := sm_congr fun j j0 j1 => by
   by_cases e : i = j
   ·rw [if_pos e, ← e, if_pos hi]
   ·rw [if_neg e, if_neg fun hj => e (h i j i0 i1 j0 j1 hi hj)]
  rw [e, sm_oneG i0 i1]
  omega
 ·rw [sm_zeroG fun i i0 i1 => if_neg fun hi => c ⟨i, i0, i1, hi⟩]
  omega
theorem pigeonG {e : Int → Int} {n m : Nat} (hr : ∀ k : Int, 0 ≤ k → k < n → 0 ≤ e k ∧ e k < m) (hd : ∀ a b : Int, 0 ≤ a → a < n → 0 ≤ b → b < n → e a = e b → a = b) : n ≤ m := by
 have h1 : sm (fun k => sm (fun b => if e k = b then 1 else 0) m) n = n := by
  rw [sm_congr (g := fun _ => 1) fun k k0 k1 => sm_oneG (hr k k0 k1).1 (hr k k0 k1).2 1, sm_const 1 (by omega)]
  omega
 rw [sm_swap] at h1
 have h2 : sm (fun b => sm (fun k => if e k = b then 1 else 0) n) m ≤ m * 1 := sm_bound 1 (by omega) fun b _ _ => sm_uniG fun i j i0 i1 j0 j1 h1 h2 => hd i j i0 i1 j0 j1 (h1.trans h2.symm)
 omega
namespace Net
structure Lev (G : Net) (L LV : Int → Int) : Prop where
 src : LV 0 = 0
 zero : ∀ v : Int, 0 ≤ v → v < G.nn → LV v = 0 → v = 0
 rng : ∀ v : Int, 0 ≤ v → v < G.nn → -1 ≤ LV v ∧ LV v < G.nn
 cl : ∀ v k : Int, 0 ≤ v → v < G.nn → 0 ≤ k → k < G.OL v → 0 ≤ LV v → 0 < L (G.OE v k) → 0 ≤ LV (G.TO (G.OE v k))
 par : ∀ v : Int, 0 ≤ v → v < G.nn → 0 < LV v → ∃ u k : Int, (0 ≤ u ∧ u < G.nn) ∧ (0 ≤ k ∧ k < G.OL u) ∧ LV u + 1 = LV v ∧ 0 < L (G.OE u k) ∧ G.TO (G.OE u k) = v
theorem Lev.cut {G : Net} {L LV : Int → Int} (hG : G.Ok) (h : G.Lev L LV) (hs : LV (G.nn - 1) < 0) : G.Cut L (fun v => 0 ≤ LV v) :=
 ⟨by rw [h.src]; exact Int.le_refl _, by omega, fun e e0 e1 hS hL => by
  obtain ⟨k, hk, e2⟩ := hG.all e e0 e1
  have hx := x1_rng e0 e1
  have ht := hG.to _ hx.1 hx.2
  have := h.cl (G.TO (x1 e)) k ht.1 ht.2 hk.1 hk.2 hS (by rw [e2]; exact hL)
  rw [e2] at this
  exact this⟩
structure Bfs (G : Net) (L LV Q : Int → Int) (q : Nat) (i k : Int) : Prop where
 q1 : 1 ≤ q
 qz : Q 0 = 0
 src : LV 0 = 0
 zero : ∀ v : Int, 0 ≤ v → v < G.nn → LV v = 0 → v = 0
 qr : ∀ j : Int, 0 ≤ j → j < q → (0 ≤ Q j ∧ Q j < G.nn) ∧ 0 ≤ LV (Q j) ∧ LV (Q j) ≤ j
 inj : ∀ a b : Int, 0 ≤ a → a < q → 0 ≤ b → b < q → Q a = Q b → a = b
 mem : ∀ v : Int, 0 ≤ v → v < G.nn → 0 ≤ LV v → ∃ j : Int, (0 ≤ j ∧ j < q) ∧ Q j = v
 neg : ∀ v : Int, 0 ≤ v → v < G.nn → -1 ≤ LV v
 cl : ∀ j c : Int, 0 ≤ j → j < i → 0 ≤ c → c < G.OL (Q j) → 0 < L (G.OE (Q j) c) → 0 ≤ LV (G.TO (G.OE (Q j) c))
 clk : i < q → ∀ c : Int, 0 ≤ c → c < k → 0 < L (G.OE (Q i) c) → 0 ≤ LV (G.TO (G.OE (Q i) c))
 par : ∀ v : Int, 0 ≤ v → v < G.nn → 0 < LV v → ∃ u k : Int, (0 ≤ u ∧ u < G.nn) ∧ (0 ≤ k ∧ k < G.OL u) ∧ LV u + 1 = LV v ∧ 0 < L (G.OE u k) ∧ G.TO (G.OE u k) = v
section
variable {G : Net} {L LV Q : Int → Int} {q : Nat} {i k : Int}
theorem Bfs.init (hG : G.Ok) : G.Bfs L (upd (fun _ => -1) 0 0) (fun _ => 0) 1 0 0 := by
 have h2 := hG.n2
 have hne : ∀ v : Int, v ≠ 0 → upd (fun _ => (-1 : Int)) 0 0 v = -1 := fun v h => upd_ne _ _ h
 refine ⟨Nat.le_refl _, rfl, upd_same _ _ _, fun v v0 v1 h => Classical.byContradiction fun hn => by rw [hne v hn] at h; omega, fun j j0 j1 => ⟨⟨Int.le_refl _, by omega⟩, by rw [upd_same]; omega, by rw [upd_same]; omega⟩, fun a b a0 a1 b0 b1 _ => by omega, fun v v0 v1 h => ?_, fun v v0 v1 => ?_, fun j c j0 j1 => by omega, fun _ c c0 c1 => by omega, fun v v0 v1 h => ?_⟩
 ·by_cases c : v = 0
  ·exact ⟨0, by omega, c.symm⟩
  ·rw [hne v c] at h; omega
 ·by_cases c : v = 0
  ·rw [c, upd_same]; omega
  ·rw [hne v c]; omega
 ·by_cases c : v = 0
  ·rw [c, upd_same] at h; omega
  ·rw [hne v c] at h; omega
theorem Bfs.le (h : G.Bfs L LV Q q i k) : q ≤ G.nn := pigeonG (fun j j0 j1 => (h.qr j j0 j1).1) h.inj
theorem Bfs.skip (h : G.Bfs L LV Q q i k) (hn : i < q → 0 < L (G.OE (Q i) k) → 0 ≤ LV (G.TO (G.OE (Q i) k))) : G.Bfs L LV Q q i (k + 1) :=
 ⟨h.q1, h.qz, h.src, h.zero, h.qr, h.inj, h.mem, h.neg, h.cl, fun hi c c0 c1 hL => by
  by_cases e : c = k
  ·rw [e] at hL ⊢; exact hn hi hL
  ·exact h.clk hi c c0 (by omega) hL, h.par⟩
theorem Bfs.take (hG : G.Ok) (h : G.Bfs L LV Q q i k) (i0 : 0 ≤ i) (i1 : i < q) (k0 : 0 ≤ k) (k1 : k < G.OL (Q i)) (hL : 0 < L (G.OE (Q i) k)) (hn : LV (G.TO (G.OE (Q i) k)) < 0) :
  G.Bfs L (upd LV (G.TO (G.OE (Q i) k)) (LV (Q i) + 1)) (upd Q q (G.TO (G.OE (Q i) k))) (q + 1) i (k + 1) := by
 obtain ⟨t, ht⟩ : ∃ t, t = G.TO (G.OE (Q i) k) := ⟨_, rfl⟩
 rw [← ht] at hn ⊢
 have hqi := h.qr i i0 i1
 have hout := hG.out (Q i) k hqi.1.1 hqi.1.2 k0 k1
 have htr : 0 ≤ t ∧ t < G.nn := by rw [ht]; exact hG.to _ hout.1.1 hout.1.2
 have hQ : ∀ j : Int, j < q → upd Q q t j = Q j := fun j hj => upd_ne _ _ (by omega)
 have hne : ∀ j : Int, 0 ≤ j → j < q → Q j ≠ t := fun j j0 j1 e => by have := (h.qr j j0 j1).2.1; rw [e] at this; omega
 have hLV : ∀ v : Int, v ≠ t → upd LV t (LV (Q i) + 1) v = LV v := fun v hv => upd_ne _ _ hv
 have hup : ∀ v : Int, 0 ≤ LV v → 0 ≤ upd LV t (LV (Q i) + 1) v := fun v hv => by
  by_cases e : v = t
  ·rw [e, upd_same]; omega
  ·rw [hLV v e]; exact hv
 refine ⟨by omega, by rw [hQ 0 (by have := h.q1; omega)]; exact h.qz, ?_, fun v v0 v1 hv => ?_, fun j j0 j1 => ?_, fun a b a0 a1 b0 b1 e => ?_, fun v v0 v1 hv => ?_, fun v v0 v1 => ?_, fun j c j0 j1 c0 c1 hLc => ?_, fun hi c c0 c1 hLc => ?_, fun v v0 v1 hv => ?_⟩
 ·by_cases e : (0 : Int) = t
  ·have := h.src; rw [e] at this; omega
  ·rw [hLV 0 e]; exact h.src
 ·by_cases e : v = t
  ·rw [e, upd_same] at hv; omega
  ·rw [hLV v e] at hv; exact h.zero v v0 v1 hv
 ·by_cases e : j = q
  ·rw [e, upd_same, upd_same]; exact ⟨htr, by omega, by omega⟩
  ·rw [hQ j (by omega), hLV _ (hne j j0 (by omega))]
   exact h.qr j j0 (by omega)
 ·by_cases ea : a = q <;> by_cases eb : b = q
  ·omega
  ·rw [ea, upd_same, hQ b (by omega)] at e; exact absurd e.symm (hne b b0 (by omega))
  ·rw [eb, upd_same, hQ a (by omega)] at e; exact absurd e (hne a a0 (by omega))
  ·rw [hQ a (by omega), hQ b (by omega)] at e; exact h.inj a b a0 (by omega) b0 (by omega) e
 ·by_cases e : v = t
  ·exact ⟨q, by omega, by rw [upd_same, e]⟩
  ·rw [hLV v e] at hv
   obtain ⟨j, hj, e2⟩ := h.mem v v0 v1 hv
   exact ⟨j, by omega, by rw [hQ j (by omega)]; exact e2⟩
 ·by_cases e : v = t
  ·rw [e, upd_same]; omega
  ·rw [hLV v e]; exact h.neg v v0 v1
 ·rw [hQ j (by omega)] at c1 hLc ⊢
  exact hup _ (h.cl j c j0 j1 c0 c1 hLc)
 ·rw [hQ i (by omega)] at hLc ⊢
  by_cases e : c = k
  ·rw [e, ← ht, upd_same]; omega
  ·exact hup _ (h.clk i1 c c0 (by omega) hLc)
 ·by_cases e : v = t
  ·refine ⟨Q i, k, hqi.1, ⟨k0, k1⟩, ?_, hL, by rw [e, ht]⟩
   rw [e, upd_same, hLV _ (hne i i0 i1)]
  ·rw [hLV v e] at hv
   obtain ⟨u, c, hu, hc, h1, h2, h3⟩ := h.par v v0 v1 hv
   refine ⟨u, c, hu, hc, ?_, h2, h3⟩
   rw [hLV v e, hLV u (fun e2 => by rw [e2] at h1; omega)]
   exact h1
theorem Bfs.next (h : G.Bfs L LV Q q i k) (hk : k = G.OL (Q i)) (i1 : i < q) : G.Bfs L LV Q q (i + 1) 0 :=
 ⟨h.q1, h.qz, h.src, h.zero, h.qr, h.inj, h.mem, h.neg, fun j c j0 j1 c0 c1 hL => by
  by_cases e : j = i
  ·rw [e] at c1 hL ⊢; exact h.clk i1 c c0 (by omega) hL
  ·exact h.cl j c j0 (by omega) c0 c1 hL, fun _ c c0 c1 => by omega, h.par⟩
theorem Bfs.done (h : G.Bfs L LV Q q i k) (hi : i = q) : G.Lev L LV := by
 have hle := h.le
 refine ⟨h.src, h.zero, fun v v0 v1 => ⟨h.neg v v0 v1, ?_⟩, fun v c v0 v1 c0 c1 hv hL => ?_, h.par⟩
 ·by_cases e : 0 ≤ LV v
  ·obtain ⟨j, hj, e2⟩ := h.mem v v0 v1 e
   have := (h.qr j hj.1 hj.2).2.2
   rw [e2] at this
   omega
  ·omega
 ·obtain ⟨j, hj, e2⟩ := h.mem v v0 v1 hv
  have := h.cl j c hj.1 (by omega) c0 (by rw [e2]; exact c1) (by rw [e2]; exact hL)
  rw [e2] at this
  exact this
end
def Dead (G : Net) (L LV NX : Int → Int) : Prop := ∀ v k : Int, 0 ≤ v → v < G.nn → 0 ≤ k → k < NX v → L (G.OE v k) = 0 ∨ LV (G.TO (G.OE v k)) ≠ LV v + 1 ∨ (G.TO (G.OE v k) ≠ G.nn - 1 ∧ NX (G.TO (G.OE v k)) = G.OL (G.TO (G.OE v k)))
theorem Dead.none {G : Net} {L LV NX : Int → Int} (hG : G.Ok) (hl : G.Lev L LV) (h : G.Dead L LV NX) (h0 : NX 0 = G.OL 0) : LV (G.nn - 1) < 0 := by
 have h2 := hG.n2
 have key : ∀ n : Nat, ∀ v : Int, 0 ≤ v → v < G.nn → LV v = n → v ≠ G.nn - 1 ∧ NX v = G.OL v := by
  intro n
  induction n with
  | zero =>
   intro v v0 v1 hv
   rw [hl.zero v v0 v1 hv]
   exact ⟨by omega, h0⟩
  | succ n ih =>
   intro v v0 v1 hv
   obtain ⟨u, c, hu, hc, h3, h4, h5⟩ := hl.par v v0 v1 (by omega)
   have hd := ih u hu.1 hu.2 (by omega)
   rcases h u c hu.1 hu.2 hc.1 (by rw [hd.2]; exact hc.2) with h6 | h6 | h6
   ·omega
   ·rw [h5] at h6; omega
   ·rw [h5] at h6; exact h6
 refine Classical.byContradiction fun hn => ?_
 obtain ⟨n, hn2⟩ := Int.eq_ofNat_of_zero_le (show 0 ≤ LV (G.nn - 1) by omega)
 exact (key n (G.nn - 1) (by omega) (by omega) hn2).1 rfl
theorem Dead.init (G : Net) (L LV : Int → Int) : G.Dead L LV (fun _ => 0) := fun v k _ _ k0 k1 => by have k2 : k < 0 := k1; omega
theorem Dead.step {G : Net} {L LV NX : Int → Int} {v : Int} (h : G.Dead L LV NX) (hle : ∀ u : Int, 0 ≤ u → u < G.nn → NX u ≤ G.OL u) (hG : G.Ok) (_ : 0 ≤ v) (_ : v < G.nn) (hv : NX v < G.OL v)
  (hd : L (G.OE v (NX v)) = 0 ∨ LV (G.TO (G.OE v (NX v))) ≠ LV v + 1 ∨ (G.TO (G.OE v (NX v)) ≠ G.nn - 1 ∧ NX (G.TO (G.OE v (NX v))) = G.OL (G.TO (G.OE v (NX v))))) : G.Dead L LV (upd NX v (NX v + 1)) := fun u k u0 u1 k0 k1 => by
 have hkeep : ∀ t : Int, NX t = G.OL t → t ≠ v → upd NX v (NX v + 1) t = G.OL t := fun t ht hne => by rw [upd_ne _ _ hne]; exact ht
 have hlift : ∀ t : Int, NX t = G.OL t → upd NX v (NX v + 1) t = G.OL t := fun t ht => hkeep t ht fun e => by rw [e] at ht; omega
 by_cases e : u = v
 ·rw [e, upd_same] at k1
  rw [e]
  by_cases e2 : k = NX v
  ·rw [e2]
   exact hd.imp id fun h => h.imp id fun h => ⟨h.1, hlift _ h.2⟩
  ·exact (h v k (by omega) (by omega) k0 (by omega)).imp id fun h => h.imp id fun h => ⟨h.1, hlift _ h.2⟩
 ·rw [upd_ne _ _ e] at k1
  exact (h u k u0 u1 k0 k1).imp id fun h => h.imp id fun h => ⟨h.1, hlift _ h.2⟩
end Net
end Go.Proofs.YtbepolognfdkeaaGreat
set_option maxRecDepth 100000
namespace Go.Proofs.YtbepolognfdkeaaGreat
namespace Net
def conn (G : Net) (u v m : Int) : Net :=
 ⟨G.nn, G.np + 1, upd (upd G.TO (2 * G.np) v) (2 * G.np + 1) u, upd (upd G.OL u (G.OL u + 1)) v (G.OL v + 1), upd (upd G.OE u (upd (G.OE u) (G.OL u) (2 * G.np))) v (upd (G.OE v) (G.OL v) (2 * G.np + 1)), upd G.CP G.np m⟩
def connL (G : Net) (L : Int → Int) (m : Int) : Int → Int := upd (upd L (2 * G.np) m) (2 * G.np + 1) 0
def empty (nn : Nat) : Net := ⟨nn, 0, fun _ => 0, fun _ => 0, fun _ _ => 0, fun _ => 0⟩
theorem Ok.empty {nn : Nat} (h : 2 ≤ nn) : (empty nn).Ok :=
 ⟨h, fun e e0 e1 => by have h2 : e < 2 * ((0 : Nat) : Int) := e1; omega, fun v k v0 v1 k0 k1 => by have h2 : k < ((0 : Nat) : Int) := k1; omega, fun e e0 e1 => by have h2 : e < 2 * ((0 : Nat) : Int) := e1; omega, fun j j0 j1 => by have h2 : j < ((0 : Nat) : Int) := j1; omega⟩
section
variable {G : Net} {u v m : Int}
theorem conn_to0 : (G.conn u v m).TO (2 * G.np) = v := by unfold conn; dsimp only; rw [upd_ne _ _ (by omega), upd_same]
theorem conn_to1 : (G.conn u v m).TO (2 * G.np + 1) = u := by unfold conn; dsimp only; rw [upd_same]
theorem conn_to {e : Int} (h : e < 2 * G.np) : (G.conn u v m).TO e = G.TO e := by unfold conn; dsimp only; rw [upd_ne _ _ (by omega), upd_ne _ _ (by omega)]
theorem conn_cp {j : Int} (h : j < G.np) : (G.conn u v m).CP j = G.CP j := by unfold conn; dsimp only; rw [upd_ne _ _ (by omega)]
theorem conn_cpn : (G.conn u v m).CP G.np = m := by unfold conn; dsimp only; rw [upd_same]
theorem conn_ol (hne : u ≠ v) (t : Int) : (G.conn u v m).OL t = if t = v then G.OL v + 1 else if t = u then G.OL u + 1 else G.OL t := by
 unfold conn; dsimp only
 by_cases a : t = v
 ·rw [a, upd_same, if_pos rfl]
 ·rw [upd_ne _ _ a, if_neg a]
  by_cases b : t = u
  ·rw [b, upd_same, if_pos rfl]
  ·rw [upd_ne _ _ b, if_neg b]
theorem conn_oe (hne : u ≠ v) (t k : Int) : (G.conn u v m).OE t k = if t = v then upd (G.OE v) (G.OL v) (2 * G.np + 1) k else if t = u then upd (G.OE u) (G.OL u) (2 * G.np) k else G.OE t k := by
 unfold conn; dsimp only
 by_cases a : t = v
 ·rw [a, upd_same, if_pos rfl]
 ·rw [upd_ne _ _ a, if_neg a]
  by_cases b : t = u
  ·rw [b, upd_same, if_pos rfl]
  ·rw [upd_ne _ _ b, if_neg b]
theorem Ok.conn (hG : G.Ok) (u0 : 0 ≤ u) (u1 : u < G.nn) (v0 : 0 ≤ v) (v1 : v < G.nn) (hne : u ≠ v) (m0 : 0 ≤ m) : (G.conn u v m).Ok := by
 have hnp : (((G.conn u v m).np : Nat) : Int) = G.np + 1 := by show ((G.np + 1 : Nat) : Int) = _; omega
 have hxa : x1 (2 * G.np) = 2 * G.np + 1 := by unfold x1; rw [if_pos (by omega)]
 have hxb : x1 (2 * G.np + 1) = 2 * G.np := by unfold x1; rw [if_neg (by omega)]; omega
 have hnew : ∀ t k : Int, 0 ≤ t → t < G.nn → 0 ≤ k → k < G.OL t → (0 ≤ G.OE t k ∧ G.OE t k < 2 * (G.conn u v m).np) ∧ (G.conn u v m).TO (x1 (G.OE t k)) = t := fun t k t0 t1 k0 k1 => by
  obtain ⟨h1, h2⟩ := hG.out t k t0 t1 k0 k1
  have hx := x1_rng h1.1 h1.2
  exact ⟨by rw [hnp]; omega, by rw [conn_to hx.2]; exact h2⟩
 refine ⟨hG.n2, fun e e0 e1 => ?_, fun t k t0 t1 k0 k1 => ?_, fun e e0 e1 => ?_, fun j j0 j1 => ?_⟩
 ·rw [hnp] at e1
  show 0 ≤ (G.conn u v m).TO e ∧ (G.conn u v m).TO e < G.nn
  by_cases a : e = 2 * G.np + 1
  ·rw [a, conn_to1]; exact ⟨u0, u1⟩
  ·by_cases b : e = 2 * G.np
   ·rw [b, conn_to0]; exact ⟨v0, v1⟩
   ·rw [conn_to (by omega)]; exact hG.to e e0 (by omega)
 ·rw [conn_oe hne]
  rw [conn_ol hne] at k1
  by_cases a : t = v
  ·rw [if_pos a] at k1 ⊢
   by_cases c : k = G.OL v
   ·rw [c, upd_same, hxb, conn_to0, a]
    exact ⟨by rw [hnp]; omega, rfl⟩
   ·rw [upd_ne _ _ c, a]; exact hnew v k v0 v1 k0 (by omega)
  ·rw [if_neg a] at k1 ⊢
   by_cases b : t = u
   ·rw [if_pos b] at k1 ⊢
    by_cases c : k = G.OL u
    ·rw [c, upd_same, hxa, conn_to1, b]
     exact ⟨by rw [hnp]; omega, rfl⟩
    ·rw [upd_ne _ _ c, b]; exact hnew u k u0 u1 k0 (by omega)
   ·rw [if_neg b] at k1 ⊢
    exact hnew t k t0 t1 k0 k1
 ·rw [hnp] at e1
  by_cases a : e = 2 * G.np + 1
  ·rw [a, hxb, conn_to0]
   refine ⟨G.OL v, ⟨by omega, ?_⟩, ?_⟩
   ·rw [conn_ol hne, if_pos rfl]; omega
   ·rw [conn_oe hne, if_pos rfl, upd_same]
  ·by_cases b : e = 2 * G.np
   ·rw [b, hxa, conn_to1]
    refine ⟨G.OL u, ⟨by omega, ?_⟩, ?_⟩
    ·rw [conn_ol hne, if_neg hne, if_pos rfl]; omega
    ·rw [conn_oe hne, if_neg hne, if_pos rfl, upd_same]
   ·have hx := x1_rng (p := G.np) e0 (by omega)
    rw [conn_to hx.2]
    obtain ⟨k, hk, e2⟩ := hG.all e e0 (by omega)
    refine ⟨k, ⟨hk.1, ?_⟩, ?_⟩
    ·rw [conn_ol hne]
     split
     ·rename_i c; rw [c] at hk; omega
     ·split
      ·rename_i c; rw [c] at hk; omega
      ·exact hk.2
    ·rw [conn_oe hne]
     split
     ·rename_i c; rw [c] at hk e2; rw [upd_ne _ _ (by omega)]; exact e2
     ·split
      ·rename_i c; rw [c] at hk e2; rw [upd_ne _ _ (by omega)]; exact e2
      ·exact e2
 ·rw [hnp] at j1
  by_cases a : j = G.np
  ·rw [a, conn_cpn]; exact m0
  ·rw [conn_cp (by omega)]; exact hG.cp j j0 (by omega)
end
structure Is (nn : Nat) (A : List (Int × Int × Int)) (G : Net) : Prop where
 nn : G.nn = nn
 np : G.np = A.length
 to0 : ∀ j : Nat, ∀ h : j < A.length, G.TO (2 * j) = (A[j]).2.1
 to1 : ∀ j : Nat, ∀ h : j < A.length, G.TO (2 * j + 1) = (A[j]).1
 cp : ∀ j : Nat, ∀ h : j < A.length, G.CP j = (A[j]).2.2
theorem Is.nil (nn : Nat) : Is nn [] (empty nn) := ⟨rfl, rfl, fun j h => absurd h (Nat.not_lt_zero _), fun j h => absurd h (Nat.not_lt_zero _), fun j h => absurd h (Nat.not_lt_zero _)⟩
theorem Is.conn {nn : Nat} {A : List (Int × Int × Int)} {G : Net} (h : Is nn A G) (a : Int × Int × Int) : Is nn (A ++ [a]) (G.conn a.1 a.2.1 a.2.2) := by
 have hnp := h.np
 have hlast : (A ++ [a])[A.length]'(by simp) = a := by simp
 refine ⟨h.nn, by rw [List.length_append]; show G.np + 1 = _; rw [hnp]; rfl, fun j hj => ?_, fun j hj => ?_, fun j hj => ?_⟩
 ·rw [List.length_append] at hj
  by_cases c : j = A.length
  ·subst c
   rw [hlast, ← hnp]
   exact conn_to0
  ·have hj2 : j < A.length := by simp at hj; omega
   rw [conn_to (by omega), List.getElem_append_left hj2]
   exact h.to0 j hj2
 ·rw [List.length_append] at hj
  by_cases c : j = A.length
  ·subst c
   rw [hlast, ← hnp]
   exact conn_to1
  ·have hj2 : j < A.length := by simp at hj; omega
   rw [conn_to (by omega), List.getElem_append_left hj2]
   exact h.to1 j hj2
 ·rw [List.length_append] at hj
  by_cases c : j = A.length
  ·subst c
   rw [hlast, ← hnp]
   exact conn_cpn
  ·have hj2 : j < A.length := by simp at hj; omega
   rw [conn_cp (by omega), List.getElem_append_left hj2]
   exact h.cp j hj2
structure Fresh (G : Net) (L : Int → Int) : Prop where
 a : ∀ j : Int, 0 ≤ j → j < G.np → L (2 * j) = G.CP j
 b : ∀ j : Int, 0 ≤ j → j < G.np → L (2 * j + 1) = 0
theorem Fresh.nil (nn : Nat) (L : Int → Int) : (empty nn).Fresh L := ⟨fun j j0 j1 => by have h2 : j < ((0 : Nat) : Int) := j1; omega, fun j j0 j1 => by have h2 : j < ((0 : Nat) : Int) := j1; omega⟩
theorem Fresh.conn {G : Net} {L : Int → Int} (h : G.Fresh L) (u v m : Int) : (G.conn u v m).Fresh (G.connL L m) := by
 have hnp : (((G.conn u v m).np : Nat) : Int) = G.np + 1 := by show ((G.np + 1 : Nat) : Int) = _; omega
 refine ⟨fun j j0 j1 => ?_, fun j j0 j1 => ?_⟩
 ·rw [hnp] at j1
  unfold connL
  rw [upd_ne _ _ (by omega)]
  by_cases c : j = G.np
  ·rw [c, upd_same, conn_cpn]
  ·rw [upd_ne _ _ (by omega), conn_cp (by omega)]; exact h.a j j0 (by omega)
 ·rw [hnp] at j1
  unfold connL
  by_cases c : j = G.np
  ·rw [c, upd_same]
  ·rw [upd_ne _ _ (by omega), upd_ne _ _ (by omega)]; exact h.b j j0 (by omega)
theorem Fresh.flow {G : Net} {L : Int → Int} (hG : G.Ok) (h : G.Fresh L) : G.Flow L 0 := by
 refine ⟨fun e e0 e1 => ?_, fun j j0 j1 => by rw [h.a j j0 j1, h.b j j0 j1]; omega, fun g => ?_⟩
 ·rcases (show e % 2 = 0 ∨ e % 2 = 1 by omega) with c | c
  ·have := h.a (e / 2) (by omega) (by omega)
   rw [show 2 * (e / 2) = e by omega] at this
   rw [this]; exact hG.cp _ (by omega) (by omega)
  ·have := h.b (e / 2) (by omega) (by omega)
   rw [show 2 * (e / 2) + 1 = e by omega] at this
   rw [this]; exact Int.le_refl _
 ·rw [Int.zero_mul]
  exact sm_zeroG fun j j0 j1 => by rw [h.b j j0 j1, Int.zero_mul]
end Net
end Go.Proofs.YtbepolognfdkeaaGreat
