import Derived.Test.YtfbbagnpdfafjaaHaZ
import Derived.Test.YtfbbagnpdfafjaaHaQ
import Derived.Test.YtfbbagnpdfafjaaHaR
import Derived.Test.YtfbbagnpdfafjaaDtC
set_option maxRecDepth 100000
namespace Go.Proofs.Ytfbbagnpdfafjaa
open Go.RowKit Go.Proofs
def HM.mn (X : HM) : Nat := X.mo.toNat
def SrcV (H : List (Option Blk)) (ao : Option Addr) (n : Nat) (G : Int → Value) : Prop := ∀ (B : Nat) (w0 w : World), Own B w0 w H → IAt w.heap.size w ao n G
theorem SrcV.at {R : List (Option Blk)} {ao : Option Addr} {n : Nat} {G : Int → Value} (h : SrcV R ao n G) {B : Nat} {w0 w : World} (hO : Own B w0 w R) (hn : 0 < n) : ∃ b off, ao = some ⟨b, off, none⟩ ∧ ∀ {B : Nat} {w0 w : World}, Own B w0 w R → ∀ i : Int, 0 ≤ i → i < n → w.cell? ⟨b, off + i.toNat, none⟩ = some (G i) := by
 obtain ⟨b, off, e, _⟩ := (h B w0 w hO).open
 refine ⟨b, off, e hn, fun {B' w0' w'} hO' i i0 i1 => ?_⟩
 obtain ⟨b', off', e1, e2⟩ := (h B' w0' w' hO').open
 have e3 := e1 hn
 rw [e hn] at e3
 cases e3
 exact e2 w' (Below.refl _ _) i i0 i1
theorem SrcI.at {R : List (Option Blk)} {ao : Option Addr} {n : Nat} {g : Int → Int} (h : SrcI R ao n g) {B : Nat} {w0 w : World} (hO : Own B w0 w R) (hn : 0 < n) : ∃ b off, ao = some ⟨b, off, none⟩ ∧ ∀ {B : Nat} {w0 w : World}, Own B w0 w R → ∀ i : Int, 0 ≤ i → i < n → w.cell? ⟨b, off + i.toNat, none⟩ = some (iv (g i)) := SrcV.at (G := fun i => iv (g i)) h hO hn
theorem HAt.drewH {B : Nat} {w0 w : World} {hb : Nat} {X : HM} {Pl R : List (Option Blk)} (h : HAt B w0 w hb X Pl R) : HAt B w0 w.drew hb X Pl R := by
 obtain ⟨K, N, hO, hK, hPl⟩ := h
 exact ⟨K, N, hO.drew, hK, hPl⟩
theorem HAt.call1 {f : FuncId} {args : Array Value} {Q : Ending → Prop} {B : Nat} {w0 w : World} {hb : Nat} {X : HM} {Pl R : List (Option Blk)} (h : HAt B w0 w hb X Pl R)
  (hc : ∀ H, Own B w0 w H → R.Sublist H → Calls Try.prog f args w fun e w' => Q e ∧ Own B w0 w' H) :
  Calls Try.prog f args w fun e w' => Q e ∧ HAt B w0 w' hb X Pl R := by
 obtain ⟨K, N, hO, hK, hPl⟩ := h
 exact (hc _ hO (.cons _ (.cons _ (List.sublist_append_right _ _)))).mono fun e w' h => ⟨h.1, K, N, h.2, hK, hPl⟩
theorem HAt.open {B : Nat} {w0 w : World} {hb : Nat} {X : HM} {Pl R : List (Option Blk)} (h : HAt B w0 w hb X Pl R) : ∃ K N, Own B w0 w (houB hb (X.r K) :: K.blk :: (N ++ R)) ∧ HOk X K N ∧ Pl.Sublist N := h
section
variable (hb B : Nat) (X : HM) (Pl R : List (Option Blk)) (w0 w : World) (h : HAt B w0 w hb X Pl R) (hG : HG X)
include h hG
theorem account_in (i : Int) (hi : X.is i) :
  Calls Try.prog 31 #[ptr hb, iv i] w fun e w' => ∃ v c, e = .returned (.tuple #[.agg #[iv (X.acct i).cash, iv (X.acct i).fund, v, .bool (X.acct i).out], iv 0]) ∧
   IRow v 2 X.mn (fun m => iv ((X.acct i).pos m)) c ∧ HAt B w0 w' hb X Pl (c :: R) := by
 have h1 := account_any hb B X i Pl R w0 w h hG
 rw [show X.kno i = X.acct i from if_pos hi, if_pos hi, if_pos hi] at h1
 exact h1
end
theorem srcRow {E : TypeId} {a : Option Addr} {n p k : Nat} {g : Int → Int} {c : Option Blk} {R : List (Option Blk)} (h : IRow (.slice a n p) E n (fun m => iv (g m)) c) (hk : R[k]? = some c) : SrcI R a n g := fun _ _ _ hO => h.reads hO k hk
theorem HAt.own {B : Nat} {w0 w : World} {hb : Nat} {X : HM} {Pl R : List (Option Blk)} (h : HAt B w0 w hb X Pl R) : Own B w0 w R := h.fr
theorem perm_in {a b : Option Blk} (A N R : List (Option Blk)) : (A ++ (a :: b :: (N ++ R))).Perm (a :: b :: (N ++ (A ++ R))) :=
 (List.perm_append_comm_assoc A [a, b] (N ++ R)).trans (.cons _ (.cons _ (List.perm_append_comm_assoc A N R)))
theorem HAt.puts {B : Nat} {w0 w : World} {hb : Nat} {X : HM} {Pl R N : List (Option Blk)} {K : HK} (xs : List (Option Blk)) (hO : Own B w0 w (xs ++ (houB hb (X.r K) :: K.blk :: (N ++ R)))) (hK : HOk X K N) (hPl : Pl.Sublist N) : HAt B w0 w hb X Pl (xs ++ R) := ⟨K, N, hO.perm (perm_in xs N R), hK, hPl⟩
theorem HAt.pull {B : Nat} {w0 w : World} {hb : Nat} {X : HM} {Pl R : List (Option Blk)} (xs T : List (Option Blk)) (h : HAt B w0 w hb X Pl (T ++ (xs ++ R))) : ∃ K N, Own B w0 w (xs ++ (houB hb (X.r K) :: K.blk :: (N ++ (T ++ R)))) ∧ HOk X K N ∧ Pl.Sublist N := by
 obtain ⟨K, N, hO, hK, hPl⟩ := h
 refine ⟨K, N, hO.perm (.trans ?_ (perm_in xs N (T ++ R)).symm), hK, hPl⟩
 exact .cons _ (.cons _ (List.Perm.append_left N (List.perm_append_comm_assoc T xs R)))
theorem OTab.get9 {B : Nat} {w0 w : World} {v : Value} {T1 T2 : TypeId} {n : Nat} {L : Int → Nat} {F : Int → Int → Value} {H R : List (Option Blk)} (h : OTab v T1 T2 n L F H) (ho : Own B w0 w (H ++ R)) (i : Nat) (hi : i < n) :
  ∃ (c : Option Blk) (rv : Int → Value) (ch : Nat → Option Blk), IRow v T1 n rv c ∧ (∀ r : Nat, r < n → IRow (rv r) T2 (L r) (F r) (ch r)) ∧ Own B w0 w (ch i :: c :: (((List.range n).erase i).map ch ++ R)) := by
 obtain ⟨c, rv, ch, rfl, h2, h3⟩ := h
 refine ⟨c, rv, ch, h2, h3, ho.perm ?_⟩
 have p := (List.perm_cons_erase (List.mem_range.2 hi)).map ch
 exact ((p.append_right R).cons c).trans (List.Perm.swap _ _ _)
theorem OTab.put9 {B : Nat} {w0 w : World} {v x : Value} {T1 T2 : TypeId} {n m : Nat} {L : Int → Nat} {F : Int → Int → Value} {G : Int → Value} {R : List (Option Blk)} {c cr : Option Blk} {rv : Int → Value} {ch : Nat → Option Blk} (i : Nat) (hi : i < n)
  (hv : IRow v T1 n (upd rv i x) c) (h3 : ∀ r : Nat, r < n → IRow (rv r) T2 (L r) (F r) (ch r)) (hx : IRow x T2 m G cr) (ho : Own B w0 w (cr :: c :: (((List.range n).erase i).map ch ++ R))) :
  ∃ H, OTab v T1 T2 n (upd L i m) (upd F i G) H ∧ Own B w0 w (H ++ R) := by
 refine ⟨_, ⟨c, _, fun r => if r = i then cr else ch r, rfl, hv, fun r hr => ?_⟩, ho.perm ?_⟩
 ·show IRow _ _ _ _ (if r = i then cr else ch r)
  by_cases e : r = i
  ·subst e; rw [upd_same, upd_same, upd_same, if_pos rfl]; exact hx
  ·rw [upd_ne _ _ (by omega), upd_ne _ _ (by omega), upd_ne _ _ (by omega), if_neg e]; exact h3 r hr
 ·have p := (List.perm_cons_erase (List.mem_range.2 hi)).map (fun r => if r = i then cr else ch r)
  have e : ((List.range n).erase i).map (fun r => if r = i then cr else ch r) = ((List.range n).erase i).map ch := List.map_congr_left fun r hr => by
   have : r ≠ i := fun e => by rw [e] at hr; exact (List.Nodup.not_mem_erase List.nodup_range) hr
   exact if_neg this
  simp only [List.map_cons, if_true, e] at p
  exact (List.Perm.swap _ _ _).trans ((p.symm.append_right R).cons c)
theorem OTab.set9 {B : Nat} {w0 w : World} {v x : Value} {T1 T2 : TypeId} {n : Nat} {L : Int → Nat} {F : Int → Int → Value} {G : Int → Value} {R : List (Option Blk)} {c cr : Option Blk} {rv : Int → Value} {ch : Nat → Option Blk} (i : Nat) (hi : i < n)
  (hv : IRow v T1 n rv c) (h3 : ∀ r : Nat, r < n → IRow (rv r) T2 (L r) (F r) (ch r)) (ex : rv i = x) (hx : IRow x T2 (L i) G cr) (ho : Own B w0 w (cr :: c :: (((List.range n).erase i).map ch ++ R))) :
  ∃ H, OTab v T1 T2 n L (upd F i G) H ∧ Own B w0 w (H ++ R) := by
 have e1 : upd rv (i : Int) x = rv := by
  funext j
  unfold upd
  split
  ·rename_i e; rw [e, ex]
  ·rfl
 have e2 : upd L (i : Int) (L i) = L := by
  funext j
  unfold upd
  split
  ·rename_i e; rw [e]
  ·rfl
 have h := OTab.put9 (x := x) (m := L i) i hi (by rw [e1]; exact hv) h3 hx ho
 rw [e2] at h
 exact h
end Go.Proofs.Ytfbbagnpdfafjaa
set_option maxRecDepth 100000
namespace Go.Proofs.Ytfbbagnpdfafjaa
open Go.RowKit Go.Proofs
theorem smallTop_any (n most : Int) (B : Nat) (H : List (Option Blk)) (w0 w : World) (hO : Own B w0 w H) (hm : 0 ≤ most ∧ most ≤ 1000000) :
  Calls Try.prog 45 #[iv n, iv most] w fun e w' => e = .returned (iv (sml n most)) ∧ Own B w0 w' H := by
 have hr := sml_rng n hm.1
 have h0 : 0 ≤ n % 18446744073709551616 := Int.emod_nonneg _ (by decide)
 refine calls_of_run (F := [(0, _), (1, _)]) Try.func45 rfl Try.ntmps45 rfl rfl <| run_seq <| run_region <| rl_v rfl rfl rfl (ov_assign rfl rfl) <| rl_nil <| run_seq <| run_region <| rl_v rfl rfl rfl (ov_move rfl rfl) <| rl_v rfl rfl rfl (nv (ov_conv rfl Try.underlying2 Try.underlying90 rfl) (IntKind.wrap_u64 n)) <| rl_v rfl rfl rfl (ov_move rfl rfl) <| rl_v rfl rfl rfl (ov_add rfl rfl rfl (by omega)) ?_
 refine rl_v rfl rfl rfl (nv (ov_conv rfl Try.underlying2 Try.underlying90 rfl) ((IntKind.wrap_u64 (most + 1)).trans (Int.emod_eq_of_lt (by omega) (by omega)))) ?_
 refine rl_v rfl rfl rfl (ov_rem rfl rfl rfl h0 (by omega)) ?_
 refine rl_v rfl rfl rfl (nv (ov_conv rfl Try.underlying90 Try.underlying2 rfl) (IntWalk.i64_in _ (by show _ ≤ sml n most ∧ sml n most ≤ _; omega))) ?_
 refine rl_v rfl rfl rfl (ov_assign rfl rfl) <| rl_nil <| run_ret Try.func45 (res1 Try.results45 rfl) ?_
 exact ⟨rfl, hO⟩
end Go.Proofs.Ytfbbagnpdfafjaa
set_option maxRecDepth 100000
namespace Go.Proofs.Ytfbbagnpdfafjaa
open Go.RowKit Go.Proofs
theorem needZ {X : HM} (hk : X.k = 0) (hr : X.rate = 0) (a : HA) : X.need a = 0 := by
 unfold HM.need marF
 rw [hk, hr, Int.mul_zero]
 rfl
structure Dm (c p : Int → Int) (X : HM) : Prop where
 mem : X.mem = 5
 mo : X.mo = 1
 k : X.k = 0
 rate : X.rate = 0
 pr : X.pr 0 = 100
 out : ∀ j : Int, 0 ≤ j → j < 5 → (X.ac j).out = false
 cash : ∀ j : Int, 0 ≤ j → j < 5 → (X.ac j).cash = c j
 pos : ∀ j : Int, 0 ≤ j → j < 5 → (X.ac j).pos 0 = p j
section
variable {c p : Int → Int} {X : HM} (h : Dm c p X)
include h
theorem Dm.act {i : Int} (hi : 1 ≤ i ∧ i ≤ 5) : X.act i = 0 := by
 unfold HM.act
 rw [if_pos (show X.is i from ⟨hi.1, by rw [h.mem]; exact hi.2⟩), if_neg]
 rw [show X.acct i = X.ac (i - 1) from rfl, h.out (i - 1) (by omega) (by omega)]
 decide
theorem Dm.mny {i : Int} (hi : 1 ≤ i ∧ i ≤ 5) : X.mny i 100000 = 0 := by
 unfold HM.mny
 rw [if_neg (by rw [h.act hi]; decide)]
 exact if_pos (by decide)
theorem Dm.dep {i : Int} (hi : 1 ≤ i ∧ i ≤ 5) : Dm (upd c (i - 1) (c (i - 1) + 100000)) p (X.deposit i 100000) := by
 have e : X.deposit i 100000 = X.setA i { X.acct i with cash := (X.acct i).cash + 100000 } := if_pos (h.mny hi)
 have ej : ∀ j : Int, j ≠ i - 1 → (X.deposit i 100000).ac j = X.ac j := fun j hj => by rw [e]; exact upd_ne _ _ hj
 have ei : (X.deposit i 100000).ac (i - 1) = { X.acct i with cash := (X.acct i).cash + 100000 } := by rw [e]; exact upd_same _ _ _
 refine ⟨by rw [e]; exact h.mem, by rw [e]; exact h.mo, by rw [e]; exact h.k, by rw [e]; exact h.rate, by rw [e]; exact h.pr, fun j j0 j1 => ?_, fun j j0 j1 => ?_, fun j j0 j1 => ?_⟩
 ·by_cases q : j = i - 1
  ·rw [q, ei]; exact h.out (i - 1) (by omega) (by omega)
  ·rw [ej j q]; exact h.out j j0 j1
 ·by_cases q : j = i - 1
  ·rw [q, ei, upd_same]
   show (X.ac (i - 1)).cash + 100000 = _
   rw [h.cash (i - 1) (by omega) (by omega)]
  ·rw [ej j q, upd_ne _ _ q]; exact h.cash j j0 j1
 ·by_cases q : j = i - 1
  ·rw [q, ei]; exact h.pos (i - 1) (by omega) (by omega)
  ·rw [ej j q]; exact h.pos j j0 j1
theorem Dm.trd {b s q : Int} (hb : 0 ≤ b ∧ b < 5) (hs : 0 ≤ s ∧ s < 5) (hq : 1 ≤ q ∧ q ≤ 20) (hne : b ≠ s) (hc : ∀ j, 0 ≤ c j) : X.trd ⟨b + 1, s + 1, 0, q, 100⟩ = 0 := by
 have hmem := h.mem
 have hmo := h.mo
 have hd : X.due ⟨b + 1, s + 1, 0, q, 100⟩ = 0 := by show q * (X.pr 0 - 100) = 0; rw [h.pr]; exact Int.mul_zero _
 have h4 : ¬ X.no4 ⟨b + 1, s + 1, 0, q, 100⟩ := by
  unfold HM.no4 HM.is
  dsimp only
  omega
 have h1 : ¬ Ct.bad ⟨b + 1, s + 1, 0, q, 100⟩ := by
  unfold Ct.bad
  dsimp only
  omega
 have eb : X.acct (b + 1) = X.ac b := by show X.ac (b + 1 - 1) = _; rw [show b + 1 - 1 = b by omega]
 have es : X.acct (s + 1) = X.ac s := by show X.ac (s + 1 - 1) = _; rw [show s + 1 - 1 = s by omega]
 have hp : X.par ⟨b + 1, s + 1, 0, q, 100⟩ = 0 := by
  unfold HM.par
  rw [if_neg h4, if_neg h1, if_neg]
  dsimp only
  rw [eb, es, h.out b hb.1 hb.2, h.out s hs.1 hs.2]
  decide
 have c1 := h.cash b hb.1 hb.2
 have c2 := h.cash s hs.1 hs.2
 have hcb := hc b
 have hcs := hc s
 have hA : X.alw (X.acct (b + 1)) (X.newB ⟨b + 1, s + 1, 0, q, 100⟩) := .inl (by
  rw [needZ h.k h.rate]
  show 0 ≤ (X.acct (b + 1)).cash + X.due ⟨b + 1, s + 1, 0, q, 100⟩
  rw [eb]
  omega)
 have hB : X.alw (X.acct (s + 1)) (X.newS ⟨b + 1, s + 1, 0, q, 100⟩) := .inl (by
  rw [needZ h.k h.rate]
  show 0 ≤ (X.acct (s + 1)).cash - X.due ⟨b + 1, s + 1, 0, q, 100⟩
  rw [es]
  omega)
 unfold HM.trd
 rw [if_neg (by rw [hp]; decide)]
 exact if_pos ⟨hA, hB⟩
theorem Dm.trade {b s q : Int} (hb : 0 ≤ b ∧ b < 5) (hs : 0 ≤ s ∧ s < 5) (hq : 1 ≤ q ∧ q ≤ 20) (hne : b ≠ s) (hc : ∀ j, 0 ≤ c j) : Dm c (upd (upd p b (p b + q)) s (p s - q)) (X.trade ⟨b + 1, s + 1, 0, q, 100⟩) := by
 have hd : X.due ⟨b + 1, s + 1, 0, q, 100⟩ = 0 := by show q * (X.pr 0 - 100) = 0; rw [h.pr]; exact Int.mul_zero _
 have e : X.trade ⟨b + 1, s + 1, 0, q, 100⟩ = { (X.setA (b + 1) (X.newB ⟨b + 1, s + 1, 0, q, 100⟩)).setA (s + 1) (X.newS ⟨b + 1, s + 1, 0, q, 100⟩) with n := X.n + 1, ct := upd X.ct X.n ⟨b + 1, s + 1, 0, q, 100⟩ } := if_pos (h.trd hb hs hq hne hc)
 have ea : ∀ j : Int, (X.trade ⟨b + 1, s + 1, 0, q, 100⟩).ac j = if j = s then X.newS ⟨b + 1, s + 1, 0, q, 100⟩ else if j = b then X.newB ⟨b + 1, s + 1, 0, q, 100⟩ else X.ac j := fun j => by
  rw [e]
  show upd (upd X.ac (b + 1 - 1) _) (s + 1 - 1) _ j = _
  rw [show b + 1 - 1 = b by omega, show s + 1 - 1 = s by omega]
  rfl
 have eb : X.acct (b + 1) = X.ac b := by show X.ac (b + 1 - 1) = _; rw [show b + 1 - 1 = b by omega]
 have es : X.acct (s + 1) = X.ac s := by show X.ac (s + 1 - 1) = _; rw [show s + 1 - 1 = s by omega]
 refine ⟨by rw [e]; exact h.mem, by rw [e]; exact h.mo, by rw [e]; exact h.k, by rw [e]; exact h.rate, by rw [e]; exact h.pr, fun j j0 j1 => ?_, fun j j0 j1 => ?_, fun j j0 j1 => ?_⟩
 ·rw [ea j]
  by_cases q1 : j = s
  ·rw [if_pos q1]
   show (X.acct (s + 1)).out = false
   rw [es]
   exact h.out s hs.1 hs.2
  ·rw [if_neg q1]
   by_cases q2 : j = b
   ·rw [if_pos q2]
    show (X.acct (b + 1)).out = false
    rw [eb]
    exact h.out b hb.1 hb.2
   ·rw [if_neg q2]
    exact h.out j j0 j1
 ·rw [ea j]
  by_cases q1 : j = s
  ·rw [if_pos q1]
   show (X.acct (s + 1)).cash - X.due ⟨b + 1, s + 1, 0, q, 100⟩ = _
   rw [hd, es, Int.sub_zero, q1]
   exact h.cash s hs.1 hs.2
  ·rw [if_neg q1]
   by_cases q2 : j = b
   ·rw [if_pos q2]
    show (X.acct (b + 1)).cash + X.due ⟨b + 1, s + 1, 0, q, 100⟩ = _
    rw [hd, eb, Int.add_zero, q2]
    exact h.cash b hb.1 hb.2
   ·rw [if_neg q2]
    exact h.cash j j0 j1
 ·rw [ea j]
  unfold upd
  by_cases q1 : j = s
  ·rw [if_pos q1, if_pos q1]
   show upd (X.acct (s + 1)).pos 0 ((X.acct (s + 1)).pos 0 - q) 0 = _
   rw [upd_same, es, h.pos s hs.1 hs.2]
  ·rw [if_neg q1, if_neg q1]
   by_cases q2 : j = b
   ·rw [if_pos q2, if_pos q2]
    show upd (X.acct (b + 1)).pos 0 ((X.acct (b + 1)).pos 0 + q) 0 = _
    rw [upd_same, eb, h.pos b hb.1 hb.2]
   ·rw [if_neg q2, if_neg q2]
    exact h.pos j j0 j1
theorem Dm.bad {b q : Int} (hb : 0 ≤ b ∧ b < 5) : X.trd ⟨b + 1, b + 1, 0, q, 100⟩ = 1 := by
 have hmem := h.mem
 have hmo := h.mo
 have h4 : ¬ X.no4 ⟨b + 1, b + 1, 0, q, 100⟩ := by
  unfold HM.no4 HM.is
  dsimp only
  omega
 have hp : X.par ⟨b + 1, b + 1, 0, q, 100⟩ = 1 := by
  unfold HM.par
  rw [if_neg h4]
  exact if_pos (.inl rfl)
 unfold HM.trd
 rw [if_pos (by rw [hp]; decide)]
 exact hp
theorem Dm.mrk {r : Int} (hr : -99 ≤ r ∧ r ≤ 151) : X.mrk 0 (100 + r) = 0 := by
 have hmo := h.mo
 unfold HM.mrk
 rw [if_neg (by omega)]
 exact if_pos (by omega)
theorem Dm.marked {r : Int} (hr : -99 ≤ r ∧ r ≤ 151) (hc : ∀ j, 0 ≤ j → j < 5 → 0 ≤ c j + p j * r) : (X.mark 0 (100 + r)).mem = 5 ∧ (∀ j : Int, 0 ≤ j → j < 5 → ((X.mark 0 (100 + r)).ac j).cash = c j + p j * r) ∧ X.mkl 0 (100 + r) = [] := by
 have e : X.mark 0 (100 + r) = { X with ac := fun j => X.mkA 0 (100 + r) (X.ac j), pr := upd X.pr 0 (100 + r) } := if_pos (h.mrk hr)
 have ec : ∀ j : Int, 0 ≤ j → j < 5 → ((X.mark 0 (100 + r)).ac j).cash = c j + p j * r := fun j j0 j1 => by
  rw [e]
  show (X.ac j).cash + (X.ac j).pos 0 * (100 + r - X.pr 0) = _
  rw [h.cash j j0 j1, h.pos j j0 j1, h.pr, show 100 + r - 100 = r by omega]
 refine ⟨by rw [e]; exact h.mem, ec, ?_⟩
 have en : ∀ k : Nat, (k : Int) ≤ 5 → (X.mark 0 (100 + r)).cls k = [] := fun k => by
  induction k with
  | zero => intro _; rfl
  | succ k ih =>
   intro hk
   unfold HM.cls
   rw [if_neg]
   ·exact ih (by omega)
   ·intro hu
    refine hu.2 ?_
    rw [needZ (by rw [e]; exact h.k) (by rw [e]; exact h.rate), ec k (by omega) (by omega)]
    exact hc k (by omega) (by omega)
 unfold HM.mkl
 rw [if_pos (h.mrk hr)]
 exact en X.mem (by rw [h.mem]; decide)
end
end Go.Proofs.Ytfbbagnpdfafjaa
