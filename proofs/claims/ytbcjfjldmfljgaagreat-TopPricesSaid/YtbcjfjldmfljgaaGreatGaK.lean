import Derived.Test.YtbcjfjldmfljgaaGreatItk
import Derived.Shelf.SortM.Plain
import Derived.Shelf.SortM.SortNone
import Derived.Shelf.SlGeneric
import Derived.Shelf.Lay
import Derived.Ground.SlgmProg
set_option maxRecDepth 100000
namespace Go.Proofs.YtbcjfjldmfljgaaGreat
open Go.RowKit Go.Proofs Go.MapKept
def Tryz.sortInts_ren : Go.Shelf.Ren := ⟨fun | 5 => 17 | 8 => 34 | 7 => 33 | 19 => 65 | 20 => 66 | 10 => 56 | 11 => 57 | 12 => 58 | 13 => 59 | 14 => 60 | 15 => 61 | 16 => 62 | 17 => 63 | 18 => 64 | 30 => 79 | 31 => 80 | 32 => 81 | 33 => 82 | 34 => 83 | 35 => 84 | 40 => 93 | n => n, fun | 23 => 30 | 25 => 3 | 3 => 3 | 32 => 23 | 22 => 30 | 0 => 0 | 44 => 101 | 46 => 42 | 4 => 4 | 36 => 93 | 35 => 92 | 41 => 98 | 5 => 5 | 9 => 9 | 53 => 113 | 57 => 117 | 63 => 129 | 64 => 130 | n => n, fun | n => n⟩
theorem Tryz.sortInts : Go.Proofs.SlLaysM.n5 Tryz.prog Tryz.sortInts_ren := {
  mixed := by kernel_rfl
  f5 := ⟨Tryz.f17.name, by decide, Tryz.func17.trans (congrArg some (by kernel_rfl))⟩
  f7 := ⟨Tryz.f33.name, by decide, Tryz.func33.trans (congrArg some (by kernel_rfl))⟩
  f8 := Tryz.func34.trans (congrArg some (by kernel_rfl))
  f10 := ⟨Tryz.f56.name, by decide, Tryz.func56.trans (congrArg some (by kernel_rfl))⟩
  f11 := ⟨Tryz.f57.name, by decide, Tryz.func57.trans (congrArg some (by kernel_rfl))⟩
  f12 := ⟨Tryz.f58.name, by decide, Tryz.func58.trans (congrArg some (by kernel_rfl))⟩
  f13 := ⟨Tryz.f59.name, by decide, Tryz.func59.trans (congrArg some (by kernel_rfl))⟩
  f14 := ⟨Tryz.f60.name, by decide, Tryz.func60.trans (congrArg some (by kernel_rfl))⟩
  f15 := ⟨Tryz.f61.name, by decide, Tryz.func61.trans (congrArg some (by kernel_rfl))⟩
  f16 := ⟨Tryz.f62.name, by decide, Tryz.func62.trans (congrArg some (by kernel_rfl))⟩
  f17 := ⟨Tryz.f63.name, by decide, Tryz.func63.trans (congrArg some (by kernel_rfl))⟩
  f18 := ⟨Tryz.f64.name, by decide, Tryz.func64.trans (congrArg some (by kernel_rfl))⟩
  f19 := Tryz.func65.trans (congrArg some (by kernel_rfl))
  f20 := Tryz.func66.trans (congrArg some (by kernel_rfl))
  f30 := ⟨Tryz.f79.name, by decide, Tryz.func79.trans (congrArg some (by kernel_rfl))⟩
  f31 := Tryz.func80.trans (congrArg some (by kernel_rfl))
  f32 := Tryz.func81.trans (congrArg some (by kernel_rfl))
  f33 := ⟨Tryz.f82.name, by decide, Tryz.func82.trans (congrArg some (by kernel_rfl))⟩
  f34 := ⟨Tryz.f83.name, by decide, Tryz.func83.trans (congrArg some (by kernel_rfl))⟩
  f35 := ⟨Tryz.f84.name, by decide, Tryz.func84.trans (congrArg some (by kernel_rfl))⟩
  f40 := ⟨Tryz.f93.name, by decide, Tryz.func93.trans (congrArg some (by kernel_rfl))⟩
  t0 := Tryz.underlying0
  a0 := Tryz.isAgg0
  z0 := Tryz.sizeOf0
  v0 := Tryz.zeroValue0
  t3 := Tryz.underlying3
  a3 := Tryz.isAgg3
  z3 := Tryz.sizeOf3
  v3 := Tryz.zeroValue3
  t4 := Tryz.underlying4
  a4 := Tryz.isAgg4
  z4 := Tryz.sizeOf4
  v4 := Tryz.zeroValue4
  t5 := Tryz.underlying5
  a5 := Tryz.isAgg5
  z5 := Tryz.sizeOf5
  v5 := Tryz.zeroValue5
  t9 := Tryz.underlying9
  a9 := Tryz.isAgg9
  z9 := Tryz.sizeOf9
  v9 := Tryz.zeroValue9
  t22 := Tryz.underlying30
  a22 := Tryz.isAgg30
  z22 := Tryz.sizeOf30
  v22 := Tryz.zeroValue30
  t23 := Tryz.underlying30
  a23 := Tryz.isAgg30
  z23 := Tryz.sizeOf30
  v23 := Tryz.zeroValue30
  t25 := Tryz.underlying3
  a25 := Tryz.isAgg3
  z25 := Tryz.sizeOf3
  v25 := Tryz.zeroValue3
  t32 := Tryz.underlying23
  a32 := Tryz.isAgg23
  z32 := Tryz.sizeOf23
  v32 := Tryz.zeroValue23
  t35 := Tryz.underlying92
  a35 := Tryz.isAgg92
  z35 := Tryz.sizeOf92
  v35 := Tryz.zeroValue92
  t36 := Tryz.underlying93
  a36 := Tryz.isAgg93
  z36 := Tryz.sizeOf93
  v36 := Tryz.zeroValue93
  t41 := Tryz.underlying98
  a41 := Tryz.isAgg98
  z41 := Tryz.sizeOf98
  v41 := Tryz.zeroValue98
  t44 := Tryz.underlying101
  a44 := Tryz.isAgg101
  z44 := Tryz.sizeOf101
  v44 := Tryz.zeroValue101
  t46 := Tryz.underlying42
  a46 := Tryz.isAgg42
  z46 := Tryz.sizeOf42
  v46 := Tryz.zeroValue42
  t53 := Tryz.underlying113
  a53 := Tryz.isAgg113
  z53 := Tryz.sizeOf113
  v53 := Tryz.zeroValue113
  t57 := Tryz.underlying117
  a57 := Tryz.isAgg117
  z57 := Tryz.sizeOf117
  v57 := Tryz.zeroValue117
  t63 := Tryz.underlying129
  a63 := Tryz.isAgg129
  z63 := Tryz.sizeOf129
  v63 := Tryz.zeroValue129
  t64 := Tryz.underlying130
  a64 := Tryz.isAgg130
  z64 := Tryz.sizeOf130
  v64 := Tryz.zeroValue130 }
theorem sortI_any (ob N cap : Nat) (X : Int → Int) (G : Int → Value) (w : World) (B : Nat) (w0 : World) (H : List (Option Blk)) (hN : 1 ≤ N) (hc : N ≤ cap) (hN2 : N ≤ 1000000) (hG : ∀ i : Int, 0 ≤ i → i < N → G i = iv (X i)) (hO : Own B w0 w (some (vch ob 3 cap G) :: H)) :
  Calls Tryz.prog 17 #[.slice (some ⟨ob, 0, none⟩) N cap] w fun e w' => e = .returned (.tuple #[]) ∧ ∃ zs : List Int, zs.Perm ((List.range N).map fun j : Nat => X (j : Int)) ∧ zs.Pairwise (· ≤ ·) ∧ Own B w0 w' (some (vch ob 3 cap (fun i => if i < N then iv (zs.getD i.toNat 0) else G i)) :: H) := by
 obtain ⟨ys, hys⟩ : ∃ ys : List Int, ys = (List.range N).map fun j : Nat => X (j : Int) := ⟨_, rfl⟩
 have hyl : ys.length = N := by rw [hys]; simp
 have hyj : ∀ (j : Nat), j < N → ys.toArray[j]! = X (j : Int) := fun j hj => by
  rw [getElem!_pos ys.toArray j (by simp; omega)]
  subst hys
  simp
 have h := AnyM.slices_Sort_int { Tryz.sortInts with } ob 0 cap ys w (fun j hj => by
  have hj' : j < N := by have : j < ys.toArray.size := hj; simp at this; omega
  refine ⟨?_, by rw [Nat.zero_add]; exact (hO.get 0 rfl).frozen j⟩
  have := hO.cellI 0 rfl (j : Int) (by omega) (by omega)
  rw [Int.toNat_natCast] at this
  rw [this, hG j (by omega) (by omega), hyj j hj']) (hO.lt 0 rfl) (by omega)
 change Calls Tryz.prog 17 _ _ _ at h
 rw [hyl] at h
 refine h.mono fun e w' ⟨he, n, os, hw⟩ => ⟨he, ys.mergeSort fun x y => decide (x ≤ y), ?_, ?_, ?_⟩
 ·rw [← hys]; exact List.mergeSort_perm _ _
 ·refine (List.pairwise_mergeSort (le := fun x y : Int => decide (x ≤ y)) (fun a b c h1 h2 => ?_) (fun a b => ?_) ys).imp fun h => of_decide_eq_true h
  ·have := of_decide_eq_true h1; have := of_decide_eq_true h2; exact decide_eq_true (by omega)
  ·by_cases c : a ≤ b
   ·simp [c]
   ·simp; omega
 ·have hl : (ys.mergeSort fun x y => decide (x ≤ y)).length = N := by rw [List.length_mergeSort, hyl]
  have hs := hO.sorted (enc := Value.int .i64) n (ys.mergeSort fun x y => decide (x ≤ y)).toArray os (by simp [hyl] : (ys.mergeSort fun x y => decide (x ≤ y)).toArray.size = N) hc
  rw [hw]
  have e : (fun i : Int => if i < (N : Int) then Value.int .i64 ((ys.mergeSort fun x y => decide (x ≤ y)).toArray[i.toNat]!) else G i) = fun i : Int => if i < (N : Int) then iv ((ys.mergeSort fun x y => decide (x ≤ y)).getD i.toNat 0) else G i := by
   funext i
   by_cases c : i < N
   ·rw [if_pos c, if_pos c, getElem!_pos _ i.toNat (by simp [hyl]; omega), List.getD_eq_getElem?_getD, List.getElem?_eq_getElem (by rw [hl]; omega)]
    rfl
   ·rw [if_neg c, if_neg c]
  rw [e] at hs
  exact hs
structure Rise (N : Nat) (X : Int → Int) : Prop where
 inc : ∀ a b : Int, 0 ≤ a → a < b → b < N → X a < X b
theorem rise_of {N : Nat} {X : Int → Int} {zs : List Int} (hi : ∀ a b : Int, 0 ≤ a → a < N → 0 ≤ b → b < N → X a = X b → a = b) (hp : zs.Perm ((List.range N).map fun j : Nat => X (j : Int))) (hs : zs.Pairwise (· ≤ ·)) :
  Rise N (fun i => zs.getD i.toNat 0) ∧ ∀ k : Int, (∃ j : Int, (0 ≤ j ∧ j < N) ∧ zs.getD j.toNat 0 = k) ↔ ∃ j : Int, (0 ≤ j ∧ j < N) ∧ X j = k := by
 have hl : zs.length = N := by rw [hp.length_eq]; simp
 have hnd : ((List.range N).map fun j : Nat => X (j : Int)).Nodup := by
  refine List.pairwise_map.2 (List.nodup_range.imp_of_mem fun {a b} ha hb hne e => hne ?_)
  have ha := List.mem_range.1 ha
  have hb := List.mem_range.1 hb
  have := hi a b (by omega) (by omega) (by omega) (by omega) e
  omega
 have hz : zs.Nodup := hp.nodup_iff.2 hnd
 have hget : ∀ i : Nat, ∀ h : i < N, zs.getD i 0 = zs[i]'(by omega) := fun i h => by rw [List.getD_eq_getElem?_getD, List.getElem?_eq_getElem (by omega)]; rfl
 refine ⟨⟨fun a b a0 ab b1 => ?_⟩, fun k => ⟨fun ⟨j, ⟨j0, j1⟩, e⟩ => ?_, fun ⟨j, ⟨j0, j1⟩, e⟩ => ?_⟩⟩
 ·show zs.getD a.toNat 0 < zs.getD b.toNat 0
  rw [hget a.toNat (by omega), hget b.toNat (by omega)]
  have h1 := List.pairwise_iff_getElem.1 hs a.toNat b.toNat (by omega) (by omega) (by omega)
  have h2 : zs[a.toNat]'(by omega) ≠ zs[b.toNat]'(by omega) := fun e => by have := nodup_injM hz (by omega) (by omega) e; omega
  omega
 ·have hm : k ∈ zs := by rw [← e, hget j.toNat (by omega)]; exact List.getElem_mem _
  obtain ⟨i, hi2, e2⟩ := List.mem_map.1 (hp.mem_iff.1 hm)
  exact ⟨i, ⟨by omega, by have := List.mem_range.1 hi2; omega⟩, e2⟩
 ·have hm : k ∈ zs := hp.mem_iff.2 (List.mem_map.2 ⟨j.toNat, List.mem_range.2 (by omega), by rw [show ((j.toNat : Nat) : Int) = j by omega]; exact e⟩)
  obtain ⟨i, hi2, e2⟩ := List.mem_iff_getElem.1 hm
  exact ⟨i, ⟨by omega, by omega⟩, by rw [Int.toNat_natCast, hget i (by omega)]; exact e2⟩
theorem sortR_any (va : Option Addr) (vc N : Nat) (X : Int → Int) (c : Option Blk) (w : World) (B : Nat) (w0 : World) (H : List (Option Blk)) (hv : IRow (.slice va N vc) 3 N (fun i => iv (X i)) c) (hN2 : N ≤ 1000000) (hi : ∀ a b : Int, 0 ≤ a → a < N → 0 ≤ b → b < N → X a = X b → a = b) (hO : Own B w0 w (c :: H)) :
  Calls Tryz.prog 17 #[.slice va N vc] w fun e w' => e = .returned (.tuple #[]) ∧ ∃ (X' : Int → Int) (c' : Option Blk), IRow (.slice va N vc) 3 N (fun i => iv (X' i)) c' ∧ Rise N X' ∧ (∀ k : Int, (∃ j : Int, (0 ≤ j ∧ j < N) ∧ X' j = k) ↔ ∃ j : Int, (0 ≤ j ∧ j < N) ∧ X j = k) ∧ Own B w0 w' (c' :: H) := by
 by_cases h0 : N = 0
 ·subst h0
  have h := AnyM.slices_Sort_int_none { Tryz.sortInts with } va vc w
  change Calls Tryz.prog 17 _ _ _ at h
  exact h.mono fun e w' ⟨h1, h2⟩ => ⟨h1, X, c, hv, ⟨fun a b a0 ab b1 => by omega⟩, fun k => Iff.rfl, by rw [h2]; exact hO⟩
 ·obtain ⟨ob, G, rfl, hnc, hmx, rfl, hG⟩ := hv.asV (by omega)
  refine (sortI_any ob N vc X G w B w0 H (by omega) hnc hN2 hG hO).mono fun e w' ⟨he, zs, hp, hs, hO2⟩ => ⟨he, fun i => zs.getD i.toNat 0, _, IRow.ofV hnc hmx fun i i0 i1 => if_pos i1, (rise_of hi hp hs).1, (rise_of hi hp hs).2, hO2⟩
end Go.Proofs.YtbcjfjldmfljgaaGreat
set_option maxRecDepth 100000
namespace Go.Proofs.YtbcjfjldmfljgaaGreat
structure Pick (p : Int → Prop) (n c : Nat) (K : Int → Int) : Prop where
 inc : Rise c K
 mem : ∀ i : Int, (∃ j : Int, (0 ≤ j ∧ j < c) ∧ K j = i) ↔ (0 ≤ i ∧ i < n) ∧ p i
 sum : ∀ f : Int → Int, sm (fun j => f (K j)) c = sm (fun i => ind (p i) * f i) n
 le : c ≤ n
theorem Pick.nil (p : Int → Prop) (K : Int → Int) : Pick p 0 0 K :=
 ⟨⟨fun a b _ _ _ => by omega⟩, fun i => ⟨fun ⟨j, hj, _⟩ => by omega, fun ⟨h, _⟩ => by omega⟩, fun f => rfl, Nat.le_refl _⟩
theorem Pick.no {p : Int → Prop} {n c : Nat} {K : Int → Int} (h : Pick p n c K) (hp : ¬ p n) : Pick p (n + 1) c K :=
 ⟨h.inc, fun i => by
  rw [h.mem i]
  constructor
  ·rintro ⟨a, b⟩; exact ⟨by omega, b⟩
  ·rintro ⟨a, b⟩
   by_cases e : i = n
   ·rw [e] at b; exact absurd b hp
   ·exact ⟨by omega, b⟩, fun f => by
  rw [show ((n + 1 : Nat) : Int) = (n : Int) + 1 by omega, sm_succ _ (by omega), ind_f hp, h.sum f]; omega, Nat.le_succ_of_le h.le⟩
theorem Pick.yes {p : Int → Prop} {n c : Nat} {K : Int → Int} (h : Pick p n c K) (hp : p n) : Pick p (n + 1) (c + 1) (upd K c n) :=
 ⟨⟨fun a b a0 ab b1 => by
  have hk : ∀ j : Int, 0 ≤ j → j < c → K j < n := fun j j0 j1 => ((h.mem (K j)).1 ⟨j, ⟨j0, j1⟩, rfl⟩).1.2
  by_cases e : b = c
  ·rw [e, upd_same, upd_ne _ _ (by omega)]; exact hk a a0 (by omega)
  ·rw [upd_ne _ _ e, upd_ne _ _ (by omega)]; exact h.inc.inc a b a0 ab (by omega)⟩, fun i => by
  constructor
  ·rintro ⟨j, hj, e⟩
   by_cases ej : j = c
   ·rw [ej, upd_same] at e; rw [← e]; exact ⟨by omega, hp⟩
   ·rw [upd_ne _ _ ej] at e
    have := (h.mem i).1 ⟨j, by omega, e⟩
    exact ⟨by omega, this.2⟩
  ·rintro ⟨a, b⟩
   by_cases e : i = n
   ·exact ⟨c, by omega, by rw [upd_same, e]⟩
   ·obtain ⟨j, hj, ej⟩ := (h.mem i).2 ⟨by omega, b⟩
    exact ⟨j, by omega, by rw [upd_ne _ _ (by omega)]; exact ej⟩, fun f => by
  rw [show ((n + 1 : Nat) : Int) = (n : Int) + 1 by omega, show ((c + 1 : Nat) : Int) = (c : Int) + 1 by omega, sm_succ _ (by omega), sm_succ _ (by omega), ind_t hp, upd_same, ← h.sum f, sm_congr (g := fun j => f (K j)) fun j j0 j1 => by rw [upd_ne _ _ (by omega)]]
  omega, by have := h.le; omega⟩
end Go.Proofs.YtbcjfjldmfljgaaGreat
