import Derived.Test.YtlldeifbfpmbaaaGreatFcG
import Derived.Test.YtlldeifbfpmbaaaGreatItk
import Derived.Shelf.SortM.Plain
import Derived.Shelf.SortM.SortNone
import Derived.Shelf.SlGeneric
import Derived.Shelf.Lay
import Derived.Ground.SlgmProg
import Derived.Test.YtlldeifbfpmbaaaGreatGaH
set_option maxRecDepth 100000
namespace Go.Proofs.YtlldeifbfpmbaaaGreat
open Go.RowKit Go.Proofs Go.MapKept
def Tryz.sortInts_ren : Go.Shelf.Ren := ⟨fun | 5 => 97 | 8 => 123 | 7 => 122 | 19 => 144 | 20 => 145 | 10 => 135 | 11 => 136 | 12 => 137 | 13 => 138 | 14 => 139 | 15 => 140 | 16 => 141 | 17 => 142 | 18 => 143 | 30 => 156 | 31 => 157 | 32 => 158 | 33 => 159 | 34 => 160 | 35 => 161 | 40 => 167 | n => n, fun | 23 => 23 | 25 => 3 | 3 => 3 | 32 => 49 | 22 => 23 | 0 => 0 | 44 => 196 | 46 => 106 | 4 => 4 | 36 => 206 | 35 => 205 | 41 => 177 | 5 => 5 | 9 => 9 | 53 => 219 | 57 => 223 | 63 => 229 | 64 => 230 | n => n, fun | n => n⟩
theorem Tryz.sortInts : Go.Proofs.SlLaysM.n5 Tryz.prog Tryz.sortInts_ren := {
  mixed := by kernel_rfl
  f5 := ⟨Tryz.f97.name, by decide, Tryz.func97.trans (congrArg some (by kernel_rfl))⟩
  f7 := ⟨Tryz.f122.name, by decide, Tryz.func122.trans (congrArg some (by kernel_rfl))⟩
  f8 := Tryz.func123.trans (congrArg some (by kernel_rfl))
  f10 := ⟨Tryz.f135.name, by decide, Tryz.func135.trans (congrArg some (by kernel_rfl))⟩
  f11 := ⟨Tryz.f136.name, by decide, Tryz.func136.trans (congrArg some (by kernel_rfl))⟩
  f12 := ⟨Tryz.f137.name, by decide, Tryz.func137.trans (congrArg some (by kernel_rfl))⟩
  f13 := ⟨Tryz.f138.name, by decide, Tryz.func138.trans (congrArg some (by kernel_rfl))⟩
  f14 := ⟨Tryz.f139.name, by decide, Tryz.func139.trans (congrArg some (by kernel_rfl))⟩
  f15 := ⟨Tryz.f140.name, by decide, Tryz.func140.trans (congrArg some (by kernel_rfl))⟩
  f16 := ⟨Tryz.f141.name, by decide, Tryz.func141.trans (congrArg some (by kernel_rfl))⟩
  f17 := ⟨Tryz.f142.name, by decide, Tryz.func142.trans (congrArg some (by kernel_rfl))⟩
  f18 := ⟨Tryz.f143.name, by decide, Tryz.func143.trans (congrArg some (by kernel_rfl))⟩
  f19 := Tryz.func144.trans (congrArg some (by kernel_rfl))
  f20 := Tryz.func145.trans (congrArg some (by kernel_rfl))
  f30 := ⟨Tryz.f156.name, by decide, Tryz.func156.trans (congrArg some (by kernel_rfl))⟩
  f31 := Tryz.func157.trans (congrArg some (by kernel_rfl))
  f32 := Tryz.func158.trans (congrArg some (by kernel_rfl))
  f33 := ⟨Tryz.f159.name, by decide, Tryz.func159.trans (congrArg some (by kernel_rfl))⟩
  f34 := ⟨Tryz.f160.name, by decide, Tryz.func160.trans (congrArg some (by kernel_rfl))⟩
  f35 := ⟨Tryz.f161.name, by decide, Tryz.func161.trans (congrArg some (by kernel_rfl))⟩
  f40 := ⟨Tryz.f167.name, by decide, Tryz.func167.trans (congrArg some (by kernel_rfl))⟩
  t0 := Tryz.underlying0
  a0 := Tryz.isAgg0
  z0 := Tryz.sizeOf0
  v0 := Tryz.zeroValue0
  t3 := Tryz.underlying3
  a3 := Tryz.isAgg3
  z3 := Tryz.sizeOf3
  v3 := Tryz.zeroValue3
  t4 := Tryz.underlying4
  a4 := Tryz.isAgg4
  z4 := Tryz.sizeOf4
  v4 := Tryz.zeroValue4
  t5 := Tryz.underlying5
  a5 := Tryz.isAgg5
  z5 := Tryz.sizeOf5
  v5 := Tryz.zeroValue5
  t9 := Tryz.underlying9
  a9 := Tryz.isAgg9
  z9 := Tryz.sizeOf9
  v9 := Tryz.zeroValue9
  t22 := Tryz.underlying23
  a22 := Tryz.isAgg23
  z22 := Tryz.sizeOf23
  v22 := Tryz.zeroValue23
  t23 := Tryz.underlying23
  a23 := Tryz.isAgg23
  z23 := Tryz.sizeOf23
  v23 := Tryz.zeroValue23
  t25 := Tryz.underlying3
  a25 := Tryz.isAgg3
  z25 := Tryz.sizeOf3
  v25 := Tryz.zeroValue3
  t32 := Tryz.underlying49
  a32 := Tryz.isAgg49
  z32 := Tryz.sizeOf49
  v32 := Tryz.zeroValue49
  t35 := Tryz.underlying205
  a35 := Tryz.isAgg205
  z35 := Tryz.sizeOf205
  v35 := Tryz.zeroValue205
  t36 := Tryz.underlying206
  a36 := Tryz.isAgg206
  z36 := Tryz.sizeOf206
  v36 := Tryz.zeroValue206
  t41 := Tryz.underlying177
  a41 := Tryz.isAgg177
  z41 := Tryz.sizeOf177
  v41 := Tryz.zeroValue177
  t44 := Tryz.underlying196
  a44 := Tryz.isAgg196
  z44 := Tryz.sizeOf196
  v44 := Tryz.zeroValue196
  t46 := Tryz.underlying106
  a46 := Tryz.isAgg106
  z46 := Tryz.sizeOf106
  v46 := Tryz.zeroValue106
  t53 := Tryz.underlying219
  a53 := Tryz.isAgg219
  z53 := Tryz.sizeOf219
  v53 := Tryz.zeroValue219
  t57 := Tryz.underlying223
  a57 := Tryz.isAgg223
  z57 := Tryz.sizeOf223
  v57 := Tryz.zeroValue223
  t63 := Tryz.underlying229
  a63 := Tryz.isAgg229
  z63 := Tryz.sizeOf229
  v63 := Tryz.zeroValue229
  t64 := Tryz.underlying230
  a64 := Tryz.isAgg230
  z64 := Tryz.sizeOf230
  v64 := Tryz.zeroValue230 }
theorem sortI_any (ob N cap : Nat) (X : Int → Int) (G : Int → Value) (w : World) (B : Nat) (w0 : World) (H : List (Option Blk)) (hN : 1 ≤ N) (hc : N ≤ cap) (hN2 : N ≤ 1000000) (hG : ∀ i : Int, 0 ≤ i → i < N → G i = iv (X i)) (hO : Own B w0 w (some (vch ob 3 cap G) :: H)) :
  Calls Tryz.prog 97 #[.slice (some ⟨ob, 0, none⟩) N cap] w fun e w' => e = .returned (.tuple #[]) ∧ ∃ zs : List Int, zs.Perm ((List.range N).map fun j : Nat => X (j : Int)) ∧ zs.Pairwise (· ≤ ·) ∧ Own B w0 w' (some (vch ob 3 cap (fun i => if i < N then iv (zs.getD i.toNat 0) else G i)) :: H) := by
 obtain ⟨ys, hys⟩ : ∃ ys : List Int, ys = (List.range N).map fun j : Nat => X (j : Int) := ⟨_, rfl⟩
 have hyl : ys.length = N := by rw [hys]; simp
 have hyj : ∀ (j : Nat), j < N → ys.toArray[j]! = X (j : Int) := fun j hj => by
  rw [getElem!_pos ys.toArray j (by simp; omega)]
  subst hys
  simp
 have h := AnyM.slices_Sort_int { Tryz.sortInts with } ob 0 cap ys w (fun j hj => by
  have hj' : j < N := by have : j < ys.toArray.size := hj; simp at this; omega
  refine ⟨?_, by rw [Nat.zero_add]; exact (hO.get 0 rfl).frozen j⟩
  have := hO.cellI 0 rfl (j : Int) (by omega) (by omega)
  rw [Int.toNat_natCast] at this
  rw [this, hG j (by omega) (by omega), hyj j hj']) (hO.lt 0 rfl) (by omega)
 change Calls Tryz.prog 97 _ _ _ at h
 rw [hyl] at h
 refine h.mono fun e w' ⟨he, n, os, hw⟩ => ⟨he, ys.mergeSort fun x y => decide (x ≤ y), ?_, ?_, ?_⟩
 ·rw [← hys]; exact List.mergeSort_perm _ _
 ·refine (List.pairwise_mergeSort (le := fun x y : Int => decide (x ≤ y)) (fun a b c h1 h2 => ?_) (fun a b => ?_) ys).imp fun h => of_decide_eq_true h
  ·have := of_decide_eq_true h1; have := of_decide_eq_true h2; exact decide_eq_true (by omega)
  ·by_cases c : a ≤ b
   ·simp [c]
   ·simp; omega
 ·have hl : (ys.mergeSort fun x y => decide (x ≤ y)).length = N := by rw [List.length_mergeSort, hyl]
  have hs := hO.sorted (enc := Value.int .i64) n (ys.mergeSort fun x y => decide (x ≤ y)).toArray os (by simp [hyl] : (ys.mergeSort fun x y => decide (x ≤ y)).toArray.size = N) hc
  rw [hw]
  have e : (fun i : Int => if i < (N : Int) then Value.int .i64 ((ys.mergeSort fun x y => decide (x ≤ y)).toArray[i.toNat]!) else G i) = fun i : Int => if i < (N : Int) then iv ((ys.mergeSort fun x y => decide (x ≤ y)).getD i.toNat 0) else G i := by
   funext i
   by_cases c : i < N
   ·rw [if_pos c, if_pos c, getElem!_pos _ i.toNat (by simp [hyl]; omega), List.getD_eq_getElem?_getD, List.getElem?_eq_getElem (by rw [hl]; omega)]
    rfl
   ·rw [if_neg c, if_neg c]
  rw [e] at hs
  exact hs
structure Rise (N : Nat) (X : Int → Int) : Prop where
 inc : ∀ a b : Int, 0 ≤ a → a < b → b < N → X a < X b
theorem rise_of {N : Nat} {X : Int → Int} {zs : List Int} (hi : ∀ a b : Int, 0 ≤ a → a < N → 0 ≤ b → b < N → X a = X b → a = b) (hp : zs.Perm ((List.range N).map fun j : Nat => X (j : Int))) (hs : zs.Pairwise (· ≤ ·)) :
  Rise N (fun i => zs.getD i.toNat 0) ∧ ∀ k : Int, (∃ j : Int, (0 ≤ j ∧ j < N) ∧ zs.getD j.toNat 0 = k) ↔ ∃ j : Int, (0 ≤ j ∧ j < N) ∧ X j = k := by
 have hl : zs.length = N := by rw [hp.length_eq]; simp
 have hnd : ((List.range N).map fun j : Nat => X (j : Int)).Nodup := by
  refine List.pairwise_map.2 (List.nodup_range.imp_of_mem fun {a b} ha hb hne e => hne ?_)
  have ha := List.mem_range.1 ha
  have hb := List.mem_range.1 hb
  have := hi a b (by omega) (by omega) (by omega) (by omega) e
  omega
 have hz : zs.Nodup := hp.nodup_iff.2 hnd
 have hget : ∀ i : Nat, ∀ h : i < N, zs.getD i 0 = zs[i]'(by omega) := fun i h => by rw [List.getD_eq_getElem?_getD, List.getElem?_eq_getElem (by omega)]; rfl
 refine ⟨⟨fun a b a0 ab b1 => ?_⟩, fun k => ⟨fun ⟨j, ⟨j0, j1⟩, e⟩ => ?_, fun ⟨j, ⟨j0, j1⟩, e⟩ => ?_⟩⟩
 ·show zs.getD a.toNat 0 < zs.getD b.toNat 0
  rw [hget a.toNat (by omega), hget b.toNat (by omega)]
  have h1 := List.pairwise_iff_getElem.1 hs a.toNat b.toNat (by omega) (by omega) (by omega)
  have h2 : zs[a.toNat]'(by omega) ≠ zs[b.toNat]'(by omega) := fun e => by have := nodup_injM hz (by omega) (by omega) e; omega
  omega
 ·have hm : k ∈ zs := by rw [← e, hget j.toNat (by omega)]; exact List.getElem_mem _
  obtain ⟨i, hi2, e2⟩ := List.mem_map.1 (hp.mem_iff.1 hm)
  exact ⟨i, ⟨by omega, by have := List.mem_range.1 hi2; omega⟩, e2⟩
 ·have hm : k ∈ zs := hp.mem_iff.2 (List.mem_map.2 ⟨j.toNat, List.mem_range.2 (by omega), by rw [show ((j.toNat : Nat) : Int) = j by omega]; exact e⟩)
  obtain ⟨i, hi2, e2⟩ := List.mem_iff_getElem.1 hm
  exact ⟨i, ⟨by omega, by omega⟩, by rw [Int.toNat_natCast, hget i (by omega)]; exact e2⟩
theorem sortR_any (va : Option Addr) (vc N : Nat) (X : Int → Int) (c : Option Blk) (w : World) (B : Nat) (w0 : World) (H : List (Option Blk)) (hv : IRow (.slice va N vc) 3 N (fun i => iv (X i)) c) (hN2 : N ≤ 1000000) (hi : ∀ a b : Int, 0 ≤ a → a < N → 0 ≤ b → b < N → X a = X b → a = b) (hO : Own B w0 w (c :: H)) :
  Calls Tryz.prog 97 #[.slice va N vc] w fun e w' => e = .returned (.tuple #[]) ∧ ∃ (X' : Int → Int) (c' : Option Blk), IRow (.slice va N vc) 3 N (fun i => iv (X' i)) c' ∧ Rise N X' ∧ (∀ k : Int, (∃ j : Int, (0 ≤ j ∧ j < N) ∧ X' j = k) ↔ ∃ j : Int, (0 ≤ j ∧ j < N) ∧ X j = k) ∧ Own B w0 w' (c' :: H) := by
 by_cases h0 : N = 0
 ·subst h0
  have h := AnyM.slices_Sort_int_none { Tryz.sortInts with } va vc w
  change Calls Tryz.prog 97 _ _ _ at h
  exact h.mono fun e w' ⟨h1, h2⟩ => ⟨h1, X, c, hv, ⟨fun a b a0 ab b1 => by omega⟩, fun k => Iff.rfl, by rw [h2]; exact hO⟩
 ·obtain ⟨ob, G, rfl, hnc, hmx, rfl, hG⟩ := hv.asV (by omega)
  refine (sortI_any ob N vc X G w B w0 H (by omega) hnc hN2 hG hO).mono fun e w' ⟨he, zs, hp, hs, hO2⟩ => ⟨he, fun i => zs.getD i.toNat 0, _, IRow.ofV hnc hmx fun i i0 i1 => if_pos i1, (rise_of hi hp hs).1, (rise_of hi hp hs).2, hO2⟩
end Go.Proofs.YtlldeifbfpmbaaaGreat
set_option maxRecDepth 100000
namespace Go.Proofs.YtlldeifbfpmbaaaGreat
open Go.RowKit Go.Proofs Go.MapKept
def ldF (l : Lds) : Int → List Value := fun i => [iv (l.r i), iv (l.d i), iv (l.len i), iv (l.wo i)]
end Go.Proofs.YtlldeifbfpmbaaaGreat
set_option maxRecDepth 100000
namespace Go.Proofs.YtlldeifbfpmbaaaGreat
def Lds.Can (l : Lds) (k : Int) : Prop := ∃ x, l.Sched 1000000000 k x
namespace Lds
def Val (l : Lds) (i : Int) : Prop := 0 ≤ l.r i ∧ l.r i < l.d i ∧ l.d i ≤ 1000000 ∧ 1 ≤ l.len i ∧ l.len i ≤ l.d i - l.r i ∧ 0 ≤ l.wo i ∧ l.wo i ≤ 1000000
def Valid (l : Lds) : Prop := ∀ i : Int, 0 ≤ i → i < l.n → l.Val i
noncomputable def chk (l : Lds) : Int := if 256 < l.n then 2 else @ite _ l.Valid (Classical.propDecidable _) 0 1
noncomputable def chkK (l : Lds) (k : Int) : Int := if l.chk = 0 then (if 1 ≤ k ∧ k ≤ 64 then 0 else 1) else l.chk
theorem chk_ok {l : Lds} (hn : l.n ≤ 256) (h : l.Valid) : l.chk = 0 := by unfold chk; rw [if_neg (by omega), if_pos h]
theorem chk_bad {l : Lds} (hn : l.n ≤ 256) (h : ¬ l.Valid) : l.chk = 1 := by unfold chk; rw [if_neg (by omega), if_neg h]
theorem chk_long {l : Lds} (hn : 256 < l.n) : l.chk = 2 := by unfold chk; rw [if_pos hn]
theorem of_chk {l : Lds} (h : l.chk = 0) : l.n ≤ 256 ∧ l.Valid := by
 unfold chk at h
 by_cases c : 256 < l.n
 ·rw [if_pos c] at h; omega
 ·rw [if_neg c] at h
  by_cases c2 : l.Valid
  ·exact ⟨by omega, c2⟩
  ·rw [if_neg c2] at h; omega
theorem of_chkK {l : Lds} {k : Int} (h : l.chkK k = 0) : l.n ≤ 256 ∧ l.Valid ∧ 1 ≤ k ∧ k ≤ 64 := by
 unfold chkK at h
 by_cases c : l.chk = 0
 ·rw [if_pos c] at h
  obtain ⟨h1, h2⟩ := of_chk c
  by_cases c2 : 1 ≤ k ∧ k ≤ 64
  ·exact ⟨h1, h2, c2⟩
  ·rw [if_neg c2] at h; omega
 ·rw [if_neg c] at h; exact absurd h c
theorem chkK_ok {l : Lds} {k : Int} (hn : l.n ≤ 256) (h : l.Valid) (hk : 1 ≤ k ∧ k ≤ 64) : l.chkK k = 0 := by
 unfold chkK; rw [if_pos (chk_ok hn h), if_pos hk]
theorem Valid.fit {l : Lds} (h : l.Valid) : l.Fit 1000000 :=
 ⟨fun i a b => (h i a b).1, fun i a b => (h i a b).2.1, fun i a b => (h i a b).2.2.1, fun i a b => (h i a b).2.2.2.1, fun i a b => (h i a b).2.2.2.2.1⟩
structure I64 (l : Lds) : Prop where
 r : ∀ i : Int, 0 ≤ i → i < l.n → -9223372036854775808 ≤ l.r i ∧ l.r i ≤ 9223372036854775807
 d : ∀ i : Int, 0 ≤ i → i < l.n → -9223372036854775808 ≤ l.d i ∧ l.d i ≤ 9223372036854775807
 len : ∀ i : Int, 0 ≤ i → i < l.n → -9223372036854775808 ≤ l.len i ∧ l.len i ≤ 9223372036854775807
 wo : ∀ i : Int, 0 ≤ i → i < l.n → -9223372036854775808 ≤ l.wo i ∧ l.wo i ≤ 9223372036854775807
end Lds
end Go.Proofs.YtlldeifbfpmbaaaGreat
set_option maxRecDepth 100000
namespace Go.Proofs.YtlldeifbfpmbaaaGreat
open Go.RowKit Go.Proofs Go.MapKept
noncomputable instance (l : Lds) (k : Int) : Decidable (l.Can k) := Classical.propDecidable _
end Go.Proofs.YtlldeifbfpmbaaaGreat
