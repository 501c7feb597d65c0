import Derived.Test.YtbcjfjldmfljgaaGreatGaD
import Derived.Test.YtbcjfjldmfljgaaGreatHeld
import Derived.Shelf.GgSortFunc.Insertion
import Derived.RangeFuncLeaves
import Derived.RangeFuncRecord
import Derived.RangeFuncSeq
import Derived.OrdersIn
import Derived.TacticsIn
import Derived.Test.YtbcjfjldmfljgaaGreatMaps
import Derived.Maps.RangeRun
import Derived.Test.YtbcjfjldmfljgaaGreatBitA
import Derived.Test.YtbcjfjldmfljgaaGreatPrw
import Derived.Test.YtbcjfjldmfljgaaGreatFdA
import Derived.Test.YtbcjfjldmfljgaaGreatLate
import Derived.Test.YtbcjfjldmfljgaaGreatRul
set_option maxRecDepth 100000
namespace Go.Proofs.YtbcjfjldmfljgaaGreat
theorem sm_oneG {k x : Int} (x0 : 0 ≤ x) (x1 : x < k) (c : Int) : sm (fun i => if x = i then c else 0) k = c := by
 have e : (fun i => if x = i then c else 0) = upd (fun _ => 0) x c := by
  funext i
  unfold upd
  by_cases h : i = x
  ·rw [if_pos h.symm, if_pos h]
  ·rw [if_neg h, if_neg fun e => h e.symm]
 rw [e, sm_upd _ _ _ x0 x1, sm_const 0 (by omega)]
 omega
theorem sm_zeroG {f : Int → Int} {k : Int} (h : ∀ i : Int, 0 ≤ i → i < k → f i = 0) : sm f k = 0 := by
 rw [sm_congr (g := fun _ => 0) h]
 by_cases k0 : 0 ≤ k
 ·rw [sm_const 0 k0]; omega
 ·exact sm_neg _ (by omega)
theorem sm_uniG {p : Int → Prop} [∀ i, Decidable (p i)] {n : Int} (h : ∀ i j : Int, 0 ≤ i → i < n → 0 ≤ j → j < n → p i → p j → i = j) : sm (fun i => if p i then 1 else 0) n ≤ 1 := by
 by_cases c : ∃ i : Int, 0 ≤ i ∧ i < n ∧ p i
 ·obtain ⟨i, i0, i1, hi⟩ := c
  have e : sm (fun i => if p i then 1 else 0) n = sm (fun j => if i = j then 1 else 0) n := sm_congr fun j j0 j1 => by
   by_cases e : i = j
   ·rw [if_pos e, ← e, if_pos hi]
   ·rw [if_neg e, if_neg fun hj => e (h i j i0 i1 j0 j1 hi hj)]
  rw [e, sm_oneG i0 i1]
  omega
 ·rw [sm_zeroG fun i i0 i1 => if_neg fun hi => c ⟨i, i0, i1, hi⟩]
  omega
theorem pigeonG {e : Int → Int} {n m : Nat} (hr : ∀ k : Int, 0 ≤ k → k < n → 0 ≤ e k ∧ e k < m) (hd : ∀ a b : Int, 0 ≤ a → a < n → 0 ≤ b → b < n → e a = e b → a = b) : n ≤ m := by
 have h1 : sm (fun k => sm (fun b => if e k = b then 1 else 0) m) n = n := by
  rw [sm_congr (g := fun _ => 1) fun k k0 k1 => sm_oneG (hr k k0 k1).1 (hr k k0 k1).2 1, sm_const 1 (by omega)]
  omega
 rw [sm_swap] at h1
 have h2 : sm (fun b => sm (fun k => if e k = b then 1 else 0) n) m ≤ m * 1 := sm_bound 1 (by omega) fun b _ _ => sm_uniG fun i j i0 i1 j0 j1 h1 h2 => hd i j i0 i1 j0 j1 (h1.trans h2.symm)
 omega
end Go.Proofs.YtbcjfjldmfljgaaGreat
set_option maxRecDepth 100000
namespace Go.Proofs.YtbcjfjldmfljgaaGreat
theorem sm_one1 {f : Int → Int} {k a : Int} (a0 : 0 ≤ a) (a1 : a < k) (h : ∀ i : Int, 0 ≤ i → i < k → i ≠ a → f i = 0) : sm f k = f a := by
 have e : sm f k = sm (fun i => if a = i then f a else 0) k := sm_congr fun i i0 i1 => by
  by_cases c : a = i
  ·rw [if_pos c, c]
  ·rw [if_neg c]; exact h i i0 i1 (fun e => c e.symm)
 rw [e, sm_oneG a0 a1]
end Go.Proofs.YtbcjfjldmfljgaaGreat
set_option maxRecDepth 100000
namespace Go.Proofs.YtbcjfjldmfljgaaGreat
open Go.RowKit Go.Proofs
theorem heap_sort {α : Type} [Inhabited α] (enc : α → Value) (w : World) (ob n : Nat) (d : Array α) (os : Array Obj) {k : Nat} (hk : k < w.heap.size) (hne : k ≠ ob) : (sortWorld enc w ob 0 n d os).heap[k]? = w.heap[k]? := by
 unfold sortWorld
 rw [Sort.heap_grow_old _ _ (by rw [Sort.size_putRow]; exact hk)]
 unfold Sort.putRow Sort.mapBlock
 show (w.heap.modify ob _)[k]? = _
 rw [Array.getElem?_modify, if_neg (fun e => hne e.symm)]
theorem size_sort {α : Type} [Inhabited α] (enc : α → Value) (w : World) (ob n : Nat) (d : Array α) (os : Array Obj) : w.heap.size ≤ (sortWorld enc w ob 0 n d os).heap.size := by
 unfold sortWorld
 rw [Sort.size_grow, Sort.size_putRow]
 exact Nat.le_add_right _ _
theorem Own.sorted {α : Type} [Inhabited α] {enc : α → Value} {B : Nat} {w0 w : World} {H : List (Option Blk)} {ob cap nr : Nat} {E : TypeId} {G : Int → Value} (hO : Own B w0 w (some (vch ob E cap G) :: H)) (n : Nat) (d : Array α) (os : Array Obj) (hs : d.size = nr) (hc : nr ≤ cap) :
  Own B w0 (sortWorld enc w ob 0 n d os) (some (vch ob E cap (fun i => if i < nr then enc d[i.toNat]! else G i)) :: H) := by
 have hge : B ≤ ob := hO.ge _ (List.mem_cons_self ..)
 have hb := hO.get 0 rfl
 have hlt := hO.lt 0 rfl
 refine hO.updBB 0 rfl ⟨rfl, rfl, rfl, size_sort .., fun k hk => heap_sort enc w ob n d os (Nat.lt_trans (Nat.lt_of_lt_of_le hk hge) hlt) (by omega)⟩ (fun j hj hne => heap_sort enc w ob n d os hj hne) ?_ hge (.inl rfl)
 obtain ⟨c, h1, h2, h3⟩ := hb
 refine blkIs.of_row rfl ⟨Sort.putCells enc 0 d c, ?_, ?_, fun i hi => ?_⟩
 ·unfold sortWorld
  rw [Sort.heap_grow_old _ _ (by rw [Sort.size_putRow]; exact hlt)]
  unfold Sort.putRow Sort.mapBlock
  show (w.heap.modify ob _)[ob]? = _
  rw [Array.getElem?_modify, if_pos rfl]
  show (w.heap[ob]?).map _ = _
  have h1' : w.heap[ob]? = some (.cells c E (0, 0)) := h1
  rw [h1']
  rfl
 ·unfold Sort.putCells
  rw [Array.size_mapIdx]; exact h2
 ·have hi' : i < cap := hi
  have h4 : c[i]? = some (G i) := h3 i hi
  unfold Sort.putCells
  rw [Array.getElem?_mapIdx, h4]
  show some (if 0 ≤ i ∧ i < 0 + d.size then enc d[i - 0]! else G i) = some (if (i : Int) < nr then enc d[(i : Int).toNat]! else G i)
  by_cases e : i < nr
  ·rw [if_pos ⟨Nat.zero_le _, by omega⟩, if_pos (by omega)]; rfl
  ·rw [if_neg (by omega), if_neg (by omega)]
end Go.Proofs.YtbcjfjldmfljgaaGreat
set_option maxRecDepth 100000
namespace Go.Proofs.YtbcjfjldmfljgaaGreat
open Go.RowKit Go.Proofs Go.MapKept
theorem nodup_injM {α : Type} {l : List α} (h : l.Nodup) {i j : Nat} (hi : i < l.length) (hj : j < l.length) (e : l[i] = l[j]) : i = j := by
 have hp := List.pairwise_iff_getElem.1 h
 rcases Nat.lt_trichotomy i j with c | c | c
 ·exact absurd e (hp i j hi hj c)
 ·exact c
 ·exact absurd e.symm (hp j i hj hi c)
end Go.Proofs.YtbcjfjldmfljgaaGreat
set_option maxRecDepth 100000
namespace Go.Proofs.YtbcjfjldmfljgaaGreat
open Go.RowKit Go.Proofs
structure ClU (B : Nat) (w0 : World) (H : List (Option Blk)) (w : World) : Prop where
 own : Own B w0 w H
theorem IRow.cellU {ao : Option Addr} {m cap b : Nat} {E : TypeId} {n : Nat} {G : Int → Value} {c : Option Blk} {B : Nat} {w0 w : World} {H : List (Option Blk)} (h : IRow (.slice ao m cap) E n G c) (ho : Own B w0 w H) (k : Nat) (hk : H[k]? = some c) (ha : ao = some ⟨b, 0, none⟩) {i : Int} (i0 : 0 ≤ i) (i1 : i < n) : w.cell? ⟨b, 0 + i.toNat, none⟩ = some (G i) := by
 obtain ⟨b', e, r⟩ := h.openS ho k hk
 have := e (by omega)
 rw [ha] at this
 cases this
 exact r i i0 i1
theorem SRow.cellU {ao : Option Addr} {m cap b s n : Nat} {E : TypeId} {G : Int → List Value} {c : Option Blk} {B : Nat} {w0 w : World} {H : List (Option Blk)} (h : SRow (.slice ao m cap) E s n G c) (ho : Own B w0 w H) (k : Nat) (hk : H[k]? = some c) (ha : ao = some ⟨b, 0, none⟩) :
  ∀ i : Int, 0 ≤ i → i < n → ∀ fo, fo < s → w.cell? ⟨b, 0 + i.toNat * s + fo, none⟩ = some ((G i).getD fo undef) := fun i i0 i1 => by
 obtain ⟨b', e, r⟩ := h.openS ho k hk
 have := e (by omega)
 rw [ha] at this
 cases this
 exact r i i0 i1
theorem Own.iatU {B : Nat} {w0 w : World} {H : List (Option Blk)} (hO : Own B w0 w H) {ao : Option Addr} {n : Nat} {G : Int → Value} (h : IAt B w0 ao n G) : IAt w.heap.size w ao n G := (h.below hO.below).mono hO.size
theorem Own.satU {B : Nat} {w0 w : World} {H : List (Option Blk)} (hO : Own B w0 w H) {ao : Option Addr} {s n : Nat} {G : Int → List Value} (h : SAt B w0 ao s n G) : SAt w.heap.size w ao s n G := (h.below hO.below).mono hO.size
end Go.Proofs.YtbcjfjldmfljgaaGreat
