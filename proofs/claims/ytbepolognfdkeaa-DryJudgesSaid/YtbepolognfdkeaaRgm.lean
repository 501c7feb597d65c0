import Derived.Test.YtbepolognfdkeaaRgh
import Derived.Maps.RangeRun
set_option maxRecDepth 100000
namespace Go.Proofs.Ytbepolognfdkeaa
open Go.RowKit Go.Proofs Go.MapKept
theorem entsM_mem : ∀ (L : List (Int × Value)) (s : Nat) (e : MapEntry), e ∈ ents L s → ∃ i k v, L[i]? = some (k, v) ∧ e = ⟨.int .i64 k, v, s + i⟩
 | [], _, _, h => by cases h
 | (k, v) :: r, s, e, h => by
  rcases List.mem_cons.1 h with rfl | h
  ·exact ⟨0, k, v, rfl, rfl⟩
  ·obtain ⟨i, k', v', h1, h2⟩ := entsM_mem r (s + 1) e h
   exact ⟨i + 1, k', v', h1, by rw [h2]; congr 1; omega⟩
theorem entsM_at : ∀ (L : List (Int × Value)) (s i : Nat) (k : Int) (v : Value), L[i]? = some (k, v) → (⟨.int .i64 k, v, s + i⟩ : MapEntry) ∈ ents L s
 | (k0, v0) :: r, s, 0, k, v, h => by cases h; exact List.mem_cons_self ..
 | (k0, v0) :: r, s, i + 1, k, v, h => by
  have := entsM_at r (s + 1) i k v h
  rw [show s + 1 + i = s + (i + 1) by omega] at this
  exact List.mem_cons_of_mem _ this
theorem entsM_born : ∀ (L : List (Int × Value)) (s : Nat), ((ents L s).map (·.born)).Nodup ∧ ∀ b ∈ (ents L s).map (·.born), s ≤ b
 | [], _ => ⟨by simp [ents], fun b h => nomatch h⟩
 | (k, v) :: r, s => by
  obtain ⟨h1, h2⟩ := entsM_born r (s + 1)
  refine ⟨List.nodup_cons.2 ⟨fun h => ?_, h1⟩, fun b hb => ?_⟩
  ·have : s + 1 ≤ s := h2 _ h; omega
  ·rcases List.mem_cons.1 hb with rfl | hb
   ·exact Nat.le_refl _
   ·have := h2 b hb; omega
theorem nodup_injM {α : Type} {l : List α} (h : l.Nodup) {i j : Nat} (hi : i < l.length) (hj : j < l.length) (e : l[i] = l[j]) : i = j := by
 have hp := List.pairwise_iff_getElem.1 h
 rcases Nat.lt_trichotomy i j with c | c | c
 ·exact absurd e (hp i j hi hj c)
 ·exact c
 ·exact absurd e.symm (hp j i hj hi c)
abbrev itc (r bm n : Nat) (seen : Array Nat) : Blk := och r (.mapIter (some bm) n seen n)
section
variable {P : Program} {N : Nat} {o : Oper} {F : Fr} {w w0 : World} {B : Nat} {H : List (Option Blk)}
theorem ow_rangeM {T kt et : TypeId} {x : Operand} {d bm : Nat} {L : List (Int × Value)} (hd : o.dst = some d) (hN : Nat.blt d N = true) (ho : o.op = .range T x) (hT : P.underlying T = some (.map kt et)) (hO : Own B w0 w H) (kk : Nat) (hk : H[kk]? = some (some (mch bm L))) (hx : Fr.ev F x = some (.map (some bm))) :
  OpW P N o F w (fun F' w' => ∃ r, F' = (d, .pointer (some ⟨r, 0, none⟩)) :: F ∧ Own B w0 w' (some (itc r bm L.length #[]) :: H)) := by
 refine (ow_w (v := .pointer (some ⟨w.heap.size, 0, none⟩)) (w' := w.alloc (.mapIter (some bm) L.length #[] L.length)) hd hN (fun a ha => ?_)).mono fun F' w' ⟨h1, h2⟩ => ⟨w.heap.size, h1, by rw [h2]; exact hO.allocO _⟩
 have hrun := run_range_map (P := P) w T kt et bm _ _ hT (hO.mapAt kk hk)
 unfold execOp
 rw [ho]
 simp [ha.ev hx, hrun, Result.andThen]
theorem ow_nextM {x : Operand} {d r bm : Nat} {L : List (Int × Value)} {seen : Array Nat} (hd : o.dst = some d) (hN : Nat.blt d N = true) (ho : o.op = .next x false) (hO : Own B w0 w H) (ki : Nat) (hi : H[ki]? = some (some (itc r bm L.length seen))) (kk : Nat) (hk : H[kk]? = some (some (mch bm L))) (hx : Fr.ev F x = some (.pointer (some ⟨r, 0, none⟩))) :
  OpW P N o F w (fun F' w' => ∃ (b : Bool) (xs : Array Value) (seen' : Array Nat), F' = (d, .tuple xs) :: F ∧ xs[0]? = some (.bool b) ∧ Own B w0 w' (H.set ki (some (itc r bm L.length seen'))) ∧ (b = false → (∀ i : Nat, i < L.length → i ∈ seen) ∧ seen' = seen) ∧
   (b = true → ∃ (i : Nat) (k : Int) (v : Value), L[i]? = some (k, v) ∧ i ∉ seen ∧ seen' = seen.push i)) := by
 intro a ha K Q hK
 have hm := hO.mapAt kk hk
 have hit : w.heap[r]? = some (.mapIter (some bm) L.length seen L.length) := hO.atO ki hi
 have hold : ∀ y ∈ (ents L 0).toArray.toList, y.born < L.length := fun y hy => by
  obtain ⟨i, k, v, h1, rfl⟩ := entsM_mem L 0 y hy
  have := (List.getElem?_eq_some_iff.1 h1).1
  show 0 + i < _
  omega
 rcases run_next_at (P := P) w o.type r bm L.length L.length seen _ _ hit hm hold (Nat.le_refl _) with ⟨h0, hrun⟩ | ⟨e, he, w1, hw1, hrun⟩
 ·have hv : (execOp a.eval o).run P w = .ok (.value (.tuple #[.bool false])) w := by
   unfold execOp
   rw [ho]
   simp [ha.ev hx, hrun, Result.andThen]
  have hset : H.set ki (some (itc r bm L.length seen)) = H := by
   obtain ⟨h1, h2⟩ := List.getElem?_eq_some_iff.1 hi
   rw [← h2]; exact List.set_getElem_self h1
  unfold Oper.wp
  rw [hv]
  show K (a.put o.dst _) w
  rw [hd]
  refine hK _ _ _ ⟨false, _, seen, rfl, rfl, by rw [hset]; exact hO, fun _ => ⟨fun i hi2 => ?_, rfl⟩, fun h => Bool.noConfusion h⟩ (ha.put (lt_of_blt hN) _)
  have hL : L[i]? = some ((L[i]).1, (L[i]).2) := by rw [List.getElem?_eq_getElem hi2]
  have := all_seen _ seen h0 _ (show (⟨.int .i64 (L[i]).1, (L[i]).2, 0 + i⟩ : MapEntry) ∈ (ents L 0).toArray.toList from entsM_at L 0 i _ _ hL)
  rw [Nat.zero_add] at this
  simpa using this
 ·have hv : (execOp a.eval o).run P w = .ok (.value (.tuple #[.bool true, e.key, e.val])) (Go.ChangeMaps.setBlock w1 r (.mapIter (some bm) L.length (seen.push e.born) L.length)) := by
   unfold execOp
   rw [ho]
   simp [ha.ev hx, hrun, Result.andThen]
  have hO1 : Own B w0 w1 H := by
   rcases hw1 with rfl | rfl
   ·exact hO
   ·exact hO.drew
  unfold Oper.wp
  rw [hv]
  show K (a.put o.dst _) _
  rw [hd]
  refine hK _ _ _ ⟨true, _, seen.push e.born, rfl, rfl, hO1.putO ki hi _, fun h => Bool.noConfusion h, fun _ => ?_⟩ (ha.put (lt_of_blt hN) _)
  have hml := mem_left he
  obtain ⟨i, k, v, h1, h2⟩ := entsM_mem L 0 e hml.1
  refine ⟨i, k, v, h1, ?_, by rw [h2]; show seen.push (0 + i) = _; rw [Nat.zero_add]⟩
  have h3 := hml.2
  rw [h2] at h3
  dsimp only at h3
  rw [Nat.zero_add] at h3
  simpa using h3
theorem ov_entryM {x : Operand} {r bm i : Nat} {k : Int} {v : Value} {L : List (Int × Value)} {seen : Array Nat} (ho : o.op = .entry x) (hO : Own B w0 w H) (ki : Nat) (hi : H[ki]? = some (some (itc r bm L.length (seen.push i)))) (kk : Nat) (hk : H[kk]? = some (some (mch bm L))) (hi2 : L[i]? = some (k, v)) (hx : Fr.ev F x = some (.pointer (some ⟨r, 0, none⟩))) :
  OpV P N o F w (.tuple #[.int .i64 k, v]) := by
 intro a ha
 have he := entsM_at L 0 i k v hi2
 rw [Nat.zero_add] at he
 have hrun := run_entry_at (P := P) w r bm L.length seen _ _ (⟨.int .i64 k, v, i⟩ : MapEntry) (hO.atO ki hi) (hO.mapAt kk hk) he (entsM_born L 0).1
 unfold execOp
 rw [ho]
 simp [ha.ev hx, hrun, Result.andThen]
end
structure KeysTo (L : List (Int × Value)) (seen : Array Nat) (N : Nat) (X : Int → Int) : Prop where
 len : N = seen.size
 lt : ∀ i : Nat, i ∈ seen → i < L.length
 nd : seen.toList.Nodup
 at_ : ∀ j : Nat, j < N → ∃ v, L[seen[j]!]? = some (X j, v)
structure KeysOf (L : List (Int × Value)) (N : Nat) (X : Int → Int) : Prop where
 len : N = L.length
 inj : ∀ a b : Int, 0 ≤ a → a < N → 0 ≤ b → b < N → X a = X b → a = b
 mem : ∀ k : Int, (∃ j : Int, (0 ≤ j ∧ j < N) ∧ X j = k) ↔ k ∈ L.map (·.1)
theorem KeysTo.nil (L : List (Int × Value)) (X : Int → Int) : KeysTo L #[] 0 X := ⟨rfl, fun i h => by simp at h, by simp, fun j hj => by omega⟩
theorem KeysTo.step {L : List (Int × Value)} {seen : Array Nat} {N i : Nat} {X : Int → Int} {k : Int} {v : Value} (h : KeysTo L seen N X) (hi : L[i]? = some (k, v)) (hn : i ∉ seen) : KeysTo L (seen.push i) (N + 1) (upd X N k) := by
 have hl := h.len
 refine ⟨by rw [Array.size_push, hl], fun j hj => ?_, ?_, fun j hj => ?_⟩
 ·rcases Array.mem_push.1 hj with hj | hj
  ·exact h.lt j hj
  ·rw [hj]; exact (List.getElem?_eq_some_iff.1 hi).1
 ·rw [Array.toList_push]
  refine List.nodup_append.2 ⟨h.nd, by simp, fun a ha b hb => ?_⟩
  rw [List.mem_singleton.1 hb]
  exact fun e => hn (by rw [← e]; exact Array.mem_toList_iff.1 ha)
 ·by_cases e : j = N
  ·refine ⟨v, ?_⟩
   rw [e, upd_same, getElem!_pos (seen.push i) N (by rw [Array.size_push]; omega)]
   have : (seen.push i)[N]'(by rw [Array.size_push]; omega) = i := by
    simp [hl]
   rw [this]; exact hi
  ·obtain ⟨u, hu⟩ := h.at_ j (by omega)
   refine ⟨u, ?_⟩
   rw [upd_ne _ _ (by omega)]
   have e2 : (seen.push i)[j]! = seen[j]! := by
    rw [getElem!_pos (seen.push i) j (by rw [Array.size_push]; omega), getElem!_pos seen j (by omega)]
    exact Array.getElem_push_lt (by omega)
   rw [e2]; exact hu
theorem KeysTo.all {L : List (Int × Value)} {seen : Array Nat} {N : Nat} {X : Int → Int} (h : KeysTo L seen N X) (hn : (L.map (·.1)).Nodup) (ha : ∀ i : Nat, i < L.length → i ∈ seen) : KeysOf L N X := by
 have hp : seen.toList.Perm (List.range L.length) := (List.perm_ext_iff_of_nodup h.nd List.nodup_range).2 fun i => ⟨fun hi => List.mem_range.2 (h.lt i (Array.mem_toList_iff.1 hi)), fun hi => Array.mem_toList_iff.2 (ha i (List.mem_range.1 hi))⟩
 have hN : N = L.length := by
  have := hp.length_eq
  rw [h.len]; simpa using this
 have hkey : ∀ i j : Nat, ∀ k u v, L[i]? = some (k, u) → L[j]? = some (k, v) → i = j := fun i j k u v h1 h2 => by
  have e1 : (L.map (·.1))[i]? = some k := by rw [List.getElem?_map, h1]; rfl
  have e2 : (L.map (·.1))[j]? = some k := by rw [List.getElem?_map, h2]; rfl
  obtain ⟨a1, a2⟩ := List.getElem?_eq_some_iff.1 e1
  obtain ⟨b1, b2⟩ := List.getElem?_eq_some_iff.1 e2
  exact nodup_injM hn a1 b1 (a2.trans b2.symm)
 refine ⟨hN, fun a b a0 a1 b0 b1 e => ?_, fun k => ⟨fun ⟨j, ⟨j0, j1⟩, e⟩ => ?_, fun hk => ?_⟩⟩
 ·obtain ⟨a', rfl⟩ := Int.eq_ofNat_of_zero_le a0
  obtain ⟨b', rfl⟩ := Int.eq_ofNat_of_zero_le b0
  obtain ⟨u, hu⟩ := h.at_ a' (by omega)
  obtain ⟨v, hv⟩ := h.at_ b' (by omega)
  rw [e] at hu
  have hs := hkey _ _ _ _ _ hu hv
  have hl := h.len
  rw [getElem!_pos seen a' (by omega), getElem!_pos seen b' (by omega)] at hs
  have hnd := h.nd
  have : a' = b' := by
   have h1 : seen.toList[a']'(by simp; omega) = seen.toList[b']'(by simp; omega) := by simpa using hs
   exact nodup_injM hnd (by simp; omega) (by simp; omega) h1
  omega
 ·obtain ⟨j', rfl⟩ := Int.eq_ofNat_of_zero_le j0
  obtain ⟨u, hu⟩ := h.at_ j' (by omega)
  rw [e] at hu
  exact List.mem_map.2 ⟨(k, u), List.mem_of_getElem? hu, rfl⟩
 ·obtain ⟨⟨k', v⟩, hm, rfl⟩ := List.mem_map.1 hk
  obtain ⟨i, hi⟩ := List.mem_iff_getElem?.1 hm
  have his := ha i (List.getElem?_eq_some_iff.1 hi).1
  obtain ⟨j, hj, e⟩ := Array.mem_iff_getElem.1 his
  obtain ⟨u, hu⟩ := h.at_ j (by rw [h.len]; exact hj)
  rw [getElem!_pos seen j hj, e, hi] at hu
  cases hu
  exact ⟨j, ⟨by omega, by rw [h.len]; omega⟩, rfl⟩
end Go.Proofs.Ytbepolognfdkeaa
