import Derived.Test.YtbepolognfdkeaaSrt
import Derived.Test.YtbepolognfdkeaaStr
import Derived.Shelf.SlSortCmp.NoneTotal
import Derived.Shelf.SlSortCmp.WholeK
import Derived.Test.YtbepolognfdkeaaGbK
import Derived.Ground.SlsfProg
import Derived.Test.YtbepolognfdkeaaGaL
set_option maxRecDepth 100000
namespace Go.Proofs.Ytbepolognfdkeaa
open Go.RowKit Go.Proofs Go.Shelf Go.Lib Go.Sort
section
variable {α : Type} [Inhabited α] {enc : α → List Value} {s : Nat} {B : Nat} {w0 w : World} {H : List (Option Blk)} {b cap : Nat} {E : TypeId} {g : Nat → Value}
theorem getBang {l : List Value} {i : Nat} (h : i < l.length) : l[i]! = l.getD i undef := by
 rw [getElem!_pos l i h, List.getD_eq_getElem?_getD, List.getElem?_eq_getElem h]; rfl
theorem holdsK_own (hs : 0 < s) (hl : ∀ x, (enc x).length = s) (hO : Own B w0 w (some ⟨b, E, cap * s, g, none⟩ :: H)) (d : Array α) (hd : d.size ≤ cap) (hg : ∀ j, j < d.size * s → g j = (enc d[j / s]!).getD (j % s) undef) : HoldsK enc s w b 0 d := fun j hj => by
 have hj' : j < d.size * s := by simpa using hj
 have hc : j < cap * s := Nat.lt_of_lt_of_le hj' (Nat.mul_le_mul_right s hd)
 refine ⟨?_, by rw [Nat.zero_add]; exact (hO.get 0 rfl).frozen j⟩
 have h1 := hO.cell 0 rfl j hc
 rw [Nat.zero_add]
 have h2 : g j = (flatK enc s d)[j]! := by
  rw [get_flatK enc s d j hj', hg j hj', getBang (by rw [hl]; exact Nat.mod_lt _ hs)]
 rw [show id (flatK enc s d)[j]! = g j from h2.symm]
 exact h1
theorem Own.sortedK (hs : 0 < s) (hl : ∀ x, (enc x).length = s) (hO : Own B w0 w (some ⟨b, E, cap * s, g, none⟩ :: H)) (n : Nat) (d : Array α) (os : Array Obj) (hd : d.size ≤ cap) :
  ∃ g', Own B w0 (sortWorldK enc s w b 0 n d os) (some ⟨b, E, cap * s, g', none⟩ :: H) ∧ ∀ j, j < d.size * s → g' j = (enc d[j / s]!).getD (j % s) undef := by
 have hO' : Own B w0 w (some (vch b E (cap * s) (fun i => g i.toNat)) :: H) := hO
 have h := hO'.sorted (enc := id) (nr := d.size * s) n (flatK enc s d) os (by simp) (Nat.mul_le_mul_right s hd)
 refine ⟨_, h, fun j hj => ?_⟩
 show (if (j : Int) < (d.size * s : Nat) then id (flatK enc s d)[(j : Int).toNat]! else _) = _
 rw [if_pos (by omega), Int.toNat_natCast]
 show (flatK enc s d)[j]! = _
 rw [get_flatK enc s d j hj, getBang (by rw [hl]; exact Nat.mod_lt _ hs)]
theorem permIn_toList {d d' : Array α} (h : PermIn 0 d.size d d') : d'.toList.Perm d.toList := by
 have h1 := h.2.2
 rw [Array.extract_size, show d.size = d'.size from h.1.symm, Array.extract_size] at h1
 exact h1
theorem sortedIn_pw {lt : α → α → Bool} {d : Array α} (h : SortedIn lt 0 d.size d) : d.toList.Pairwise fun x y => lt y x = false := by
 refine List.pairwise_iff_getElem.2 fun i j hi hj hij => ?_
 have := h i j (Nat.zero_le _) hij (by simpa using hj)
 rw [getElem!_pos d i (by simpa using hi), getElem!_pos d j (by simpa using hj)] at this
 simpa using this
theorem sortFunc_own {P : Program} {ρ : Ren} (L : SlLaysF0.n6 P ρ) (aE : ∀ w, (isAgg (ρ.t 24)).run P w = .ok true w) (zE : ∀ w, (Go.sizeOf (ρ.t 24)).run P w = .ok s w) (hs : 0 < s) (hl : ∀ x, (enc x).length = s) (h1 : ∀ x, ∀ v ∈ enc x, v.oneCell' = true)
  (cf : α → α → Int) (hW : SWO (ltOf cf)) (fn : Nat) (cb : Array Value) (eg : ∀ args w, (callFunc fn args).run P w = .ok (.enter fn args) w)
  (hcmp : ∀ x y W, Calls P fn (#[.agg (enc x).toArray, .agg (enc y).toArray] ++ cb) W fun e w' => e = .returned (.int .i64 (cf x y)) ∧ ∃ q os', w' = grow (W.drewN q) os')
  (D : List α) {ao : Option Addr} {cp : Nat} {c : Option Blk} {G : Int → List Value} (hG : ∀ j : Nat, ∀ h : j < D.length, G j = enc D[j]) (hr : SRow (.slice ao D.length cp) E s D.length G c) (hN : D.length < 4611686018427387904) (hO : Own B w0 w (c :: H)) :
  Calls P (ρ.f 6) #[.slice ao D.length cp, .func (.func fn) #[] cb] w fun e w' => e = .returned (.tuple #[]) ∧ ∃ (D' : List α) (c' : Option Blk), D'.Perm D ∧ D'.Pairwise (fun x y => ltOf cf y x = false) ∧
   SRow (.slice ao D'.length cp) E s D'.length (fun j => enc (D'.getD j.toNat default)) c' ∧ Own B w0 w' (c' :: H) := by
 by_cases h0 : D = []
 ·subst h0
  refine (AnyF.slices_SortFunc_none { L with } ao cp _ w).mono fun e w' ⟨he, hw⟩ => ⟨he, [], c, List.Perm.refl _, List.Pairwise.nil, hr.congr fun i i0 i1 => ?_, by rw [hw]; exact hO⟩
  exfalso
  have : i < ((0 : Nat) : Int) := i1
  omega
 ·have hpos : 0 < D.length := List.length_pos_iff.2 h0
  rcases hr with ⟨e1, e2, _⟩ | ⟨bb, cap', g, e1, e2, e3, rfl, e5⟩
  ·omega
  ·cases e1
   have hg : ∀ j, j < D.toArray.size * s → g j = (enc D.toArray[j / s]!).getD (j % s) undef := fun j hj => by
    have hj' : j < D.length * s := by simpa using hj
    have hq : j / s < D.length := Nat.div_lt_of_lt_mul (by rw [Nat.mul_comm]; exact hj')
    rw [e5 j hj', getElem!_pos D.toArray (j / s) (by simpa using hq)]
    show (G ((j / s : Nat) : Int)).getD (j % s) undef = _
    rw [hG (j / s) hq]; simp
   have hH := holdsK_own (enc := enc) hs hl hO D.toArray (by simpa using e2) hg
   have hcon := AnyQ.slices_SortFunc L s aE zE enc hl h1 cf hW fn cb bb 0 cp D.toArray w eg (fun _ _ _ _ x y => hcmp x y _) hH (hO.lt 0 rfl) (by simpa using hN)
   rw [show D.toArray.size = D.length by simp] at hcon
   refine hcon.mono fun e w' ⟨he, d', n, os, hp, hsd, hw⟩ => ?_
   have hsz : d'.size = D.length := by rw [hp.1]; simp
   obtain ⟨g', hO2, hg'⟩ := hO.sortedK (enc := enc) hs hl n d' os (by rw [hsz]; exact e2)
   have hpm : d'.toList.Perm D := by
    have := permIn_toList (d := D.toArray) (by rw [show D.toArray.size = D.length by simp]; exact hp)
    simpa using this
   refine ⟨he, d'.toList, _, hpm, sortedIn_pw (by rw [hsz]; exact hsd), ?_, by rw [hw]; exact hO2⟩
   refine .inr ⟨bb, cp, g', by rw [hpm.length_eq], by rw [hpm.length_eq]; exact e2, e3, rfl, fun j hj => ?_⟩
   have hj' : j < d'.size * s := by rw [hsz, ← hpm.length_eq]; exact hj
   have hq : j / s < d'.size := Nat.div_lt_of_lt_mul (by rw [Nat.mul_comm]; exact hj')
   rw [hg' j hj', getElem!_pos d' (j / s) hq]
   congr 2
   rw [Int.toNat_natCast, List.getD_eq_getElem?_getD, List.getElem?_eq_getElem (by simpa using hq)]
   simp
end
end Go.Proofs.Ytbepolognfdkeaa
set_option maxRecDepth 100000
namespace Go.Proofs.Ytbepolognfdkeaa
open Go.RowKit Go.Proofs Go.MapKept Go.Shelf Go.Lib Go.Sort
def Try.sortTurns_ren : Go.Shelf.Ren := ⟨fun | 6 => 58 | 15 => 69 | 14 => 74 | 28 => 91 | 29 => 92 | 20 => 95 | 21 => 96 | 22 => 97 | 23 => 98 | 24 => 99 | 25 => 100 | 26 => 101 | 27 => 102 | 46 => 122 | 47 => 118 | 48 => 119 | 49 => 123 | 50 => 124 | 57 => 133 | n => n, fun | 22 => 51 | 24 => 53 | 25 => 107 | 3 => 3 | 39 => 33 | 0 => 0 | 53 => 141 | 55 => 143 | 4 => 4 | 46 => 134 | 45 => 133 | 50 => 138 | 5 => 5 | 9 => 9 | 66 => 161 | 70 => 165 | 76 => 175 | 77 => 176 | n => n, fun | n => n⟩
theorem Try.sortTurns : Go.Proofs.SlLaysF0.n6 Try.prog Try.sortTurns_ren := {
  mixed := by kernel_rfl
  f6 := ⟨Try.f58.name, by decide, Try.func58.trans (congrArg some (by kernel_rfl))⟩
  f14 := ⟨Try.f74.name, by decide, Try.func74.trans (congrArg some (by kernel_rfl))⟩
  f15 := Try.func69.trans (congrArg some (by kernel_rfl))
  f20 := ⟨Try.f95.name, by decide, Try.func95.trans (congrArg some (by kernel_rfl))⟩
  f21 := ⟨Try.f96.name, by decide, Try.func96.trans (congrArg some (by kernel_rfl))⟩
  f22 := ⟨Try.f97.name, by decide, Try.func97.trans (congrArg some (by kernel_rfl))⟩
  f23 := ⟨Try.f98.name, by decide, Try.func98.trans (congrArg some (by kernel_rfl))⟩
  f24 := ⟨Try.f99.name, by decide, Try.func99.trans (congrArg some (by kernel_rfl))⟩
  f25 := ⟨Try.f100.name, by decide, Try.func100.trans (congrArg some (by kernel_rfl))⟩
  f26 := ⟨Try.f101.name, by decide, Try.func101.trans (congrArg some (by kernel_rfl))⟩
  f27 := ⟨Try.f102.name, by decide, Try.func102.trans (congrArg some (by kernel_rfl))⟩
  f28 := Try.func91.trans (congrArg some (by kernel_rfl))
  f29 := Try.func92.trans (congrArg some (by kernel_rfl))
  f46 := ⟨Try.f122.name, by decide, Try.func122.trans (congrArg some (by kernel_rfl))⟩
  f47 := Try.func118.trans (congrArg some (by kernel_rfl))
  f48 := Try.func119.trans (congrArg some (by kernel_rfl))
  f49 := ⟨Try.f123.name, by decide, Try.func123.trans (congrArg some (by kernel_rfl))⟩
  f50 := ⟨Try.f124.name, by decide, Try.func124.trans (congrArg some (by kernel_rfl))⟩
  f57 := ⟨Try.f133.name, by decide, Try.func133.trans (congrArg some (by kernel_rfl))⟩
  t0 := Try.underlying0
  a0 := Try.isAgg0
  z0 := Try.sizeOf0
  v0 := Try.zeroValue0
  t3 := Try.underlying3
  a3 := Try.isAgg3
  z3 := Try.sizeOf3
  v3 := Try.zeroValue3
  t4 := Try.underlying4
  a4 := Try.isAgg4
  z4 := Try.sizeOf4
  v4 := Try.zeroValue4
  t5 := Try.underlying5
  a5 := Try.isAgg5
  z5 := Try.sizeOf5
  v5 := Try.zeroValue5
  t9 := Try.underlying9
  a9 := Try.isAgg9
  z9 := Try.sizeOf9
  v9 := Try.zeroValue9
  t22 := Try.underlying51
  a22 := Try.isAgg51
  z22 := Try.sizeOf51
  v22 := Try.zeroValue51
  t25 := Try.underlying107
  a25 := Try.isAgg107
  z25 := Try.sizeOf107
  v25 := Try.zeroValue107
  t39 := Try.underlying33
  a39 := Try.isAgg33
  z39 := Try.sizeOf33
  v39 := Try.zeroValue33
  t45 := Try.underlying133
  a45 := Try.isAgg133
  z45 := Try.sizeOf133
  v45 := Try.zeroValue133
  t46 := Try.underlying134
  a46 := Try.isAgg134
  z46 := Try.sizeOf134
  v46 := Try.zeroValue134
  t50 := Try.underlying138
  a50 := Try.isAgg138
  z50 := Try.sizeOf138
  v50 := Try.zeroValue138
  t53 := Try.underlying141
  a53 := Try.isAgg141
  z53 := Try.sizeOf141
  v53 := Try.zeroValue141
  t55 := Try.underlying143
  a55 := Try.isAgg143
  z55 := Try.sizeOf143
  v55 := Try.zeroValue143
  t66 := Try.underlying161
  a66 := Try.isAgg161
  z66 := Try.sizeOf161
  v66 := Try.zeroValue161
  t70 := Try.underlying165
  a70 := Try.isAgg165
  z70 := Try.sizeOf165
  v70 := Try.zeroValue165
  t76 := Try.underlying175
  a76 := Try.isAgg175
  z76 := Try.sizeOf175
  v76 := Try.zeroValue175
  t77 := Try.underlying176
  a77 := Try.isAgg176
  z77 := Try.sizeOf176
  v77 := Try.zeroValue176 }
def SmT (t : Trn) : Prop := (0 ≤ t.1 ∧ t.1 ≤ 1000000000000) ∧ 0 ≤ t.2.1 ∧ t.2.1 ≤ 1000000000000
abbrev STrn := { t : Trn // SmT t }
instance : Inhabited STrn := ⟨⟨(0, 0, 0), by unfold SmT; decide⟩⟩
def cfT (x y : STrn) : Int := if x.1.2.1 = y.1.2.1 then x.1.1 - y.1.1 else x.1.2.1 - y.1.2.1
set_option maxHeartbeats 1000000 in
theorem cmpT (a b c d e f : Int) (ha : 0 ≤ a) (ha2 : a ≤ 1000000000000) (hb : 0 ≤ b) (hb2 : b ≤ 1000000000000) (hd : 0 ≤ d) (hd2 : d ≤ 1000000000000) (he : 0 ≤ e) (he2 : e ≤ 1000000000000) (W : World) : Calls Try.prog 59 #[.agg #[.int .i64 a, .int .i64 b, .int .i64 c], .agg #[.int .i64 d, .int .i64 e, .int .i64 f]] W fun r w' => r = .returned (.int .i64 (if b = e then a - d else b - e)) ∧ ∃ q os', w' = grow (W.drewN q) os' := by
 go_enter Try.func59, Try.ntmps59
 by_cases hbe : b = e
 ·go_wp2
  go_ret
  exact ⟨by simp [hbe], 0, _, by rw [alloc_eq_grow, alloc_eq_grow, grow_grow]; rfl⟩
 ·go_wp2
  go_ret
  exact ⟨by simp [hbe], 0, _, by rw [alloc_eq_grow, alloc_eq_grow, grow_grow]; rfl⟩
theorem ltT (x y : STrn) : ltOf cfT x y = decide (x.1.2.1 < y.1.2.1 ∨ (x.1.2.1 = y.1.2.1 ∧ x.1.1 < y.1.1)) := by
 unfold ltOf cfT
 by_cases h : x.1.2.1 = y.1.2.1
 ·rw [if_pos h]; exact decide_eq_decide.2 (by omega)
 ·rw [if_neg h]; exact decide_eq_decide.2 (by omega)
theorem swoT : SWO (ltOf cfT) where
 irrefl x := by rw [ltT]; simp
 trans x y z h1 h2 := by rw [ltT] at *; simp only [decide_eq_true_eq] at *; omega
 ntrans x y z h1 h2 := by rw [ltT] at *; simp only [decide_eq_false_iff_not] at *; omega
theorem sortT_any (ta : Option Addr) (tc : Nat) (T : List Trn) (ct : Option Blk) (w w0 : World) (B : Nat) (H : List (Option Blk)) (hT : ∀ t ∈ T, SmT t) (hN : T.length ≤ 1000000) (hr : SRow (.slice ta T.length tc) 53 3 T.length (trF T) ct) (hO : Own B w0 w (ct :: H)) :
  Calls Try.prog 58 #[.slice ta T.length tc, .func (.func 59) #[] #[]] w fun e w' => e = .returned (.tuple #[]) ∧ ∃ (T' : List Trn) (ct' : Option Blk), T'.Perm T ∧ T'.Pairwise (fun a b => a.2.1 < b.2.1 ∨ (a.2.1 = b.2.1 ∧ a.1 ≤ b.1)) ∧
   SRow (.slice ta T'.length tc) 53 3 T'.length (trF T') ct' ∧ Own B w0 w' (ct' :: H) := by
 obtain ⟨D, hD⟩ : ∃ D : List STrn, D.map (·.1) = T := ⟨T.pmap Subtype.mk hT, by rw [List.map_pmap]; simp⟩
 have hl : D.length = T.length := by rw [← hD]; simp
 have eg : ∀ args w, (callFunc 59 args).run Try.prog w = .ok (.enter 59 args) w := enters_of Try.func59 (by kernel_rfl) rfl
 rw [← hl] at hr hN ⊢
 have h := sortFunc_own (enc := fun x : STrn => trV x.1) (s := 3) { Try.sortTurns with } Try.isAgg53 Try.sizeOf53 (by decide) (fun _ => rfl) (fun x v hv => by
  simp only [trV, List.mem_cons, List.not_mem_nil, or_false] at hv
  rcases hv with rfl | rfl | rfl <;> rfl) cfT swoT 59 #[] eg (fun x y W => cmpT _ _ _ _ _ _ x.2.1.1 x.2.1.2 x.2.2.1 x.2.2.2 y.2.1.1 y.2.1.2 y.2.2.1 y.2.2.2 W) D (G := trF T) (fun j hj => by
  unfold trF
  rw [← hD, Int.toNat_natCast, List.getD_eq_getElem?_getD, List.getElem?_map, List.getElem?_eq_getElem hj]; rfl) hr (by omega) hO
 change Calls Try.prog 58 _ _ _ at h
 refine h.mono fun e w' ⟨he, D', c', hp, hs, hr', hO'⟩ => ⟨he, D'.map (·.1), c', by rw [← hD]; exact hp.map _, ?_, ?_, hO'⟩
 ·refine List.pairwise_map.2 (hs.imp fun {a b} hab => ?_)
  rw [ltT] at hab
  simp only [decide_eq_false_iff_not] at hab
  omega
 ·rw [List.length_map]
  refine hr'.congr fun i i0 i1 => ?_
  unfold trF
  rw [List.getD_eq_getElem?_getD, List.getD_eq_getElem?_getD, List.getElem?_map, List.getElem?_eq_getElem (by omega)]
  rfl
end Go.Proofs.Ytbepolognfdkeaa
set_option maxRecDepth 100000
namespace Go.Proofs.Ytbepolognfdkeaa
theorem Lds.Can.mono {l : Lds} {k k' : Int} (h : l.Can k) (hk : k ≤ k') : l.Can k' := by
 obtain ⟨x, h1, h2, h3, h4⟩ := h
 exact ⟨x, h1, h2, h3, fun t t0 t1 => Int.le_trans (h4 t t0 t1) hk⟩
theorem Lds.Cr.no {l : Lds} {k : Int} (h : l.Cr k) : ¬ l.Can k := fun ⟨_, hx⟩ => by
 obtain ⟨c, y, hc⟩ := h
 exact hx.no_crush hc
def lAw : Lds := ⟨3, fun _ => 0, fun _ => 2, fun i => if i = 0 then 2 else 1, fun _ => 0⟩
theorem sm3 (f : Int → Int) : sm f 3 = f 0 + f 1 + f 2 := by
 rw [show (3 : Int) = 2 + 1 by decide, sm_succ _ (by decide), show (2 : Int) = 1 + 1 by decide, sm_succ _ (by decide), show (1 : Int) = 0 + 1 by decide, sm_succ _ (by decide), sm_zero]
 simp
theorem i3 {i : Int} (h0 : 0 ≤ i) (h1 : i < ((3 : Nat) : Int)) : i = 0 ∨ i = 1 ∨ i = 2 := by omega
theorem lAw_valid : lAw.Valid := fun i i0 i1 => by
 rcases i3 i0 i1 with rfl | rfl | rfl <;> (unfold Lds.Val lAw; decide)
theorem lAw_two : lAw.Can 2 := by
 have hn : ∀ f : Int → Int, sm f lAw.n = f 0 + f 1 + f 2 := sm3
 refine ⟨fun i h => ind ((if i = 2 then 1 else 0) ≤ h ∧ h < (if i = 1 then 1 else 2)), fun i h _ _ => ind_rng _, fun i h i0 i1 hne => ?_, fun i i0 i1 => ?_, fun t _ _ => ?_⟩
 ·by_cases c : (if i = 2 then 1 else 0) ≤ h ∧ h < (if i = 1 then 1 else 2)
  ·show 0 ≤ h ∧ h < 2
   rcases i3 i0 i1 with rfl | rfl | rfl <;> (simp at c; omega)
  ·exact absurd (ind_f c) hne
 ·rcases i3 i0 i1 with rfl | rfl | rfl
  ·exact sm_span (by decide) (by decide)
  ·exact sm_span (by decide) (by decide)
  ·exact sm_span (by decide) (by decide)
 ·rw [hn]
  by_cases c1 : t = 0
  ·rw [c1]
   have h3 : ind ((if (2 : Int) = 2 then (1 : Int) else 0) ≤ 0 ∧ (0 : Int) < (if (2 : Int) = 1 then 1 else 2)) = 0 := ind_f (by decide)
   have h1 := (ind_rng ((if (0 : Int) = 2 then (1 : Int) else 0) ≤ 0 ∧ (0 : Int) < (if (0 : Int) = 1 then 1 else 2))).2
   have h2 := (ind_rng ((if (1 : Int) = 2 then (1 : Int) else 0) ≤ 0 ∧ (0 : Int) < (if (1 : Int) = 1 then 1 else 2))).2
   omega
  ·have h3 : ind ((if (1 : Int) = 2 then (1 : Int) else 0) ≤ t ∧ t < (if (1 : Int) = 1 then 1 else 2)) = 0 := ind_f (by simp; omega)
   have h1 := (ind_rng ((if (0 : Int) = 2 then (1 : Int) else 0) ≤ t ∧ t < (if (0 : Int) = 1 then 1 else 2))).2
   have h2 := (ind_rng ((if (2 : Int) = 2 then (1 : Int) else 0) ≤ t ∧ t < (if (2 : Int) = 1 then 1 else 2))).2
   omega
theorem lAw_one : ¬ lAw.Can 1 := by
 have hn : ∀ f : Int → Int, sm f lAw.n = f 0 + f 1 + f 2 := sm3
 refine Lds.Cr.no ⟨fun _ => 1, fun h => ind (0 ≤ h ∧ h < 2), fun _ _ _ => by decide, fun _ _ _ => ind_rng _, ?_⟩
 have ho : ∀ i : Int, lAw.outs 1000000000 (fun h => ind (0 ≤ h ∧ h < 2)) i = 0 := fun i => sm_zeroG fun t _ _ => by
  show ind (0 ≤ t ∧ t < 2) * (1 - ind (0 ≤ t ∧ t < 2)) = 0
  by_cases c : 0 ≤ t ∧ t < 2
  ·rw [ind_t c]; rfl
  ·rw [ind_f c]; rfl
 have hs : sm (fun h => ind (0 ≤ h ∧ h < 2)) 1000000000 = 2 := sm_span (by decide) (by decide)
 unfold Lds.need
 rw [hs, hn, ho, ho, ho]
 decide
end Go.Proofs.Ytbepolognfdkeaa
