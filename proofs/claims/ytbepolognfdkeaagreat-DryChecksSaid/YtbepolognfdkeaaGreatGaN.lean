import Derived.Test.YtbepolognfdkeaaGreatRgf
import Derived.Test.YtbepolognfdkeaaGreatStr
import Derived.Shelf.SlSortCmp.NoneTotal
import Derived.Shelf.SlSortCmp.WholeK
import Derived.Test.YtbepolognfdkeaaGreatGbK
import Derived.Ground.SlsfProg
import Derived.Test.YtbepolognfdkeaaGreatGaL
set_option maxRecDepth 100000
namespace Go.Proofs.YtbepolognfdkeaaGreat
open Go.RowKit Go.Proofs Go.Shelf Go.Lib Go.Sort
section
variable {α : Type} [Inhabited α] {enc : α → List Value} {s : Nat} {B : Nat} {w0 w : World} {H : List (Option Blk)} {b cap : Nat} {E : TypeId} {g : Nat → Value}
theorem getBang {l : List Value} {i : Nat} (h : i < l.length) : l[i]! = l.getD i undef := by
 rw [getElem!_pos l i h, List.getD_eq_getElem?_getD, List.getElem?_eq_getElem h]; rfl
theorem holdsK_own (hs : 0 < s) (hl : ∀ x, (enc x).length = s) (hO : Own B w0 w (some ⟨b, E, cap * s, g, none⟩ :: H)) (d : Array α) (hd : d.size ≤ cap) (hg : ∀ j, j < d.size * s → g j = (enc d[j / s]!).getD (j % s) undef) : HoldsK enc s w b 0 d := fun j hj => by
 have hj' : j < d.size * s := by simpa using hj
 have hc : j < cap * s := Nat.lt_of_lt_of_le hj' (Nat.mul_le_mul_right s hd)
 refine ⟨?_, by rw [Nat.zero_add]; exact (hO.get 0 rfl).frozen j⟩
 have h1 := hO.cell 0 rfl j hc
 rw [Nat.zero_add]
 have h2 : g j = (flatK enc s d)[j]! := by
  rw [get_flatK enc s d j hj', hg j hj', getBang (by rw [hl]; exact Nat.mod_lt _ hs)]
 rw [show id (flatK enc s d)[j]! = g j from h2.symm]
 exact h1
theorem Own.sortedK (hs : 0 < s) (hl : ∀ x, (enc x).length = s) (hO : Own B w0 w (some ⟨b, E, cap * s, g, none⟩ :: H)) (n : Nat) (d : Array α) (os : Array Obj) (hd : d.size ≤ cap) :
  ∃ g', Own B w0 (sortWorldK enc s w b 0 n d os) (some ⟨b, E, cap * s, g', none⟩ :: H) ∧ ∀ j, j < d.size * s → g' j = (enc d[j / s]!).getD (j % s) undef := by
 have hO' : Own B w0 w (some (vch b E (cap * s) (fun i => g i.toNat)) :: H) := hO
 have h := hO'.sorted (enc := id) (nr := d.size * s) n (flatK enc s d) os (by simp) (Nat.mul_le_mul_right s hd)
 refine ⟨_, h, fun j hj => ?_⟩
 show (if (j : Int) < (d.size * s : Nat) then id (flatK enc s d)[(j : Int).toNat]! else _) = _
 rw [if_pos (by omega), Int.toNat_natCast]
 show (flatK enc s d)[j]! = _
 rw [get_flatK enc s d j hj, getBang (by rw [hl]; exact Nat.mod_lt _ hs)]
theorem permIn_toList {d d' : Array α} (h : PermIn 0 d.size d d') : d'.toList.Perm d.toList := by
 have h1 := h.2.2
 rw [Array.extract_size, show d.size = d'.size from h.1.symm, Array.extract_size] at h1
 exact h1
theorem sortedIn_pw {lt : α → α → Bool} {d : Array α} (h : SortedIn lt 0 d.size d) : d.toList.Pairwise fun x y => lt y x = false := by
 refine List.pairwise_iff_getElem.2 fun i j hi hj hij => ?_
 have := h i j (Nat.zero_le _) hij (by simpa using hj)
 rw [getElem!_pos d i (by simpa using hi), getElem!_pos d j (by simpa using hj)] at this
 simpa using this
theorem sortFunc_own {P : Program} {ρ : Ren} (L : SlLaysF0.n6 P ρ) (aE : ∀ w, (isAgg (ρ.t 24)).run P w = .ok true w) (zE : ∀ w, (Go.sizeOf (ρ.t 24)).run P w = .ok s w) (hs : 0 < s) (hl : ∀ x, (enc x).length = s) (h1 : ∀ x, ∀ v ∈ enc x, v.oneCell' = true)
  (cf : α → α → Int) (hW : SWO (ltOf cf)) (fn : Nat) (cb : Array Value) (eg : ∀ args w, (callFunc fn args).run P w = .ok (.enter fn args) w)
  (hcmp : ∀ x y W, Calls P fn (#[.agg (enc x).toArray, .agg (enc y).toArray] ++ cb) W fun e w' => e = .returned (.int .i64 (cf x y)) ∧ ∃ q os', w' = grow (W.drewN q) os')
  (D : List α) {ao : Option Addr} {cp : Nat} {c : Option Blk} {G : Int → List Value} (hG : ∀ j : Nat, ∀ h : j < D.length, G j = enc D[j]) (hr : SRow (.slice ao D.length cp) E s D.length G c) (hN : D.length < 4611686018427387904) (hO : Own B w0 w (c :: H)) :
  Calls P (ρ.f 6) #[.slice ao D.length cp, .func (.func fn) #[] cb] w fun e w' => e = .returned (.tuple #[]) ∧ ∃ (D' : List α) (c' : Option Blk), D'.Perm D ∧ D'.Pairwise (fun x y => ltOf cf y x = false) ∧
   SRow (.slice ao D'.length cp) E s D'.length (fun j => enc (D'.getD j.toNat default)) c' ∧ Own B w0 w' (c' :: H) := by
 by_cases h0 : D = []
 ·subst h0
  refine (AnyF.slices_SortFunc_none { L with } ao cp _ w).mono fun e w' ⟨he, hw⟩ => ⟨he, [], c, List.Perm.refl _, List.Pairwise.nil, hr.congr fun i i0 i1 => ?_, by rw [hw]; exact hO⟩
  exfalso
  have : i < ((0 : Nat) : Int) := i1
  omega
 ·have hpos : 0 < D.length := List.length_pos_iff.2 h0
  rcases hr with ⟨e1, e2, _⟩ | ⟨bb, cap', g, e1, e2, e3, rfl, e5⟩
  ·omega
  ·cases e1
   have hg : ∀ j, j < D.toArray.size * s → g j = (enc D.toArray[j / s]!).getD (j % s) undef := fun j hj => by
    have hj' : j < D.length * s := by simpa using hj
    have hq : j / s < D.length := Nat.div_lt_of_lt_mul (by rw [Nat.mul_comm]; exact hj')
    rw [e5 j hj', getElem!_pos D.toArray (j / s) (by simpa using hq)]
    show (G ((j / s : Nat) : Int)).getD (j % s) undef = _
    rw [hG (j / s) hq]; simp
   have hH := holdsK_own (enc := enc) hs hl hO D.toArray (by simpa using e2) hg
   have hcon := AnyQ.slices_SortFunc L s aE zE enc hl h1 cf hW fn cb bb 0 cp D.toArray w eg (fun _ _ _ _ x y => hcmp x y _) hH (hO.lt 0 rfl) (by simpa using hN)
   rw [show D.toArray.size = D.length by simp] at hcon
   refine hcon.mono fun e w' ⟨he, d', n, os, hp, hsd, hw⟩ => ?_
   have hsz : d'.size = D.length := by rw [hp.1]; simp
   obtain ⟨g', hO2, hg'⟩ := hO.sortedK (enc := enc) hs hl n d' os (by rw [hsz]; exact e2)
   have hpm : d'.toList.Perm D := by
    have := permIn_toList (d := D.toArray) (by rw [show D.toArray.size = D.length by simp]; exact hp)
    simpa using this
   refine ⟨he, d'.toList, _, hpm, sortedIn_pw (by rw [hsz]; exact hsd), ?_, by rw [hw]; exact hO2⟩
   refine .inr ⟨bb, cp, g', by rw [hpm.length_eq], by rw [hpm.length_eq]; exact e2, e3, rfl, fun j hj => ?_⟩
   have hj' : j < d'.size * s := by rw [hsz, ← hpm.length_eq]; exact hj
   have hq : j / s < d'.size := Nat.div_lt_of_lt_mul (by rw [Nat.mul_comm]; exact hj')
   rw [hg' j hj', getElem!_pos d' (j / s) hq]
   congr 2
   rw [Int.toNat_natCast, List.getD_eq_getElem?_getD, List.getElem?_eq_getElem (by simpa using hq)]
   simp
end
end Go.Proofs.YtbepolognfdkeaaGreat
set_option maxRecDepth 100000
namespace Go.Proofs.YtbepolognfdkeaaGreat
open Go.RowKit Go.Proofs Go.MapKept Go.Shelf Go.Lib Go.Sort
def Tryz.sortTurns_ren : Go.Shelf.Ren := ⟨fun | 6 => 28 | 15 => 61 | 14 => 60 | 28 => 96 | 29 => 97 | 20 => 88 | 21 => 89 | 22 => 90 | 23 => 91 | 24 => 92 | 25 => 93 | 26 => 94 | 27 => 95 | 46 => 130 | 47 => 131 | 48 => 132 | 49 => 133 | 50 => 134 | 57 => 150 | n => n, fun | 22 => 33 | 24 => 76 | 25 => 77 | 3 => 3 | 39 => 56 | 0 => 0 | 53 => 151 | 55 => 153 | 4 => 4 | 46 => 144 | 45 => 143 | 50 => 148 | 5 => 5 | 9 => 9 | 66 => 187 | 70 => 191 | 76 => 205 | 77 => 206 | n => n, fun | n => n⟩
theorem Tryz.sortTurns : Go.Proofs.SlLaysF0.n6 Tryz.prog Tryz.sortTurns_ren := {
  mixed := by kernel_rfl
  f6 := ⟨Tryz.f28.name, by decide, Tryz.func28.trans (congrArg some (by kernel_rfl))⟩
  f14 := ⟨Tryz.f60.name, by decide, Tryz.func60.trans (congrArg some (by kernel_rfl))⟩
  f15 := Tryz.func61.trans (congrArg some (by kernel_rfl))
  f20 := ⟨Tryz.f88.name, by decide, Tryz.func88.trans (congrArg some (by kernel_rfl))⟩
  f21 := ⟨Tryz.f89.name, by decide, Tryz.func89.trans (congrArg some (by kernel_rfl))⟩
  f22 := ⟨Tryz.f90.name, by decide, Tryz.func90.trans (congrArg some (by kernel_rfl))⟩
  f23 := ⟨Tryz.f91.name, by decide, Tryz.func91.trans (congrArg some (by kernel_rfl))⟩
  f24 := ⟨Tryz.f92.name, by decide, Tryz.func92.trans (congrArg some (by kernel_rfl))⟩
  f25 := ⟨Tryz.f93.name, by decide, Tryz.func93.trans (congrArg some (by kernel_rfl))⟩
  f26 := ⟨Tryz.f94.name, by decide, Tryz.func94.trans (congrArg some (by kernel_rfl))⟩
  f27 := ⟨Tryz.f95.name, by decide, Tryz.func95.trans (congrArg some (by kernel_rfl))⟩
  f28 := Tryz.func96.trans (congrArg some (by kernel_rfl))
  f29 := Tryz.func97.trans (congrArg some (by kernel_rfl))
  f46 := ⟨Tryz.f130.name, by decide, Tryz.func130.trans (congrArg some (by kernel_rfl))⟩
  f47 := Tryz.func131.trans (congrArg some (by kernel_rfl))
  f48 := Tryz.func132.trans (congrArg some (by kernel_rfl))
  f49 := ⟨Tryz.f133.name, by decide, Tryz.func133.trans (congrArg some (by kernel_rfl))⟩
  f50 := ⟨Tryz.f134.name, by decide, Tryz.func134.trans (congrArg some (by kernel_rfl))⟩
  f57 := ⟨Tryz.f150.name, by decide, Tryz.func150.trans (congrArg some (by kernel_rfl))⟩
  t0 := Tryz.underlying0
  a0 := Tryz.isAgg0
  z0 := Tryz.sizeOf0
  v0 := Tryz.zeroValue0
  t3 := Tryz.underlying3
  a3 := Tryz.isAgg3
  z3 := Tryz.sizeOf3
  v3 := Tryz.zeroValue3
  t4 := Tryz.underlying4
  a4 := Tryz.isAgg4
  z4 := Tryz.sizeOf4
  v4 := Tryz.zeroValue4
  t5 := Tryz.underlying5
  a5 := Tryz.isAgg5
  z5 := Tryz.sizeOf5
  v5 := Tryz.zeroValue5
  t9 := Tryz.underlying9
  a9 := Tryz.isAgg9
  z9 := Tryz.sizeOf9
  v9 := Tryz.zeroValue9
  t22 := Tryz.underlying33
  a22 := Tryz.isAgg33
  z22 := Tryz.sizeOf33
  v22 := Tryz.zeroValue33
  t25 := Tryz.underlying77
  a25 := Tryz.isAgg77
  z25 := Tryz.sizeOf77
  v25 := Tryz.zeroValue77
  t39 := Tryz.underlying56
  a39 := Tryz.isAgg56
  z39 := Tryz.sizeOf56
  v39 := Tryz.zeroValue56
  t45 := Tryz.underlying143
  a45 := Tryz.isAgg143
  z45 := Tryz.sizeOf143
  v45 := Tryz.zeroValue143
  t46 := Tryz.underlying144
  a46 := Tryz.isAgg144
  z46 := Tryz.sizeOf144
  v46 := Tryz.zeroValue144
  t50 := Tryz.underlying148
  a50 := Tryz.isAgg148
  z50 := Tryz.sizeOf148
  v50 := Tryz.zeroValue148
  t53 := Tryz.underlying151
  a53 := Tryz.isAgg151
  z53 := Tryz.sizeOf151
  v53 := Tryz.zeroValue151
  t55 := Tryz.underlying153
  a55 := Tryz.isAgg153
  z55 := Tryz.sizeOf153
  v55 := Tryz.zeroValue153
  t66 := Tryz.underlying187
  a66 := Tryz.isAgg187
  z66 := Tryz.sizeOf187
  v66 := Tryz.zeroValue187
  t70 := Tryz.underlying191
  a70 := Tryz.isAgg191
  z70 := Tryz.sizeOf191
  v70 := Tryz.zeroValue191
  t76 := Tryz.underlying205
  a76 := Tryz.isAgg205
  z76 := Tryz.sizeOf205
  v76 := Tryz.zeroValue205
  t77 := Tryz.underlying206
  a77 := Tryz.isAgg206
  z77 := Tryz.sizeOf206
  v77 := Tryz.zeroValue206 }
def SmT (t : Trn) : Prop := (0 ≤ t.1 ∧ t.1 ≤ 1000000000000) ∧ 0 ≤ t.2.1 ∧ t.2.1 ≤ 1000000000000
abbrev STrn := { t : Trn // SmT t }
instance : Inhabited STrn := ⟨⟨(0, 0, 0), by unfold SmT; decide⟩⟩
def cfT (x y : STrn) : Int := if x.1.2.1 = y.1.2.1 then x.1.1 - y.1.1 else x.1.2.1 - y.1.2.1
set_option maxHeartbeats 1000000 in
theorem cmpT (a b c d e f : Int) (ha : 0 ≤ a) (ha2 : a ≤ 1000000000000) (hb : 0 ≤ b) (hb2 : b ≤ 1000000000000) (hd : 0 ≤ d) (hd2 : d ≤ 1000000000000) (he : 0 ≤ e) (he2 : e ≤ 1000000000000) (W : World) : Calls Tryz.prog 29 #[.agg #[.int .i64 a, .int .i64 b, .int .i64 c], .agg #[.int .i64 d, .int .i64 e, .int .i64 f]] W fun r w' => r = .returned (.int .i64 (if b = e then a - d else b - e)) ∧ ∃ q os', w' = grow (W.drewN q) os' := by
 go_enter Tryz.func29, Tryz.ntmps29
 by_cases hbe : b = e
 ·go_wp2
  go_ret
  exact ⟨by simp [hbe], 0, _, by rw [alloc_eq_grow, alloc_eq_grow, grow_grow]; rfl⟩
 ·go_wp2
  go_ret
  exact ⟨by simp [hbe], 0, _, by rw [alloc_eq_grow, alloc_eq_grow, grow_grow]; rfl⟩
theorem ltT (x y : STrn) : ltOf cfT x y = decide (x.1.2.1 < y.1.2.1 ∨ (x.1.2.1 = y.1.2.1 ∧ x.1.1 < y.1.1)) := by
 unfold ltOf cfT
 by_cases h : x.1.2.1 = y.1.2.1
 ·rw [if_pos h]; exact decide_eq_decide.2 (by omega)
 ·rw [if_neg h]; exact decide_eq_decide.2 (by omega)
theorem swoT : SWO (ltOf cfT) where
 irrefl x := by rw [ltT]; simp
 trans x y z h1 h2 := by rw [ltT] at *; simp only [decide_eq_true_eq] at *; omega
 ntrans x y z h1 h2 := by rw [ltT] at *; simp only [decide_eq_false_iff_not] at *; omega
theorem sortT_any (ta : Option Addr) (tc : Nat) (T : List Trn) (ct : Option Blk) (w w0 : World) (B : Nat) (H : List (Option Blk)) (hT : ∀ t ∈ T, SmT t) (hN : T.length ≤ 1000000) (hr : SRow (.slice ta T.length tc) 76 3 T.length (trF T) ct) (hO : Own B w0 w (ct :: H)) :
  Calls Tryz.prog 28 #[.slice ta T.length tc, .func (.func 29) #[] #[]] w fun e w' => e = .returned (.tuple #[]) ∧ ∃ (T' : List Trn) (ct' : Option Blk), T'.Perm T ∧ T'.Pairwise (fun a b => a.2.1 < b.2.1 ∨ (a.2.1 = b.2.1 ∧ a.1 ≤ b.1)) ∧
   SRow (.slice ta T'.length tc) 76 3 T'.length (trF T') ct' ∧ Own B w0 w' (ct' :: H) := by
 obtain ⟨D, hD⟩ : ∃ D : List STrn, D.map (·.1) = T := ⟨T.pmap Subtype.mk hT, by rw [List.map_pmap]; simp⟩
 have hl : D.length = T.length := by rw [← hD]; simp
 have eg : ∀ args w, (callFunc 29 args).run Tryz.prog w = .ok (.enter 29 args) w := enters_of Tryz.func29 (by kernel_rfl) rfl
 rw [← hl] at hr hN ⊢
 have h := sortFunc_own (enc := fun x : STrn => trV x.1) (s := 3) { Tryz.sortTurns with } Tryz.isAgg76 Tryz.sizeOf76 (by decide) (fun _ => rfl) (fun x v hv => by
  simp only [trV, List.mem_cons, List.not_mem_nil, or_false] at hv
  rcases hv with rfl | rfl | rfl <;> rfl) cfT swoT 29 #[] eg (fun x y W => cmpT _ _ _ _ _ _ x.2.1.1 x.2.1.2 x.2.2.1 x.2.2.2 y.2.1.1 y.2.1.2 y.2.2.1 y.2.2.2 W) D (G := trF T) (fun j hj => by
  unfold trF
  rw [← hD, Int.toNat_natCast, List.getD_eq_getElem?_getD, List.getElem?_map, List.getElem?_eq_getElem hj]; rfl) hr (by omega) hO
 change Calls Tryz.prog 28 _ _ _ at h
 refine h.mono fun e w' ⟨he, D', c', hp, hs, hr', hO'⟩ => ⟨he, D'.map (·.1), c', by rw [← hD]; exact hp.map _, ?_, ?_, hO'⟩
 ·refine List.pairwise_map.2 (hs.imp fun {a b} hab => ?_)
  rw [ltT] at hab
  simp only [decide_eq_false_iff_not] at hab
  omega
 ·rw [List.length_map]
  refine hr'.congr fun i i0 i1 => ?_
  unfold trF
  rw [List.getD_eq_getElem?_getD, List.getD_eq_getElem?_getD, List.getElem?_map, List.getElem?_eq_getElem (by omega)]
  rfl
end Go.Proofs.YtbepolognfdkeaaGreat
set_option maxRecDepth 100000
namespace Go.Proofs.YtbepolognfdkeaaGreat
theorem Lds.Can.mono {l : Lds} {k k' : Int} (h : l.Can k) (hk : k ≤ k') : l.Can k' := by
 obtain ⟨x, h1, h2, h3, h4⟩ := h
 exact ⟨x, h1, h2, h3, fun t t0 t1 => Int.le_trans (h4 t t0 t1) hk⟩
theorem Lds.Cr.no {l : Lds} {k : Int} (h : l.Cr k) : ¬ l.Can k := fun ⟨_, hx⟩ => by
 obtain ⟨c, y, hc⟩ := h
 exact hx.no_crush hc
def lAw : Lds := ⟨3, fun _ => 0, fun _ => 2, fun i => if i = 0 then 2 else 1, fun _ => 0⟩
theorem sm3 (f : Int → Int) : sm f 3 = f 0 + f 1 + f 2 := by
 rw [show (3 : Int) = 2 + 1 by decide, sm_succ _ (by decide), show (2 : Int) = 1 + 1 by decide, sm_succ _ (by decide), show (1 : Int) = 0 + 1 by decide, sm_succ _ (by decide), sm_zero]
 simp
theorem i3 {i : Int} (h0 : 0 ≤ i) (h1 : i < ((3 : Nat) : Int)) : i = 0 ∨ i = 1 ∨ i = 2 := by omega
theorem lAw_valid : lAw.Valid := fun i i0 i1 => by
 rcases i3 i0 i1 with rfl | rfl | rfl <;> (unfold Lds.Val lAw; decide)
theorem lAw_two : lAw.Can 2 := by
 have hn : ∀ f : Int → Int, sm f lAw.n = f 0 + f 1 + f 2 := sm3
 refine ⟨fun i h => ind ((if i = 2 then 1 else 0) ≤ h ∧ h < (if i = 1 then 1 else 2)), fun i h _ _ => ind_rng _, fun i h i0 i1 hne => ?_, fun i i0 i1 => ?_, fun t _ _ => ?_⟩
 ·by_cases c : (if i = 2 then 1 else 0) ≤ h ∧ h < (if i = 1 then 1 else 2)
  ·show 0 ≤ h ∧ h < 2
   rcases i3 i0 i1 with rfl | rfl | rfl <;> (simp at c; omega)
  ·exact absurd (ind_f c) hne
 ·rcases i3 i0 i1 with rfl | rfl | rfl
  ·exact sm_span (by decide) (by decide)
  ·exact sm_span (by decide) (by decide)
  ·exact sm_span (by decide) (by decide)
 ·rw [hn]
  by_cases c1 : t = 0
  ·rw [c1]
   have h3 : ind ((if (2 : Int) = 2 then (1 : Int) else 0) ≤ 0 ∧ (0 : Int) < (if (2 : Int) = 1 then 1 else 2)) = 0 := ind_f (by decide)
   have h1 := (ind_rng ((if (0 : Int) = 2 then (1 : Int) else 0) ≤ 0 ∧ (0 : Int) < (if (0 : Int) = 1 then 1 else 2))).2
   have h2 := (ind_rng ((if (1 : Int) = 2 then (1 : Int) else 0) ≤ 0 ∧ (0 : Int) < (if (1 : Int) = 1 then 1 else 2))).2
   omega
  ·have h3 : ind ((if (1 : Int) = 2 then (1 : Int) else 0) ≤ t ∧ t < (if (1 : Int) = 1 then 1 else 2)) = 0 := ind_f (by simp; omega)
   have h1 := (ind_rng ((if (0 : Int) = 2 then (1 : Int) else 0) ≤ t ∧ t < (if (0 : Int) = 1 then 1 else 2))).2
   have h2 := (ind_rng ((if (2 : Int) = 2 then (1 : Int) else 0) ≤ t ∧ t < (if (2 : Int) = 1 then 1 else 2))).2
   omega
theorem lAw_one : ¬ lAw.Can 1 := by
 have hn : ∀ f : Int → Int, sm f lAw.n = f 0 + f 1 + f 2 := sm3
 refine Lds.Cr.no ⟨fun _ => 1, fun h => ind (0 ≤ h ∧ h < 2), fun _ _ _ => by decide, fun _ _ _ => ind_rng _, ?_⟩
 have ho : ∀ i : Int, lAw.outs 1000000000 (fun h => ind (0 ≤ h ∧ h < 2)) i = 0 := fun i => sm_zeroG fun t _ _ => by
  show ind (0 ≤ t ∧ t < 2) * (1 - ind (0 ≤ t ∧ t < 2)) = 0
  by_cases c : 0 ≤ t ∧ t < 2
  ·rw [ind_t c]; rfl
  ·rw [ind_f c]; rfl
 have hs : sm (fun h => ind (0 ≤ h ∧ h < 2)) 1000000000 = 2 := sm_span (by decide) (by decide)
 unfold Lds.need
 rw [hs, hn, ho, ho, ho]
 decide
end Go.Proofs.YtbepolognfdkeaaGreat
set_option maxRecDepth 100000
namespace Go.Proofs.YtbepolognfdkeaaGreat
def qT (T : List Trn) (j : Int) : Trn := T.getD j.toNat (0, 0, 0)
def OkT (l : Lds) (t : Trn) : Prop := (0 ≤ t.1 ∧ t.1 < l.n) ∧ t.2.1 < t.2.2 ∧ l.r t.1 ≤ t.2.1 ∧ t.2.2 ≤ l.d t.1
theorem qT_mem {T : List Trn} {j : Int} (j0 : 0 ≤ j) (j1 : j < T.length) : qT T j ∈ T := by
 unfold qT
 rw [List.getD_eq_getElem?_getD, List.getElem?_eq_getElem (by omega)]
 exact List.getElem_mem _
theorem qT_nat {T : List Trn} {j : Nat} (h : j < T.length) : qT T j = T[j] := by
 unfold qT
 rw [Int.toNat_natCast, List.getD_eq_getElem?_getD, List.getElem?_eq_getElem h]; rfl
noncomputable instance (l : Lds) (k : Int) (T : List Trn) : Decidable (PlanOk l k T) := Classical.propDecidable _
def OrdX (T : List Trn) : Prop := ∀ i : Int, 1 ≤ i → i < T.length → ¬ ((qT T i).2.1 < (qT T (i - 1)).2.1 ∨ (qT T (i - 1)).2.1 = (qT T i).2.1 ∧ (qT T i).1 < (qT T (i - 1)).1)
def Ord7 (T : List Trn) : Prop := T.Pairwise fun a b => a.2.1 < b.2.1 ∨ (a.2.1 = b.2.1 ∧ a.1 ≤ b.1)
noncomputable instance (T : List Trn) : Decidable (OrdX T) := Classical.propDecidable _
end Go.Proofs.YtbepolognfdkeaaGreat
