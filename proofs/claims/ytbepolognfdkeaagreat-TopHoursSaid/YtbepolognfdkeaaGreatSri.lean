import Derived.Test.YtbepolognfdkeaaGreatTb9
import Derived.Test.YtbepolognfdkeaaGreatFbF
import Derived.Test.YtbepolognfdkeaaGreatFaA
import Derived.Test.YtbepolognfdkeaaGreatGaF
import Derived.Test.YtbepolognfdkeaaGreatRgf
import Derived.Shelf.SortM.Plain
import Derived.Shelf.SortM.SortNone
import Derived.Shelf.SlGeneric
import Derived.Shelf.Lay
import Derived.Ground.SlgmProg
set_option maxRecDepth 100000
namespace Go.Proofs.YtbepolognfdkeaaGreat
open Go.RowKit Go.Proofs
structure ClU (B : Nat) (w0 : World) (H : List (Option Blk)) (w : World) : Prop where
 own : Own B w0 w H
theorem IRow.capU {ao : Option Addr} {m cap : Nat} {E : TypeId} {n : Nat} {G : Int → Value} {c : Option Blk} (h : IRow (.slice ao m cap) E n G c) : n ≤ cap := by
 rcases h with ⟨h1, rfl, rfl⟩ | ⟨b, cap', g, h1, h2, h3, rfl, h5⟩
 ·omega
 ·cases h1; exact h2
theorem IRow.cellU {ao : Option Addr} {m cap b : Nat} {E : TypeId} {n : Nat} {G : Int → Value} {c : Option Blk} {B : Nat} {w0 w : World} {H : List (Option Blk)} (h : IRow (.slice ao m cap) E n G c) (ho : Own B w0 w H) (k : Nat) (hk : H[k]? = some c) (ha : ao = some ⟨b, 0, none⟩) {i : Int} (i0 : 0 ≤ i) (i1 : i < n) : w.cell? ⟨b, 0 + i.toNat, none⟩ = some (G i) := by
 obtain ⟨b', e, r⟩ := h.openS ho k hk
 have := e (by omega)
 rw [ha] at this
 cases this
 exact r i i0 i1
theorem SRow.cellU {ao : Option Addr} {m cap b s n : Nat} {E : TypeId} {G : Int → List Value} {c : Option Blk} {B : Nat} {w0 w : World} {H : List (Option Blk)} (h : SRow (.slice ao m cap) E s n G c) (ho : Own B w0 w H) (k : Nat) (hk : H[k]? = some c) (ha : ao = some ⟨b, 0, none⟩) :
  ∀ i : Int, 0 ≤ i → i < n → ∀ fo, fo < s → w.cell? ⟨b, 0 + i.toNat * s + fo, none⟩ = some ((G i).getD fo undef) := fun i i0 i1 => by
 obtain ⟨b', e, r⟩ := h.openS ho k hk
 have := e (by omega)
 rw [ha] at this
 cases this
 exact r i i0 i1
theorem Own.iatU {B : Nat} {w0 w : World} {H : List (Option Blk)} (hO : Own B w0 w H) {ao : Option Addr} {n : Nat} {G : Int → Value} (h : IAt B w0 ao n G) : IAt w.heap.size w ao n G := (h.below hO.below).mono hO.size
theorem Own.satU {B : Nat} {w0 w : World} {H : List (Option Blk)} (hO : Own B w0 w H) {ao : Option Addr} {s n : Nat} {G : Int → List Value} (h : SAt B w0 ao s n G) : SAt w.heap.size w ao s n G := (h.below hO.below).mono hO.size
theorem SrcI.adr {R : List (Option Blk)} {ao : Option Addr} {n : Nat} {g : Int → Int} (h : SrcI R ao n g) {B : Nat} {w0 w : World} (hO : Own B w0 w R) (hn : 0 < n) :
  ∃ b off, ao = some ⟨b, off, none⟩ ∧ ∀ {B : Nat} {w0 w : World}, Own B w0 w R → ∀ i : Int, 0 ≤ i → i < n → w.cell? ⟨b, off + i.toNat, none⟩ = some (iv (g i)) := by
 obtain ⟨b, off, e, _⟩ := (h _ _ _ hO).open
 have e1 := e hn
 refine ⟨b, off, e1, fun {B' w0' w'} hO' i i0 i1 => ?_⟩
 obtain ⟨b', off', e', r⟩ := (h _ _ _ hO').open
 have e2 := e' hn
 rw [e1] at e2
 cases e2
 exact r _ (Below.refl _ _) i i0 i1
def TOwn (H : List (Option Blk)) (oa : Option Addr) (n : Nat) (L : Int → Nat) (R : Int → Int → Int) : Prop :=
 ∃ (A : Int → Option Addr) (C : Int → Nat), (∀ r : Int, 0 ≤ r → r < n → L r ≤ C r) ∧ ∀ (B : Nat) (w0 w : World), Own B w0 w H → IAt w.heap.size w oa n (fun r => .slice (A r) (L r) (C r)) ∧ ∀ r : Int, 0 ≤ r → r < n → IAt w.heap.size w (A r) (L r) (fun c => iv (R r c))
theorem OTab.town {ao : Option Addr} {m cap n : Nat} {T1 T2 : TypeId} {L : Int → Nat} {F : Int → Int → Int} {H : List (Option Blk)} (h : OTab (.slice ao m cap) T1 T2 n L (fun r c => iv (F r c)) H) : TOwn H ao n L F := by
 obtain ⟨c, rv, ch, rfl, h2, h3⟩ := h
 have hv : ∀ r : Int, ∃ p : Option Addr × Nat, 0 ≤ r → r < n → rv r = .slice p.1 (L r) p.2 := fun r => by
  by_cases hr : 0 ≤ r ∧ r < n
  ·obtain ⟨q, rfl⟩ := Int.eq_ofNat_of_zero_le hr.1
   obtain ⟨a, b, e⟩ := Row.val (h3 q (by omega))
   exact ⟨(a, b), fun _ _ => e⟩
  ·exact ⟨(none, 0), fun a b => absurd ⟨a, b⟩ hr⟩
 have hAC : ∀ r : Int, 0 ≤ r → r < n → rv r = .slice (Classical.choose (hv r)).1 (L r) (Classical.choose (hv r)).2 := fun r h0 hr => Classical.choose_spec (hv r) h0 hr
 have hrow : ∀ q : Nat, q < n → IRow (.slice (Classical.choose (hv q)).1 (L q) (Classical.choose (hv q)).2) T2 (L q) (fun c => iv (F q c)) (ch q) := fun q hq => by
  have := h3 q hq
  rw [hAC q (by omega) (by omega)] at this
  exact this
 refine ⟨fun r => (Classical.choose (hv r)).1, fun r => (Classical.choose (hv r)).2, fun r h0 hr => ?_, fun B w0 w hO => ⟨(h2.reads hO 0 rfl).congr hAC, fun r h0 hr => ?_⟩⟩
 ·obtain ⟨q, rfl⟩ := Int.eq_ofNat_of_zero_le h0
  exact (hrow q (by omega)).capU
 ·obtain ⟨q, rfl⟩ := Int.eq_ofNat_of_zero_le h0
  refine (hrow q (by omega)).reads hO (q + 1) ?_
  have : q < n := by omega
  simp [this]
theorem TOwn.sub {N M : List (Option Blk)} {oa : Option Addr} {n : Nat} {L : Int → Nat} {R : Int → Int → Int} (h : TOwn N oa n L R) (hs : N.Sublist M) : TOwn M oa n L R := by
 obtain ⟨A, C, h1, h2⟩ := h
 exact ⟨A, C, h1, fun B w0 w hO => h2 B w0 w (hO.sub hs)⟩
theorem TOwn.itab {H : List (Option Blk)} {oa : Option Addr} {n : Nat} {L : Int → Nat} {R : Int → Int → Int} (h : TOwn H oa n L R) {B : Nat} {w0 w : World} (hO : Own B w0 w H) : ITab w.heap.size w oa n L (fun r c => iv (R r c)) := by
 obtain ⟨A, C, _, h2⟩ := h
 exact ⟨A, C, (h2 B w0 w hO).1, (h2 B w0 w hO).2⟩
theorem TOwn.adr {H : List (Option Blk)} {oa : Option Addr} {n : Nat} {L : Int → Nat} {R : Int → Int → Int} (h : TOwn H oa n L R) {B : Nat} {w0 w : World} (hO : Own B w0 w H) (hn : 0 < n) :
  ∃ (A : Int → Option Addr) (C : Int → Nat) (b off : Nat), oa = some ⟨b, off, none⟩ ∧ (∀ {B : Nat} {w0 w : World}, Own B w0 w H → ∀ i : Int, 0 ≤ i → i < n → w.cell? ⟨b, off + i.toNat, none⟩ = some (.slice (A i) (L i) (C i))) ∧ ∀ r : Int, 0 ≤ r → r < n → SrcI H (A r) (L r) (R r) := by
 obtain ⟨A, C, h1, h2⟩ := h
 obtain ⟨b, off, e, _⟩ := (h2 B w0 w hO).1.open
 have e1 := e hn
 refine ⟨A, C, b, off, e1, fun {B' w0' w'} hO' i i0 i1 => ?_, fun r r0 r1 B w0 w hO => (h2 B w0 w hO).2 r r0 r1⟩
 obtain ⟨b', off', e', r⟩ := (h2 B' w0' w' hO').1.open
 have e2 := e' hn
 rw [e1] at e2
 cases e2
 exact r _ (Below.refl _ _) i i0 i1
end Go.Proofs.YtbepolognfdkeaaGreat
set_option maxRecDepth 100000
namespace Go.Proofs.YtbepolognfdkeaaGreat
open Go.RowKit Go.Proofs Go.MapKept
abbrev KpI := Nat → (Int → Int) → List (Option Blk) → Prop
def YieldInt (l B : Nat) (w0 : World) (K : KpI) : Prop :=
 ∀ (N : Nat) (X : Int → Int) (KL T : List (Option Blk)) (w : World) (x : Int), K N X KL → N ≤ 1000000 → Own B w0 w (KL ++ T) →
  YieldAt (FW none) 0 Tryz.prog l #[iv x] w fun e w' => ∃ v, e = .returned v ∧ v = .bool true ∧ ∃ KL' : List (Option Blk), K (N + 1) (upd X N x) KL' ∧ Own B w0 w' (KL' ++ T)
def ItOk (gf : FuncId) (mt : TypeId) : Prop :=
 ∀ (l B b1 bm : Nat) (w0 w : World) (L : List (Int × Value)) (K : KpI) (X : Int → Int) (KL T : List (Option Blk)), (L.map (·.1)).Nodup → L.length ≤ 1000000 → YieldInt l B w0 K → K 0 X KL → Own B w0 w (some (lch b1 mt [.map (some bm)]) :: some (mch bm L) :: (KL ++ T)) →
  Calls Tryz.prog gf #[.func (.yield l) #[] #[], ptr b1] w fun e w' => e = .returned (.tuple #[]) ∧ ∃ (N : Nat) (X' : Int → Int) (KL' : List (Option Blk)), K N X' KL' ∧ KeysOf L N X' ∧ Own B w0 w' (some (lch b1 mt [.map (some bm)]) :: some (mch bm L) :: (KL' ++ T))
theorem perm_it {α : Type} {r a b : α} {KL T : List α} : (r :: a :: b :: (KL ++ T)).Perm (KL ++ (r :: a :: b :: T)) := by
 classical
 rw [List.perm_iff_count]
 intro z
 simp only [List.count_append, List.count_cons, List.count_nil]
 omega
theorem KeysTo.lt_len {L : List (Int × Value)} {seen : Array Nat} {N i : Nat} {X : Int → Int} {k : Int} {v : Value} (h : KeysTo L seen N X) (hi : L[i]? = some (k, v)) (hn : i ∉ seen) : N < L.length := by
 have h2 := h.step hi hn
 have hl := h2.len
 have key := pigeonG (e := fun j => (((seen.push i)[j.toNat]! : Nat) : Int)) (n := N + 1) (m := L.length) (fun j j0 j1 => ?_) (fun a b a0 a1 b0 b1 e => ?_)
 ·omega
 ·have hm : (seen.push i)[j.toNat]! ∈ seen.push i := by
   rw [getElem!_pos (seen.push i) j.toNat (by omega)]
   exact Array.getElem_mem _
  have := h2.lt _ hm
  omega
 ·have e2 : (seen.push i)[a.toNat]! = (seen.push i)[b.toNat]! := by
   omega
  rw [getElem!_pos (seen.push i) a.toNat (by omega), getElem!_pos (seen.push i) b.toNat (by omega)] at e2
  have := nodup_injM h2.nd (i := a.toNat) (j := b.toNat) (by rw [Array.length_toList]; omega) (by rw [Array.length_toList]; omega) (by simpa only [Array.getElem_toList] using e2)
  omega
theorem keysB_it : ItOk 119 124 := by
 intro l B b1 bm w0 w L K X KL T hnd hlen hY hK hO
 refine calls_of_run (F := [(0, _), (1, _)]) Tryz.func119 rfl Tryz.ntmps119 rfl rfl <| run_seq <| run_region <| rl_v rfl rfl rfl (ov_load rfl Tryz.underlying124 rfl rfl (by exact hO.cellL 0 rfl (off := 0) rfl)) ?_
 refine rl_ow rfl (ow_rangeM rfl rfl rfl Tryz.underlying124 hO 1 rfl rfl) ?_
 rintro _ w1 ⟨r, rfl, hO2⟩
 refine rl_nil <| run_block <| Run.keep [0, 5] (F' := [(0, _), (5, _)]) rfl <| run_loop3 (fun (seen : Array Nat) (N : Nat) (X1 : Int → Int) => []) [0, 5] (fun (seen : Array Nat) (N : Nat) (X1 : Int → Int) (w4 : World) => ∃ KL1 : List (Option Blk), K N X1 KL1 ∧ KeysTo L seen N X1 ∧ Own B w0 w4 (some (itc r bm L.length seen) :: some (lch b1 124 [.map (some bm)]) :: some (mch bm L) :: (KL1 ++ T))) (fun (seen : Array Nat) (N : Nat) (X1 : Int → Int) => L.length - N) (#[]) (0) (X) ?_ (And.intro rfl (And.intro rfl trivial)) ?_
 ·exact ⟨KL, hK, KeysTo.nil L X, hO2⟩
 intro seen N X1 w4 hIw4 ih5
 obtain ⟨KL1, hK1, hKT, hO1⟩ := hIw4
 show Run _ _ _ _ [(0, _), (5, _)] _ _
 refine run_seq <| run_region <| rl_ow rfl (ow_nextM rfl rfl rfl hO1 0 rfl 2 rfl rfl) ?_
 rintro _ w6 ⟨b, xs, seen2, rfl, hx0, hO7, hFn, hTn⟩
 refine rl_v rfl rfl rfl (ov_extract rfl rfl hx0) <| rl_nil <| run_seq ?_
 first | refine run_cond_dec rfl (fun c1 => ?_) (fun c1 => ?_) | refine run_cond rfl (fun c1 => ?_) (fun c1 => ?_)
 ·obtain ⟨i, k, v, hi, hns, rfl⟩ := hTn c1
  have hle := hKT.lt_len hi hns
  refine run_skip <| run_block <| run_seq <| run_region <| rl_v rfl rfl rfl (ov_entryM rfl hO7 0 rfl 2 rfl hi rfl) <| rl_v rfl rfl rfl (ov_extract rfl rfl (by rfl)) ?_
  refine rl_v rfl rfl rfl (ov_assign rfl rfl) <| rl_nil <| run_seq ?_
  have hOy := hO7.perm perm_it
  refine run_ci (n := 0) (ci_region (li_v rfl (fun _ h => by cases h) rfl rfl (ov_move rfl rfl) (li_v rfl (fun _ h => by cases h) rfl rfl (ov_move rfl rfl) (li_yield rfl rfl rfl rfl rfl rfl (hY N X1 KL1 _ _ k hK1 (by omega) hOy) (fun vy wy hp => ?_)))))
  obtain ⟨rfl, KL2, hK2, hO2⟩ := hp
  refine li_v rfl (fun _ h => by cases h) rfl rfl (ov_not rfl rfl) (li_nil (qk_run ?_))
  have hO3 := hO2.perm perm_it.symm
  refine run_cond_f rfl <| run_skip <| run_inBlock ?_
  refine Run.use (ih5 (seen.push i) (N + 1) (upd X1 N k) _ ?_ ?_) (And.intro rfl (And.intro rfl trivial))
  ·first | omega | (dsimp only; omega)
  ·exact ⟨KL2, hK2, hKT.step hi hns, hO3⟩
 ·have hb : b = false := by revert c1; cases b <;> simp
  refine run_exit rfl <| run_end Tryz.func119 (res0 Tryz.results119) ?_
  exact ⟨rfl, N, X1, KL1, hK1, hKT.all hnd (hFn hb).1, hO7.tail⟩
end Go.Proofs.YtbepolognfdkeaaGreat
set_option maxRecDepth 100000
namespace Go.Proofs.YtbepolognfdkeaaGreat
open Go.RowKit Go.Proofs Go.MapKept
def Tryz.sortInts_ren : Go.Shelf.Ren := ⟨fun | 5 => 38 | 8 => 61 | 7 => 67 | 19 => 96 | 20 => 97 | 10 => 102 | 11 => 103 | 12 => 104 | 13 => 105 | 14 => 106 | 15 => 107 | 16 => 108 | 17 => 109 | 18 => 110 | 30 => 138 | 31 => 131 | 32 => 132 | 33 => 139 | 34 => 140 | 35 => 141 | 40 => 152 | n => n, fun | 23 => 36 | 25 => 3 | 3 => 3 | 32 => 56 | 22 => 36 | 0 => 0 | 44 => 151 | 46 => 153 | 4 => 4 | 36 => 144 | 35 => 143 | 41 => 148 | 5 => 5 | 9 => 9 | 53 => 187 | 57 => 191 | 63 => 205 | 64 => 206 | n => n, fun | n => n⟩
theorem Tryz.sortInts : Go.Proofs.SlLaysM.n5 Tryz.prog Tryz.sortInts_ren := {
  mixed := by kernel_rfl
  f5 := ⟨Tryz.f38.name, by decide, Tryz.func38.trans (congrArg some (by kernel_rfl))⟩
  f7 := ⟨Tryz.f67.name, by decide, Tryz.func67.trans (congrArg some (by kernel_rfl))⟩
  f8 := Tryz.func61.trans (congrArg some (by kernel_rfl))
  f10 := ⟨Tryz.f102.name, by decide, Tryz.func102.trans (congrArg some (by kernel_rfl))⟩
  f11 := ⟨Tryz.f103.name, by decide, Tryz.func103.trans (congrArg some (by kernel_rfl))⟩
  f12 := ⟨Tryz.f104.name, by decide, Tryz.func104.trans (congrArg some (by kernel_rfl))⟩
  f13 := ⟨Tryz.f105.name, by decide, Tryz.func105.trans (congrArg some (by kernel_rfl))⟩
  f14 := ⟨Tryz.f106.name, by decide, Tryz.func106.trans (congrArg some (by kernel_rfl))⟩
  f15 := ⟨Tryz.f107.name, by decide, Tryz.func107.trans (congrArg some (by kernel_rfl))⟩
  f16 := ⟨Tryz.f108.name, by decide, Tryz.func108.trans (congrArg some (by kernel_rfl))⟩
  f17 := ⟨Tryz.f109.name, by decide, Tryz.func109.trans (congrArg some (by kernel_rfl))⟩
  f18 := ⟨Tryz.f110.name, by decide, Tryz.func110.trans (congrArg some (by kernel_rfl))⟩
  f19 := Tryz.func96.trans (congrArg some (by kernel_rfl))
  f20 := Tryz.func97.trans (congrArg some (by kernel_rfl))
  f30 := ⟨Tryz.f138.name, by decide, Tryz.func138.trans (congrArg some (by kernel_rfl))⟩
  f31 := Tryz.func131.trans (congrArg some (by kernel_rfl))
  f32 := Tryz.func132.trans (congrArg some (by kernel_rfl))
  f33 := ⟨Tryz.f139.name, by decide, Tryz.func139.trans (congrArg some (by kernel_rfl))⟩
  f34 := ⟨Tryz.f140.name, by decide, Tryz.func140.trans (congrArg some (by kernel_rfl))⟩
  f35 := ⟨Tryz.f141.name, by decide, Tryz.func141.trans (congrArg some (by kernel_rfl))⟩
  f40 := ⟨Tryz.f152.name, by decide, Tryz.func152.trans (congrArg some (by kernel_rfl))⟩
  t0 := Tryz.underlying0
  a0 := Tryz.isAgg0
  z0 := Tryz.sizeOf0
  v0 := Tryz.zeroValue0
  t3 := Tryz.underlying3
  a3 := Tryz.isAgg3
  z3 := Tryz.sizeOf3
  v3 := Tryz.zeroValue3
  t4 := Tryz.underlying4
  a4 := Tryz.isAgg4
  z4 := Tryz.sizeOf4
  v4 := Tryz.zeroValue4
  t5 := Tryz.underlying5
  a5 := Tryz.isAgg5
  z5 := Tryz.sizeOf5
  v5 := Tryz.zeroValue5
  t9 := Tryz.underlying9
  a9 := Tryz.isAgg9
  z9 := Tryz.sizeOf9
  v9 := Tryz.zeroValue9
  t22 := Tryz.underlying36
  a22 := Tryz.isAgg36
  z22 := Tryz.sizeOf36
  v22 := Tryz.zeroValue36
  t23 := Tryz.underlying36
  a23 := Tryz.isAgg36
  z23 := Tryz.sizeOf36
  v23 := Tryz.zeroValue36
  t25 := Tryz.underlying3
  a25 := Tryz.isAgg3
  z25 := Tryz.sizeOf3
  v25 := Tryz.zeroValue3
  t32 := Tryz.underlying56
  a32 := Tryz.isAgg56
  z32 := Tryz.sizeOf56
  v32 := Tryz.zeroValue56
  t35 := Tryz.underlying143
  a35 := Tryz.isAgg143
  z35 := Tryz.sizeOf143
  v35 := Tryz.zeroValue143
  t36 := Tryz.underlying144
  a36 := Tryz.isAgg144
  z36 := Tryz.sizeOf144
  v36 := Tryz.zeroValue144
  t41 := Tryz.underlying148
  a41 := Tryz.isAgg148
  z41 := Tryz.sizeOf148
  v41 := Tryz.zeroValue148
  t44 := Tryz.underlying151
  a44 := Tryz.isAgg151
  z44 := Tryz.sizeOf151
  v44 := Tryz.zeroValue151
  t46 := Tryz.underlying153
  a46 := Tryz.isAgg153
  z46 := Tryz.sizeOf153
  v46 := Tryz.zeroValue153
  t53 := Tryz.underlying187
  a53 := Tryz.isAgg187
  z53 := Tryz.sizeOf187
  v53 := Tryz.zeroValue187
  t57 := Tryz.underlying191
  a57 := Tryz.isAgg191
  z57 := Tryz.sizeOf191
  v57 := Tryz.zeroValue191
  t63 := Tryz.underlying205
  a63 := Tryz.isAgg205
  z63 := Tryz.sizeOf205
  v63 := Tryz.zeroValue205
  t64 := Tryz.underlying206
  a64 := Tryz.isAgg206
  z64 := Tryz.sizeOf206
  v64 := Tryz.zeroValue206 }
theorem sortI_any (ob N cap : Nat) (X : Int → Int) (G : Int → Value) (w : World) (B : Nat) (w0 : World) (H : List (Option Blk)) (hN : 1 ≤ N) (hc : N ≤ cap) (hN2 : N ≤ 1000000) (hG : ∀ i : Int, 0 ≤ i → i < N → G i = iv (X i)) (hO : Own B w0 w (some (vch ob 3 cap G) :: H)) :
  Calls Tryz.prog 38 #[.slice (some ⟨ob, 0, none⟩) N cap] w fun e w' => e = .returned (.tuple #[]) ∧ ∃ zs : List Int, zs.Perm ((List.range N).map fun j : Nat => X (j : Int)) ∧ zs.Pairwise (· ≤ ·) ∧ Own B w0 w' (some (vch ob 3 cap (fun i => if i < N then iv (zs.getD i.toNat 0) else G i)) :: H) := by
 obtain ⟨ys, hys⟩ : ∃ ys : List Int, ys = (List.range N).map fun j : Nat => X (j : Int) := ⟨_, rfl⟩
 have hyl : ys.length = N := by rw [hys]; simp
 have hyj : ∀ (j : Nat), j < N → ys.toArray[j]! = X (j : Int) := fun j hj => by
  rw [getElem!_pos ys.toArray j (by simp; omega)]
  subst hys
  simp
 have h := AnyM.slices_Sort_int { Tryz.sortInts with } ob 0 cap ys w (fun j hj => by
  have hj' : j < N := by have : j < ys.toArray.size := hj; simp at this; omega
  refine ⟨?_, by rw [Nat.zero_add]; exact (hO.get 0 rfl).frozen j⟩
  have := hO.cellI 0 rfl (j : Int) (by omega) (by omega)
  rw [Int.toNat_natCast] at this
  rw [this, hG j (by omega) (by omega), hyj j hj']) (hO.lt 0 rfl) (by omega)
 change Calls Tryz.prog 38 _ _ _ at h
 rw [hyl] at h
 refine h.mono fun e w' ⟨he, n, os, hw⟩ => ⟨he, ys.mergeSort fun x y => decide (x ≤ y), ?_, ?_, ?_⟩
 ·rw [← hys]; exact List.mergeSort_perm _ _
 ·refine (List.pairwise_mergeSort (le := fun x y : Int => decide (x ≤ y)) (fun a b c h1 h2 => ?_) (fun a b => ?_) ys).imp fun h => of_decide_eq_true h
  ·have := of_decide_eq_true h1; have := of_decide_eq_true h2; exact decide_eq_true (by omega)
  ·by_cases c : a ≤ b
   ·simp [c]
   ·simp; omega
 ·have hl : (ys.mergeSort fun x y => decide (x ≤ y)).length = N := by rw [List.length_mergeSort, hyl]
  have hs := hO.sorted (enc := Value.int .i64) n (ys.mergeSort fun x y => decide (x ≤ y)).toArray os (by simp [hyl] : (ys.mergeSort fun x y => decide (x ≤ y)).toArray.size = N) hc
  rw [hw]
  have e : (fun i : Int => if i < (N : Int) then Value.int .i64 ((ys.mergeSort fun x y => decide (x ≤ y)).toArray[i.toNat]!) else G i) = fun i : Int => if i < (N : Int) then iv ((ys.mergeSort fun x y => decide (x ≤ y)).getD i.toNat 0) else G i := by
   funext i
   by_cases c : i < N
   ·rw [if_pos c, if_pos c, getElem!_pos _ i.toNat (by simp [hyl]; omega), List.getD_eq_getElem?_getD, List.getElem?_eq_getElem (by rw [hl]; omega)]
    rfl
   ·rw [if_neg c, if_neg c]
  rw [e] at hs
  exact hs
structure Rise (N : Nat) (X : Int → Int) : Prop where
 inc : ∀ a b : Int, 0 ≤ a → a < b → b < N → X a < X b
theorem rise_of {N : Nat} {X : Int → Int} {zs : List Int} (hi : ∀ a b : Int, 0 ≤ a → a < N → 0 ≤ b → b < N → X a = X b → a = b) (hp : zs.Perm ((List.range N).map fun j : Nat => X (j : Int))) (hs : zs.Pairwise (· ≤ ·)) :
  Rise N (fun i => zs.getD i.toNat 0) ∧ ∀ k : Int, (∃ j : Int, (0 ≤ j ∧ j < N) ∧ zs.getD j.toNat 0 = k) ↔ ∃ j : Int, (0 ≤ j ∧ j < N) ∧ X j = k := by
 have hl : zs.length = N := by rw [hp.length_eq]; simp
 have hnd : ((List.range N).map fun j : Nat => X (j : Int)).Nodup := by
  refine List.pairwise_map.2 (List.nodup_range.imp_of_mem fun {a b} ha hb hne e => hne ?_)
  have ha := List.mem_range.1 ha
  have hb := List.mem_range.1 hb
  have := hi a b (by omega) (by omega) (by omega) (by omega) e
  omega
 have hz : zs.Nodup := hp.nodup_iff.2 hnd
 have hget : ∀ i : Nat, ∀ h : i < N, zs.getD i 0 = zs[i]'(by omega) := fun i h => by rw [List.getD_eq_getElem?_getD, List.getElem?_eq_getElem (by omega)]; rfl
 refine ⟨⟨fun a b a0 ab b1 => ?_⟩, fun k => ⟨fun ⟨j, ⟨j0, j1⟩, e⟩ => ?_, fun ⟨j, ⟨j0, j1⟩, e⟩ => ?_⟩⟩
 ·show zs.getD a.toNat 0 < zs.getD b.toNat 0
  rw [hget a.toNat (by omega), hget b.toNat (by omega)]
  have h1 := List.pairwise_iff_getElem.1 hs a.toNat b.toNat (by omega) (by omega) (by omega)
  have h2 : zs[a.toNat]'(by omega) ≠ zs[b.toNat]'(by omega) := fun e => by have := nodup_injM hz (by omega) (by omega) e; omega
  omega
 ·have hm : k ∈ zs := by rw [← e, hget j.toNat (by omega)]; exact List.getElem_mem _
  obtain ⟨i, hi2, e2⟩ := List.mem_map.1 (hp.mem_iff.1 hm)
  exact ⟨i, ⟨by omega, by have := List.mem_range.1 hi2; omega⟩, e2⟩
 ·have hm : k ∈ zs := hp.mem_iff.2 (List.mem_map.2 ⟨j.toNat, List.mem_range.2 (by omega), by rw [show ((j.toNat : Nat) : Int) = j by omega]; exact e⟩)
  obtain ⟨i, hi2, e2⟩ := List.mem_iff_getElem.1 hm
  exact ⟨i, ⟨by omega, by omega⟩, by rw [Int.toNat_natCast, hget i (by omega)]; exact e2⟩
theorem sortR_any (va : Option Addr) (vc N : Nat) (X : Int → Int) (c : Option Blk) (w : World) (B : Nat) (w0 : World) (H : List (Option Blk)) (hv : IRow (.slice va N vc) 3 N (fun i => iv (X i)) c) (hN2 : N ≤ 1000000) (hi : ∀ a b : Int, 0 ≤ a → a < N → 0 ≤ b → b < N → X a = X b → a = b) (hO : Own B w0 w (c :: H)) :
  Calls Tryz.prog 38 #[.slice va N vc] w fun e w' => e = .returned (.tuple #[]) ∧ ∃ (X' : Int → Int) (c' : Option Blk), IRow (.slice va N vc) 3 N (fun i => iv (X' i)) c' ∧ Rise N X' ∧ (∀ k : Int, (∃ j : Int, (0 ≤ j ∧ j < N) ∧ X' j = k) ↔ ∃ j : Int, (0 ≤ j ∧ j < N) ∧ X j = k) ∧ Own B w0 w' (c' :: H) := by
 by_cases h0 : N = 0
 ·subst h0
  have h := AnyM.slices_Sort_int_none { Tryz.sortInts with } va vc w
  change Calls Tryz.prog 38 _ _ _ at h
  exact h.mono fun e w' ⟨h1, h2⟩ => ⟨h1, X, c, hv, ⟨fun a b a0 ab b1 => by omega⟩, fun k => Iff.rfl, by rw [h2]; exact hO⟩
 ·obtain ⟨ob, G, rfl, hnc, hmx, rfl, hG⟩ := hv.asV (by omega)
  refine (sortI_any ob N vc X G w B w0 H (by omega) hnc hN2 hG hO).mono fun e w' ⟨he, zs, hp, hs, hO2⟩ => ⟨he, fun i => zs.getD i.toNat 0, _, IRow.ofV hnc hmx fun i i0 i1 => if_pos i1, (rise_of hi hp hs).1, (rise_of hi hp hs).2, hO2⟩
def KApp (b2 D l : Nat) (r : Loop) : KpI := fun N X KL => ∃ (va : Option Addr) (vc : Nat) (c : Option Blk), IRow (.slice va N vc) 3 N (fun i => iv (X i)) c ∧ KL = [some (och l (.loop r)), some (och D (.deferred (some []))), some (lch b2 36 [.slice va N vc]), c]
theorem run_rangeApp {f N : Nat} {k : List Item} {F : Fr} {w w0 : World} {R : Ending → World → Prop} {id gf B b2 : Nat} {g : Operand} {ps : Array Tmp} {assign body : Code} {cap : Array Value} (hcl : Callable Tryz.prog gf) (hg : Fr.ev F g = some (.func (.func gf) #[] cap))
  (hy : ∀ fn a, Holds N F a → YieldInt (w.heap.size + 1) B w0 (KApp b2 w.heap.size (w.heap.size + 1) (lrec fn a.tmps ps assign body w.heap.size)))
  (h : ∀ fn a, Holds N F a → YieldInt (w.heap.size + 1) B w0 (KApp b2 w.heap.size (w.heap.size + 1) (lrec fn a.tmps ps assign body w.heap.size)) → Calls Tryz.prog gf (#[.func (.yield (w.heap.size + 1)) #[] #[]] ++ cap) ((w.alloc (.deferred (some []))).alloc (.loop (lrec fn a.tmps ps assign body w.heap.size))) fun e w3 =>
   ∃ (v : Value) (r : Loop), e = .returned v ∧ w3.heap[w.heap.size + 1]? = some (.loop r) ∧ r.state ≠ .busy ∧ (r.pending = none ∨ r.pending = some (.exit id)) ∧
    RM Tryz.prog f N [{ target := .collected w.heap.size, args := #[] }] k F (w3.putObj (w.heap.size + 1) (.loop { r with state := .exhausted })) R) :
  Run Tryz.prog f N (.code (.block id (.rangeFunc g ps assign body)) :: k) F w R := run_rangeFunc hcl hg fun fn a ha => h fn a ha (hy fn a ha)
theorem perm_app1 {α : Type} {b c r a : α} {l D : α} {T : List α} : (c :: l :: D :: b :: a :: r :: T).Perm (a :: r :: ([l, D, b, c] ++ T)) := by
 classical
 rw [List.perm_iff_count]
 intro z
 simp only [List.count_append, List.count_cons, List.count_nil]
 omega
theorem appendSeq_any (gf : FuncId) (mt : TypeId) (hIt : ItOk gf mt) (hcl : Callable Tryz.prog gf) (B b1 bm : Nat) (w0 w : World) (L : List (Int × Value)) (T : List (Option Blk)) (hnd : (L.map (·.1)).Nodup) (hlen : L.length ≤ 1000000) (hO : Own B w0 w (some (lch b1 mt [.map (some bm)]) :: some (mch bm L) :: T)) :
  Calls Tryz.prog 129 #[.slice none 0 0, .func (.func gf) #[] #[ptr b1]] w fun e w' => ∃ (va : Option Addr) (vc N : Nat) (X : Int → Int) (c : Option Blk), e = .returned (.slice va N vc) ∧ IRow (.slice va N vc) 3 N (fun i => iv (X i)) c ∧ KeysOf L N X ∧ Own B w0 w' (some (lch b1 mt [.map (some bm)]) :: some (mch bm L) :: c :: T) := by
 refine calls_of_run (F := [(0, _), (1, _)]) Tryz.func129 rfl Tryz.ntmps129 rfl rfl <| run_seq <| run_region <| rl_ow rfl (ow_box _ rfl rfl rfl rfl rfl hO) ?_
 rintro _ w1 ⟨b2, rfl, hO2, hs3⟩
 refine rl_v rfl rfl rfl (ov_assign rfl rfl) <| rl_nil <| run_seq <| run_seq <| run_region <| rl_v rfl rfl rfl (ov_move rfl rfl) <| rl_nil ?_
 have hOb := hO2
 refine run_rangeApp (B := B) (w0 := w0) (b2 := b2) hcl rfl (fun fn a ha => ?_) (fun fn a ha hY => ?_)
 ·intro N X KL T wy x hK hN hOy
  obtain ⟨va, vc, c, hv, rfl⟩ := hK
  refine yieldAt_round (hOy.atO 0 rfl) rfl ha.size (fun i u hu => ha.at_ i u hu) rfl (ci_region (li_v rfl (fun _ h => by cases h) rfl rfl (ov_assign rfl rfl) (li_nil (round_body (beginK hOy 0 rfl rfl fun w2 hO2 => ?_)))))
  refine ci_block (ci_region (li_v rfl (fun _ h => by cases h) rfl rfl (ov_load rfl Tryz.underlying36 rfl rfl (hO2.cellL 2 rfl (off := 0) rfl)) (li_v rfl (fun _ h => by cases h) rfl rfl (ov_move rfl rfl) (li_ow rfl (fun _ h => by cases h) (ow_one rfl rfl rfl Tryz.underlying36 info_3 rfl hO2 rfl rfl) ?_))))
  rintro _ w3 ⟨bx, rfl, hO3, _⟩
  refine li_ow rfl (fun _ h => by cases h) (ow_app1 rfl rfl rfl Tryz.underlying36 info_3 rfl hO3 3 hv rfl rfl rfl rfl ⟨by omega, by omega⟩) ?_
  rintro _ w4 ⟨v7, c7, rfl, hO4, hv7, _⟩
  obtain ⟨a7, cp7, rfl⟩ := Row.val hv7
  refine li_ow rfl (fun _ h => by cases h) (ow_storeL rfl rfl (by kernel_rfl) hO4 2 rfl rfl rfl rfl rfl) ?_
  rintro _ w5 ⟨rfl, hO5, _⟩
  refine li_nil fun a4 ha4 => inBlock_normal (endK hO5 0 rfl fun w6 hO6 => ?_)
  exact ⟨_, rfl, rfl, _, ⟨a7, cp7, c7, hv7.congr fun i _ _ => by unfold upd; split <;> rfl, rfl⟩, hO6⟩
 ·have e1 : (w1.alloc (.deferred (some []))).heap.size = w1.heap.size + 1 := by simp
  have hOl := fun r : Loop => ((hOb.allocO (.deferred (some []))).allocO (.loop r)).nil_cons
  rw [e1] at hOl
  refine (hIt (w1.heap.size + 1) B b1 bm w0 _ L _ (fun _ => 0) _ T hnd hlen hY ⟨none, 0, none, IRow.nil _ _, rfl⟩ ((hOl _).perm perm_app1)).mono fun e w3 ⟨he, N, X, KL', hK, hKo, hO3⟩ => ?_
  obtain ⟨va, vc, c, hv, rfl⟩ := hK
  refine ⟨_, _, he, hO3.atO 2 rfl, (fun h => by cases h), .inl rfl, ?_⟩
  have hO4 := fun r : Loop => hO3.putO 2 rfl (.loop r)
  refine rm_seq (rm_region (rml_v rfl rfl rfl (ov_load rfl Tryz.underlying36 rfl rfl ((hO4 _).cellL 4 rfl (off := 0) rfl)) (rml_v rfl rfl rfl (ov_assign rfl rfl) (rml_nil (rm_ret Tryz.func129 ((hO4 _).atO 3 rfl) (res1 Tryz.results129 rfl) ?_)))))
  have hO5 := fun r : Loop => ((hO4 r).putO 3 rfl (.deferred none)).sub (.cons_cons _ (.cons_cons _ (.cons _ (.cons _ (.cons _ (.refl _))))))
  exact ⟨va, vc, N, X, c, rfl, hv, hKo, hO5 _⟩
theorem collect_any (gf : FuncId) (mt : TypeId) (hIt : ItOk gf mt) (hcl : Callable Tryz.prog gf) (B b1 bm : Nat) (w0 w : World) (L : List (Int × Value)) (T : List (Option Blk)) (hnd : (L.map (·.1)).Nodup) (hlen : L.length ≤ 1000000) (hO : Own B w0 w (some (lch b1 mt [.map (some bm)]) :: some (mch bm L) :: T)) :
  Calls Tryz.prog 86 #[.func (.func gf) #[] #[ptr b1]] w fun e w' => ∃ (va : Option Addr) (vc N : Nat) (X : Int → Int) (c : Option Blk), e = .returned (.slice va N vc) ∧ IRow (.slice va N vc) 3 N (fun i => iv (X i)) c ∧ KeysOf L N X ∧ Own B w0 w' (some (lch b1 mt [.map (some bm)]) :: some (mch bm L) :: c :: T) := by
 refine calls_of_run (F := [(0, _)]) Tryz.func86 rfl Tryz.ntmps86 rfl rfl <| run_seq <| run_region <| rl_v rfl rfl rfl (ov_assign rfl rfl) <| rl_nil <| run_seq <| run_region <| rl_v rfl rfl rfl (ov_move rfl rfl) ?_
 refine rl_call callable_129 rfl rfl rfl rfl rfl rfl (appendSeq_any gf mt hIt hcl B b1 bm w0 _ L T hnd hlen hO) (fun e1 w2 hp3 => ?_)
 obtain ⟨va, vc, N, X, c, rfl, hv, hKo, hO2⟩ := hp3
 refine ⟨_, rfl, ?_⟩
 refine rl_v rfl rfl rfl (ov_assign rfl rfl) <| rl_nil <| run_ret Tryz.func86 (res1 Tryz.results86 rfl) ?_
 exact ⟨va, vc, N, X, c, rfl, hv, hKo, hO2⟩
theorem sortedK_any (gf : FuncId) (mt : TypeId) (hIt : ItOk gf mt) (hcl : Callable Tryz.prog gf) (B b1 bm : Nat) (w0 w : World) (L : List (Int × Value)) (T : List (Option Blk)) (hnd : (L.map (·.1)).Nodup) (hlen : L.length ≤ 1000000) (hO : Own B w0 w (some (lch b1 mt [.map (some bm)]) :: some (mch bm L) :: T)) :
  Calls Tryz.prog 58 #[.func (.func gf) #[] #[ptr b1]] w fun e w' => ∃ (va : Option Addr) (vc N : Nat) (X : Int → Int) (c : Option Blk), e = .returned (.slice va N vc) ∧ IRow (.slice va N vc) 3 N (fun i => iv (X i)) c ∧ N = L.length ∧ Rise N X ∧ (∀ k : Int, (∃ j : Int, (0 ≤ j ∧ j < N) ∧ X j = k) ↔ k ∈ L.map (·.1)) ∧ Own B w0 w' (c :: some (lch b1 mt [.map (some bm)]) :: some (mch bm L) :: T) := by
 refine calls_of_run (F := [(0, _)]) Tryz.func58 rfl Tryz.ntmps58 rfl rfl <| run_seq <| run_region <| rl_v rfl rfl rfl (ov_assign rfl rfl) <| rl_nil <| run_seq <| run_region <| rl_v rfl rfl rfl (ov_move rfl rfl) ?_
 refine rl_call callable_86 rfl rfl rfl rfl rfl rfl (collect_any gf mt hIt hcl B b1 bm w0 _ L T hnd hlen hO) (fun e1 w2 hp3 => ?_)
 obtain ⟨va, vc, N, X, c, rfl, hv, hKo, hO2⟩ := hp3
 refine ⟨_, rfl, ?_⟩
 have hOs := hO2.perm (List.perm_middle (l₁ := [_, _]))
 have hNl := hKo.len
 refine rl_v rfl rfl rfl (ov_assign rfl rfl) <| rl_nil <| run_seq <| run_region <| rl_v rfl rfl rfl (ov_move rfl rfl) ?_
 refine rl_call callable_38 rfl rfl rfl rfl rfl rfl (sortR_any va vc N X c _ B w0 _ hv (by omega) hKo.inj hOs) (fun e4 w5 hp6 => ?_)
 obtain ⟨rfl, X2, c2, hv2, hri, hm2, hO3⟩ := hp6
 refine ⟨_, rfl, ?_⟩
 refine rl_nil <| run_seq <| run_region <| rl_v rfl rfl rfl (ov_move rfl rfl) <| rl_v rfl rfl rfl (ov_assign rfl rfl) <| rl_nil <| run_ret Tryz.func58 (res1 Tryz.results58 rfl) ?_
 exact ⟨va, vc, N, X2, c2, rfl, hv2, hNl, hri, fun k => (hm2 k).trans (hKo.mem k), hO3⟩
end Go.Proofs.YtbepolognfdkeaaGreat
