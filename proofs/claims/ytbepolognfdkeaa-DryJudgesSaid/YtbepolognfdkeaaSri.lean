import Derived.Test.YtbepolognfdkeaaSrt
import Derived.Test.YtbepolognfdkeaaItk
import Derived.Shelf.SortM.Plain
import Derived.Shelf.SortM.SortNone
import Derived.Shelf.SlGeneric
import Derived.Shelf.Lay
import Derived.Ground.SlgmProg
set_option maxRecDepth 100000
namespace Go.Proofs.Ytbepolognfdkeaa
open Go.RowKit Go.Proofs Go.MapKept
def Try.sortInts_ren : Go.Shelf.Ren := ⟨fun | 5 => 65 | 8 => 69 | 7 => 80 | 19 => 91 | 20 => 92 | 10 => 107 | 11 => 108 | 12 => 109 | 13 => 110 | 14 => 111 | 15 => 112 | 16 => 113 | 17 => 114 | 18 => 115 | 30 => 128 | 31 => 118 | 32 => 119 | 33 => 129 | 34 => 130 | 35 => 131 | 40 => 135 | n => n, fun | 23 => 47 | 25 => 3 | 3 => 3 | 32 => 33 | 22 => 47 | 0 => 0 | 44 => 141 | 46 => 143 | 4 => 4 | 36 => 134 | 35 => 133 | 41 => 138 | 5 => 5 | 9 => 9 | 53 => 161 | 57 => 165 | 63 => 175 | 64 => 176 | n => n, fun | n => n⟩
theorem Try.sortInts : Go.Proofs.SlLaysM.n5 Try.prog Try.sortInts_ren := {
  mixed := by kernel_rfl
  f5 := ⟨Try.f65.name, by decide, Try.func65.trans (congrArg some (by kernel_rfl))⟩
  f7 := ⟨Try.f80.name, by decide, Try.func80.trans (congrArg some (by kernel_rfl))⟩
  f8 := Try.func69.trans (congrArg some (by kernel_rfl))
  f10 := ⟨Try.f107.name, by decide, Try.func107.trans (congrArg some (by kernel_rfl))⟩
  f11 := ⟨Try.f108.name, by decide, Try.func108.trans (congrArg some (by kernel_rfl))⟩
  f12 := ⟨Try.f109.name, by decide, Try.func109.trans (congrArg some (by kernel_rfl))⟩
  f13 := ⟨Try.f110.name, by decide, Try.func110.trans (congrArg some (by kernel_rfl))⟩
  f14 := ⟨Try.f111.name, by decide, Try.func111.trans (congrArg some (by kernel_rfl))⟩
  f15 := ⟨Try.f112.name, by decide, Try.func112.trans (congrArg some (by kernel_rfl))⟩
  f16 := ⟨Try.f113.name, by decide, Try.func113.trans (congrArg some (by kernel_rfl))⟩
  f17 := ⟨Try.f114.name, by decide, Try.func114.trans (congrArg some (by kernel_rfl))⟩
  f18 := ⟨Try.f115.name, by decide, Try.func115.trans (congrArg some (by kernel_rfl))⟩
  f19 := Try.func91.trans (congrArg some (by kernel_rfl))
  f20 := Try.func92.trans (congrArg some (by kernel_rfl))
  f30 := ⟨Try.f128.name, by decide, Try.func128.trans (congrArg some (by kernel_rfl))⟩
  f31 := Try.func118.trans (congrArg some (by kernel_rfl))
  f32 := Try.func119.trans (congrArg some (by kernel_rfl))
  f33 := ⟨Try.f129.name, by decide, Try.func129.trans (congrArg some (by kernel_rfl))⟩
  f34 := ⟨Try.f130.name, by decide, Try.func130.trans (congrArg some (by kernel_rfl))⟩
  f35 := ⟨Try.f131.name, by decide, Try.func131.trans (congrArg some (by kernel_rfl))⟩
  f40 := ⟨Try.f135.name, by decide, Try.func135.trans (congrArg some (by kernel_rfl))⟩
  t0 := Try.underlying0
  a0 := Try.isAgg0
  z0 := Try.sizeOf0
  v0 := Try.zeroValue0
  t3 := Try.underlying3
  a3 := Try.isAgg3
  z3 := Try.sizeOf3
  v3 := Try.zeroValue3
  t4 := Try.underlying4
  a4 := Try.isAgg4
  z4 := Try.sizeOf4
  v4 := Try.zeroValue4
  t5 := Try.underlying5
  a5 := Try.isAgg5
  z5 := Try.sizeOf5
  v5 := Try.zeroValue5
  t9 := Try.underlying9
  a9 := Try.isAgg9
  z9 := Try.sizeOf9
  v9 := Try.zeroValue9
  t22 := Try.underlying47
  a22 := Try.isAgg47
  z22 := Try.sizeOf47
  v22 := Try.zeroValue47
  t23 := Try.underlying47
  a23 := Try.isAgg47
  z23 := Try.sizeOf47
  v23 := Try.zeroValue47
  t25 := Try.underlying3
  a25 := Try.isAgg3
  z25 := Try.sizeOf3
  v25 := Try.zeroValue3
  t32 := Try.underlying33
  a32 := Try.isAgg33
  z32 := Try.sizeOf33
  v32 := Try.zeroValue33
  t35 := Try.underlying133
  a35 := Try.isAgg133
  z35 := Try.sizeOf133
  v35 := Try.zeroValue133
  t36 := Try.underlying134
  a36 := Try.isAgg134
  z36 := Try.sizeOf134
  v36 := Try.zeroValue134
  t41 := Try.underlying138
  a41 := Try.isAgg138
  z41 := Try.sizeOf138
  v41 := Try.zeroValue138
  t44 := Try.underlying141
  a44 := Try.isAgg141
  z44 := Try.sizeOf141
  v44 := Try.zeroValue141
  t46 := Try.underlying143
  a46 := Try.isAgg143
  z46 := Try.sizeOf143
  v46 := Try.zeroValue143
  t53 := Try.underlying161
  a53 := Try.isAgg161
  z53 := Try.sizeOf161
  v53 := Try.zeroValue161
  t57 := Try.underlying165
  a57 := Try.isAgg165
  z57 := Try.sizeOf165
  v57 := Try.zeroValue165
  t63 := Try.underlying175
  a63 := Try.isAgg175
  z63 := Try.sizeOf175
  v63 := Try.zeroValue175
  t64 := Try.underlying176
  a64 := Try.isAgg176
  z64 := Try.sizeOf176
  v64 := Try.zeroValue176 }
theorem sortI_any (ob N cap : Nat) (X : Int → Int) (G : Int → Value) (w : World) (B : Nat) (w0 : World) (H : List (Option Blk)) (hN : 1 ≤ N) (hc : N ≤ cap) (hN2 : N ≤ 1000000) (hG : ∀ i : Int, 0 ≤ i → i < N → G i = iv (X i)) (hO : Own B w0 w (some (vch ob 3 cap G) :: H)) :
  Calls Try.prog 65 #[.slice (some ⟨ob, 0, none⟩) N cap] w fun e w' => e = .returned (.tuple #[]) ∧ ∃ zs : List Int, zs.Perm ((List.range N).map fun j : Nat => X (j : Int)) ∧ zs.Pairwise (· ≤ ·) ∧ Own B w0 w' (some (vch ob 3 cap (fun i => if i < N then iv (zs.getD i.toNat 0) else G i)) :: H) := by
 obtain ⟨ys, hys⟩ : ∃ ys : List Int, ys = (List.range N).map fun j : Nat => X (j : Int) := ⟨_, rfl⟩
 have hyl : ys.length = N := by rw [hys]; simp
 have hyj : ∀ (j : Nat), j < N → ys.toArray[j]! = X (j : Int) := fun j hj => by
  rw [getElem!_pos ys.toArray j (by simp; omega)]
  subst hys
  simp
 have h := AnyM.slices_Sort_int { Try.sortInts with } ob 0 cap ys w (fun j hj => by
  have hj' : j < N := by have : j < ys.toArray.size := hj; simp at this; omega
  refine ⟨?_, by rw [Nat.zero_add]; exact (hO.get 0 rfl).frozen j⟩
  have := hO.cellI 0 rfl (j : Int) (by omega) (by omega)
  rw [Int.toNat_natCast] at this
  rw [this, hG j (by omega) (by omega), hyj j hj']) (hO.lt 0 rfl) (by omega)
 change Calls Try.prog 65 _ _ _ at h
 rw [hyl] at h
 refine h.mono fun e w' ⟨he, n, os, hw⟩ => ⟨he, ys.mergeSort fun x y => decide (x ≤ y), ?_, ?_, ?_⟩
 ·rw [← hys]; exact List.mergeSort_perm _ _
 ·refine (List.pairwise_mergeSort (le := fun x y : Int => decide (x ≤ y)) (fun a b c h1 h2 => ?_) (fun a b => ?_) ys).imp fun h => of_decide_eq_true h
  ·have := of_decide_eq_true h1; have := of_decide_eq_true h2; exact decide_eq_true (by omega)
  ·by_cases c : a ≤ b
   ·simp [c]
   ·simp; omega
 ·have hl : (ys.mergeSort fun x y => decide (x ≤ y)).length = N := by rw [List.length_mergeSort, hyl]
  have hs := hO.sorted (enc := Value.int .i64) n (ys.mergeSort fun x y => decide (x ≤ y)).toArray os (by simp [hyl] : (ys.mergeSort fun x y => decide (x ≤ y)).toArray.size = N) hc
  rw [hw]
  have e : (fun i : Int => if i < (N : Int) then Value.int .i64 ((ys.mergeSort fun x y => decide (x ≤ y)).toArray[i.toNat]!) else G i) = fun i : Int => if i < (N : Int) then iv ((ys.mergeSort fun x y => decide (x ≤ y)).getD i.toNat 0) else G i := by
   funext i
   by_cases c : i < N
   ·rw [if_pos c, if_pos c, getElem!_pos _ i.toNat (by simp [hyl]; omega), List.getD_eq_getElem?_getD, List.getElem?_eq_getElem (by rw [hl]; omega)]
    rfl
   ·rw [if_neg c, if_neg c]
  rw [e] at hs
  exact hs
structure Rise (N : Nat) (X : Int → Int) : Prop where
 inc : ∀ a b : Int, 0 ≤ a → a < b → b < N → X a < X b
theorem rise_of {N : Nat} {X : Int → Int} {zs : List Int} (hi : ∀ a b : Int, 0 ≤ a → a < N → 0 ≤ b → b < N → X a = X b → a = b) (hp : zs.Perm ((List.range N).map fun j : Nat => X (j : Int))) (hs : zs.Pairwise (· ≤ ·)) :
  Rise N (fun i => zs.getD i.toNat 0) ∧ ∀ k : Int, (∃ j : Int, (0 ≤ j ∧ j < N) ∧ zs.getD j.toNat 0 = k) ↔ ∃ j : Int, (0 ≤ j ∧ j < N) ∧ X j = k := by
 have hl : zs.length = N := by rw [hp.length_eq]; simp
 have hnd : ((List.range N).map fun j : Nat => X (j : Int)).Nodup := by
  refine List.pairwise_map.2 (List.nodup_range.imp_of_mem fun {a b} ha hb hne e => hne ?_)
  have ha := List.mem_range.1 ha
  have hb := List.mem_range.1 hb
  have := hi a b (by omega) (by omega) (by omega) (by omega) e
  omega
 have hz : zs.Nodup := hp.nodup_iff.2 hnd
 have hget : ∀ i : Nat, ∀ h : i < N, zs.getD i 0 = zs[i]'(by omega) := fun i h => by rw [List.getD_eq_getElem?_getD, List.getElem?_eq_getElem (by omega)]; rfl
 refine ⟨⟨fun a b a0 ab b1 => ?_⟩, fun k => ⟨fun ⟨j, ⟨j0, j1⟩, e⟩ => ?_, fun ⟨j, ⟨j0, j1⟩, e⟩ => ?_⟩⟩
 ·show zs.getD a.toNat 0 < zs.getD b.toNat 0
  rw [hget a.toNat (by omega), hget b.toNat (by omega)]
  have h1 := List.pairwise_iff_getElem.1 hs a.toNat b.toNat (by omega) (by omega) (by omega)
  have h2 : zs[a.toNat]'(by omega) ≠ zs[b.toNat]'(by omega) := fun e => by have := nodup_injM hz (by omega) (by omega) e; omega
  omega
 ·have hm : k ∈ zs := by rw [← e, hget j.toNat (by omega)]; exact List.getElem_mem _
  obtain ⟨i, hi2, e2⟩ := List.mem_map.1 (hp.mem_iff.1 hm)
  exact ⟨i, ⟨by omega, by have := List.mem_range.1 hi2; omega⟩, e2⟩
 ·have hm : k ∈ zs := hp.mem_iff.2 (List.mem_map.2 ⟨j.toNat, List.mem_range.2 (by omega), by rw [show ((j.toNat : Nat) : Int) = j by omega]; exact e⟩)
  obtain ⟨i, hi2, e2⟩ := List.mem_iff_getElem.1 hm
  exact ⟨i, ⟨by omega, by omega⟩, by rw [Int.toNat_natCast, hget i (by omega)]; exact e2⟩
theorem sortR_any (va : Option Addr) (vc N : Nat) (X : Int → Int) (c : Option Blk) (w : World) (B : Nat) (w0 : World) (H : List (Option Blk)) (hv : IRow (.slice va N vc) 3 N (fun i => iv (X i)) c) (hN2 : N ≤ 1000000) (hi : ∀ a b : Int, 0 ≤ a → a < N → 0 ≤ b → b < N → X a = X b → a = b) (hO : Own B w0 w (c :: H)) :
  Calls Try.prog 65 #[.slice va N vc] w fun e w' => e = .returned (.tuple #[]) ∧ ∃ (X' : Int → Int) (c' : Option Blk), IRow (.slice va N vc) 3 N (fun i => iv (X' i)) c' ∧ Rise N X' ∧ (∀ k : Int, (∃ j : Int, (0 ≤ j ∧ j < N) ∧ X' j = k) ↔ ∃ j : Int, (0 ≤ j ∧ j < N) ∧ X j = k) ∧ Own B w0 w' (c' :: H) := by
 by_cases h0 : N = 0
 ·subst h0
  have h := AnyM.slices_Sort_int_none { Try.sortInts with } va vc w
  change Calls Try.prog 65 _ _ _ at h
  exact h.mono fun e w' ⟨h1, h2⟩ => ⟨h1, X, c, hv, ⟨fun a b a0 ab b1 => by omega⟩, fun k => Iff.rfl, by rw [h2]; exact hO⟩
 ·obtain ⟨ob, G, rfl, hnc, hmx, rfl, hG⟩ := hv.asV (by omega)
  refine (sortI_any ob N vc X G w B w0 H (by omega) hnc hN2 hG hO).mono fun e w' ⟨he, zs, hp, hs, hO2⟩ => ⟨he, fun i => zs.getD i.toNat 0, _, IRow.ofV hnc hmx fun i i0 i1 => if_pos i1, (rise_of hi hp hs).1, (rise_of hi hp hs).2, hO2⟩
def KApp (b2 D l : Nat) (r : Loop) : KpI := fun N X KL => ∃ (va : Option Addr) (vc : Nat) (c : Option Blk), IRow (.slice va N vc) 3 N (fun i => iv (X i)) c ∧ KL = [some (och l (.loop r)), some (och D (.deferred (some []))), some (lch b2 47 [.slice va N vc]), c]
theorem run_rangeApp {f N : Nat} {k : List Item} {F : Fr} {w w0 : World} {R : Ending → World → Prop} {id gf B b2 : Nat} {g : Operand} {ps : Array Tmp} {assign body : Code} {cap : Array Value} (hcl : Callable Try.prog gf) (hg : Fr.ev F g = some (.func (.func gf) #[] cap))
  (hy : ∀ fn a, Holds N F a → YieldInt (w.heap.size + 1) B w0 (KApp b2 w.heap.size (w.heap.size + 1) (lrec fn a.tmps ps assign body w.heap.size)))
  (h : ∀ fn a, Holds N F a → YieldInt (w.heap.size + 1) B w0 (KApp b2 w.heap.size (w.heap.size + 1) (lrec fn a.tmps ps assign body w.heap.size)) → Calls Try.prog gf (#[.func (.yield (w.heap.size + 1)) #[] #[]] ++ cap) ((w.alloc (.deferred (some []))).alloc (.loop (lrec fn a.tmps ps assign body w.heap.size))) fun e w3 =>
   ∃ (v : Value) (r : Loop), e = .returned v ∧ w3.heap[w.heap.size + 1]? = some (.loop r) ∧ r.state ≠ .busy ∧ (r.pending = none ∨ r.pending = some (.exit id)) ∧
    RM Try.prog f N [{ target := .collected w.heap.size, args := #[] }] k F (w3.putObj (w.heap.size + 1) (.loop { r with state := .exhausted })) R) :
  Run Try.prog f N (.code (.block id (.rangeFunc g ps assign body)) :: k) F w R := run_rangeFunc hcl hg fun fn a ha => h fn a ha (hy fn a ha)
theorem perm_app1 {α : Type} {b c r a : α} {l D : α} {T : List α} : (c :: l :: D :: b :: a :: r :: T).Perm (a :: r :: ([l, D, b, c] ++ T)) := by
 classical
 rw [List.perm_iff_count]
 intro z
 simp only [List.count_append, List.count_cons, List.count_nil]
 omega
theorem appendSeq_any (gf : FuncId) (mt : TypeId) (hIt : ItOk gf mt) (hcl : Callable Try.prog gf) (B b1 bm : Nat) (w0 w : World) (L : List (Int × Value)) (T : List (Option Blk)) (hnd : (L.map (·.1)).Nodup) (hlen : L.length ≤ 1000000) (hO : Own B w0 w (some (lch b1 mt [.map (some bm)]) :: some (mch bm L) :: T)) :
  Calls Try.prog 116 #[.slice none 0 0, .func (.func gf) #[] #[ptr b1]] w fun e w' => ∃ (va : Option Addr) (vc N : Nat) (X : Int → Int) (c : Option Blk), e = .returned (.slice va N vc) ∧ IRow (.slice va N vc) 3 N (fun i => iv (X i)) c ∧ KeysOf L N X ∧ Own B w0 w' (some (lch b1 mt [.map (some bm)]) :: some (mch bm L) :: c :: T) := by
 refine calls_of_run (F := [(0, _), (1, _)]) Try.func116 rfl Try.ntmps116 rfl rfl <| run_seq <| run_region <| rl_ow rfl (ow_box _ rfl rfl rfl rfl rfl hO) ?_
 rintro _ w1 ⟨b2, rfl, hO2, hs3⟩
 refine rl_v rfl rfl rfl (ov_assign rfl rfl) <| rl_nil <| run_seq <| run_seq <| run_region <| rl_v rfl rfl rfl (ov_move rfl rfl) <| rl_nil ?_
 have hOb := hO2
 refine run_rangeApp (B := B) (w0 := w0) (b2 := b2) hcl rfl (fun fn a ha => ?_) (fun fn a ha hY => ?_)
 ·intro N X KL T wy x hK hN hOy
  obtain ⟨va, vc, c, hv, rfl⟩ := hK
  refine yieldAt_round (hOy.atO 0 rfl) rfl ha.size (fun i u hu => ha.at_ i u hu) rfl (ci_region (li_v rfl (fun _ h => by cases h) rfl rfl (ov_assign rfl rfl) (li_nil (round_body (beginK hOy 0 rfl rfl fun w2 hO2 => ?_)))))
  refine ci_block (ci_region (li_v rfl (fun _ h => by cases h) rfl rfl (ov_load rfl Try.underlying47 rfl rfl (hO2.cellL 2 rfl (off := 0) rfl)) (li_v rfl (fun _ h => by cases h) rfl rfl (ov_move rfl rfl) (li_ow rfl (fun _ h => by cases h) (ow_one rfl rfl rfl Try.underlying47 info_3 rfl hO2 rfl rfl) ?_))))
  rintro _ w3 ⟨bx, rfl, hO3, _⟩
  refine li_ow rfl (fun _ h => by cases h) (ow_app1 rfl rfl rfl Try.underlying47 info_3 rfl hO3 3 hv rfl rfl rfl rfl ⟨by omega, by omega⟩) ?_
  rintro _ w4 ⟨v7, c7, rfl, hO4, hv7, _⟩
  obtain ⟨a7, cp7, rfl⟩ := Row.val hv7
  refine li_ow rfl (fun _ h => by cases h) (ow_storeL rfl rfl (by kernel_rfl) hO4 2 rfl rfl rfl rfl rfl) ?_
  rintro _ w5 ⟨rfl, hO5, _⟩
  refine li_nil fun a4 ha4 => inBlock_normal (endK hO5 0 rfl fun w6 hO6 => ?_)
  exact ⟨_, rfl, rfl, _, ⟨a7, cp7, c7, hv7.congr fun i _ _ => by unfold upd; split <;> rfl, rfl⟩, hO6⟩
 ·have e1 : (w1.alloc (.deferred (some []))).heap.size = w1.heap.size + 1 := by simp
  have hOl := fun r : Loop => ((hOb.allocO (.deferred (some []))).allocO (.loop r)).nil_cons
  rw [e1] at hOl
  refine (hIt (w1.heap.size + 1) B b1 bm w0 _ L _ (fun _ => 0) _ T hnd hlen hY ⟨none, 0, none, IRow.nil _ _, rfl⟩ ((hOl _).perm perm_app1)).mono fun e w3 ⟨he, N, X, KL', hK, hKo, hO3⟩ => ?_
  obtain ⟨va, vc, c, hv, rfl⟩ := hK
  refine ⟨_, _, he, hO3.atO 2 rfl, (fun h => by cases h), .inl rfl, ?_⟩
  have hO4 := fun r : Loop => hO3.putO 2 rfl (.loop r)
  refine rm_seq (rm_region (rml_v rfl rfl rfl (ov_load rfl Try.underlying47 rfl rfl ((hO4 _).cellL 4 rfl (off := 0) rfl)) (rml_v rfl rfl rfl (ov_assign rfl rfl) (rml_nil (rm_ret Try.func116 ((hO4 _).atO 3 rfl) (res1 Try.results116 rfl) ?_)))))
  have hO5 := fun r : Loop => ((hO4 r).putO 3 rfl (.deferred none)).sub (.cons_cons _ (.cons_cons _ (.cons _ (.cons _ (.cons _ (.refl _))))))
  exact ⟨va, vc, N, X, c, rfl, hv, hKo, hO5 _⟩
theorem collect_any (gf : FuncId) (mt : TypeId) (hIt : ItOk gf mt) (hcl : Callable Try.prog gf) (B b1 bm : Nat) (w0 w : World) (L : List (Int × Value)) (T : List (Option Blk)) (hnd : (L.map (·.1)).Nodup) (hlen : L.length ≤ 1000000) (hO : Own B w0 w (some (lch b1 mt [.map (some bm)]) :: some (mch bm L) :: T)) :
  Calls Try.prog 81 #[.func (.func gf) #[] #[ptr b1]] w fun e w' => ∃ (va : Option Addr) (vc N : Nat) (X : Int → Int) (c : Option Blk), e = .returned (.slice va N vc) ∧ IRow (.slice va N vc) 3 N (fun i => iv (X i)) c ∧ KeysOf L N X ∧ Own B w0 w' (some (lch b1 mt [.map (some bm)]) :: some (mch bm L) :: c :: T) := by
 refine calls_of_run (F := [(0, _)]) Try.func81 rfl Try.ntmps81 rfl rfl <| run_seq <| run_region <| rl_v rfl rfl rfl (ov_assign rfl rfl) <| rl_nil <| run_seq <| run_region <| rl_v rfl rfl rfl (ov_move rfl rfl) ?_
 refine rl_call callable_116 rfl rfl rfl rfl rfl rfl (appendSeq_any gf mt hIt hcl B b1 bm w0 _ L T hnd hlen hO) (fun e1 w2 hp3 => ?_)
 obtain ⟨va, vc, N, X, c, rfl, hv, hKo, hO2⟩ := hp3
 refine ⟨_, rfl, ?_⟩
 refine rl_v rfl rfl rfl (ov_assign rfl rfl) <| rl_nil <| run_ret Try.func81 (res1 Try.results81 rfl) ?_
 exact ⟨va, vc, N, X, c, rfl, hv, hKo, hO2⟩
theorem sortedK_any (gf : FuncId) (mt : TypeId) (hIt : ItOk gf mt) (hcl : Callable Try.prog gf) (B b1 bm : Nat) (w0 w : World) (L : List (Int × Value)) (T : List (Option Blk)) (hnd : (L.map (·.1)).Nodup) (hlen : L.length ≤ 1000000) (hO : Own B w0 w (some (lch b1 mt [.map (some bm)]) :: some (mch bm L) :: T)) :
  Calls Try.prog 66 #[.func (.func gf) #[] #[ptr b1]] w fun e w' => ∃ (va : Option Addr) (vc N : Nat) (X : Int → Int) (c : Option Blk), e = .returned (.slice va N vc) ∧ IRow (.slice va N vc) 3 N (fun i => iv (X i)) c ∧ N = L.length ∧ Rise N X ∧ (∀ k : Int, (∃ j : Int, (0 ≤ j ∧ j < N) ∧ X j = k) ↔ k ∈ L.map (·.1)) ∧ Own B w0 w' (c :: some (lch b1 mt [.map (some bm)]) :: some (mch bm L) :: T) := by
 refine calls_of_run (F := [(0, _)]) Try.func66 rfl Try.ntmps66 rfl rfl <| run_seq <| run_region <| rl_v rfl rfl rfl (ov_assign rfl rfl) <| rl_nil <| run_seq <| run_region <| rl_v rfl rfl rfl (ov_move rfl rfl) ?_
 refine rl_call callable_81 rfl rfl rfl rfl rfl rfl (collect_any gf mt hIt hcl B b1 bm w0 _ L T hnd hlen hO) (fun e1 w2 hp3 => ?_)
 obtain ⟨va, vc, N, X, c, rfl, hv, hKo, hO2⟩ := hp3
 refine ⟨_, rfl, ?_⟩
 have hOs := hO2.perm (List.perm_middle (l₁ := [_, _]))
 have hNl := hKo.len
 refine rl_v rfl rfl rfl (ov_assign rfl rfl) <| rl_nil <| run_seq <| run_region <| rl_v rfl rfl rfl (ov_move rfl rfl) ?_
 refine rl_call callable_65 rfl rfl rfl rfl rfl rfl (sortR_any va vc N X c _ B w0 _ hv (by omega) hKo.inj hOs) (fun e4 w5 hp6 => ?_)
 obtain ⟨rfl, X2, c2, hv2, hri, hm2, hO3⟩ := hp6
 refine ⟨_, rfl, ?_⟩
 refine rl_nil <| run_seq <| run_region <| rl_v rfl rfl rfl (ov_move rfl rfl) <| rl_v rfl rfl rfl (ov_assign rfl rfl) <| rl_nil <| run_ret Try.func66 (res1 Try.results66 rfl) ?_
 exact ⟨va, vc, N, X2, c2, rfl, hv2, hNl, hri, fun k => (hm2 k).trans (hKo.mem k), hO3⟩
end Go.Proofs.Ytbepolognfdkeaa
