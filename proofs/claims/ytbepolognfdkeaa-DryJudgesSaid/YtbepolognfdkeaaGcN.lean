import Derived.Test.YtbepolognfdkeaaGbT
import Derived.Test.YtbepolognfdkeaaGaM
import Derived.Test.YtbepolognfdkeaaGcM
import Derived.Test.YtbepolognfdkeaaGbD
set_option maxRecDepth 100000
namespace Go.Proofs.Ytbepolognfdkeaa
open Go.RowKit Go.Proofs Go.MapKept Go.Shelf Go.Lib Go.Sort
def Try.sortHours_ren : Go.Shelf.Ren := ⟨fun | 6 => 49 | 15 => 69 | 14 => 68 | 28 => 91 | 29 => 92 | 20 => 83 | 21 => 84 | 22 => 85 | 23 => 86 | 24 => 87 | 25 => 88 | 26 => 89 | 27 => 90 | 46 => 117 | 47 => 118 | 48 => 119 | 49 => 120 | 50 => 121 | 57 => 132 | n => n, fun | 22 => 48 | 24 => 89 | 25 => 94 | 3 => 3 | 39 => 33 | 0 => 0 | 53 => 141 | 55 => 143 | 4 => 4 | 46 => 134 | 45 => 133 | 50 => 138 | 5 => 5 | 9 => 9 | 66 => 161 | 70 => 165 | 76 => 175 | 77 => 176 | n => n, fun | n => n⟩
theorem Try.sortHours : Go.Proofs.SlLaysF0.n6 Try.prog Try.sortHours_ren := {
  mixed := by kernel_rfl
  f6 := ⟨Try.f49.name, by decide, Try.func49.trans (congrArg some (by kernel_rfl))⟩
  f14 := ⟨Try.f68.name, by decide, Try.func68.trans (congrArg some (by kernel_rfl))⟩
  f15 := Try.func69.trans (congrArg some (by kernel_rfl))
  f20 := ⟨Try.f83.name, by decide, Try.func83.trans (congrArg some (by kernel_rfl))⟩
  f21 := ⟨Try.f84.name, by decide, Try.func84.trans (congrArg some (by kernel_rfl))⟩
  f22 := ⟨Try.f85.name, by decide, Try.func85.trans (congrArg some (by kernel_rfl))⟩
  f23 := ⟨Try.f86.name, by decide, Try.func86.trans (congrArg some (by kernel_rfl))⟩
  f24 := ⟨Try.f87.name, by decide, Try.func87.trans (congrArg some (by kernel_rfl))⟩
  f25 := ⟨Try.f88.name, by decide, Try.func88.trans (congrArg some (by kernel_rfl))⟩
  f26 := ⟨Try.f89.name, by decide, Try.func89.trans (congrArg some (by kernel_rfl))⟩
  f27 := ⟨Try.f90.name, by decide, Try.func90.trans (congrArg some (by kernel_rfl))⟩
  f28 := Try.func91.trans (congrArg some (by kernel_rfl))
  f29 := Try.func92.trans (congrArg some (by kernel_rfl))
  f46 := ⟨Try.f117.name, by decide, Try.func117.trans (congrArg some (by kernel_rfl))⟩
  f47 := Try.func118.trans (congrArg some (by kernel_rfl))
  f48 := Try.func119.trans (congrArg some (by kernel_rfl))
  f49 := ⟨Try.f120.name, by decide, Try.func120.trans (congrArg some (by kernel_rfl))⟩
  f50 := ⟨Try.f121.name, by decide, Try.func121.trans (congrArg some (by kernel_rfl))⟩
  f57 := ⟨Try.f132.name, by decide, Try.func132.trans (congrArg some (by kernel_rfl))⟩
  t0 := Try.underlying0
  a0 := Try.isAgg0
  z0 := Try.sizeOf0
  v0 := Try.zeroValue0
  t3 := Try.underlying3
  a3 := Try.isAgg3
  z3 := Try.sizeOf3
  v3 := Try.zeroValue3
  t4 := Try.underlying4
  a4 := Try.isAgg4
  z4 := Try.sizeOf4
  v4 := Try.zeroValue4
  t5 := Try.underlying5
  a5 := Try.isAgg5
  z5 := Try.sizeOf5
  v5 := Try.zeroValue5
  t9 := Try.underlying9
  a9 := Try.isAgg9
  z9 := Try.sizeOf9
  v9 := Try.zeroValue9
  t22 := Try.underlying48
  a22 := Try.isAgg48
  z22 := Try.sizeOf48
  v22 := Try.zeroValue48
  t25 := Try.underlying94
  a25 := Try.isAgg94
  z25 := Try.sizeOf94
  v25 := Try.zeroValue94
  t39 := Try.underlying33
  a39 := Try.isAgg33
  z39 := Try.sizeOf33
  v39 := Try.zeroValue33
  t45 := Try.underlying133
  a45 := Try.isAgg133
  z45 := Try.sizeOf133
  v45 := Try.zeroValue133
  t46 := Try.underlying134
  a46 := Try.isAgg134
  z46 := Try.sizeOf134
  v46 := Try.zeroValue134
  t50 := Try.underlying138
  a50 := Try.isAgg138
  z50 := Try.sizeOf138
  v50 := Try.zeroValue138
  t53 := Try.underlying141
  a53 := Try.isAgg141
  z53 := Try.sizeOf141
  v53 := Try.zeroValue141
  t55 := Try.underlying143
  a55 := Try.isAgg143
  z55 := Try.sizeOf143
  v55 := Try.zeroValue143
  t66 := Try.underlying161
  a66 := Try.isAgg161
  z66 := Try.sizeOf161
  v66 := Try.zeroValue161
  t70 := Try.underlying165
  a70 := Try.isAgg165
  z70 := Try.sizeOf165
  v70 := Try.zeroValue165
  t76 := Try.underlying175
  a76 := Try.isAgg175
  z76 := Try.sizeOf175
  v76 := Try.zeroValue175
  t77 := Try.underlying176
  a77 := Try.isAgg176
  z77 := Try.sizeOf176
  v77 := Try.zeroValue176 }
def Sm2 (t : Int × Int) : Prop := (0 ≤ t.1 ∧ t.1 ≤ 1000000000000) ∧ 0 ≤ t.2 ∧ t.2 ≤ 1000000000000
abbrev SHr := { t : Int × Int // Sm2 t }
instance : Inhabited SHr := ⟨⟨(0, 0), by unfold Sm2; decide⟩⟩
def cfH (x y : SHr) : Int := x.1.1 - y.1.1
def spV (t : Int × Int) : List Value := [iv t.1, iv t.2]
def spL (S : List (Int × Int)) : Int → List Value := fun j => spV (S.getD j.toNat (0, 0))
set_option maxHeartbeats 1000000 in
theorem cmpH (a b d e : Int) (ha : 0 ≤ a) (ha2 : a ≤ 1000000000000) (hd : 0 ≤ d) (hd2 : d ≤ 1000000000000) (W : World) : Calls Try.prog 50 #[.agg #[.int .i64 a, .int .i64 b], .agg #[.int .i64 d, .int .i64 e]] W fun r w' => r = .returned (.int .i64 (a - d)) ∧ ∃ q os', w' = grow (W.drewN q) os' := by
 go_enter Try.func50, Try.ntmps50
 go_wp2
 go_ret
 exact ⟨rfl, 0, _, by rw [alloc_eq_grow, alloc_eq_grow, grow_grow]; rfl⟩
theorem ltH (x y : SHr) : ltOf cfH x y = decide (x.1.1 < y.1.1) := by
 unfold ltOf cfH
 exact decide_eq_decide.2 (by omega)
theorem swoH : SWO (ltOf cfH) where
 irrefl x := by rw [ltH]; simp
 trans x y z h1 h2 := by rw [ltH] at *; simp only [decide_eq_true_eq] at *; omega
 ntrans x y z h1 h2 := by rw [ltH] at *; simp only [decide_eq_false_iff_not] at *; omega
theorem sortH_any (ta : Option Addr) (tc : Nat) (S : List (Int × Int)) (ct : Option Blk) (w w0 : World) (B : Nat) (H : List (Option Blk)) (hT : ∀ t ∈ S, Sm2 t) (hN : S.length ≤ 1000000) (hr : SRow (.slice ta S.length tc) 89 2 S.length (spL S) ct) (hO : Own B w0 w (ct :: H)) :
  Calls Try.prog 49 #[.slice ta S.length tc, .func (.func 50) #[] #[]] w fun e w' => e = .returned (.tuple #[]) ∧ ∃ (S' : List (Int × Int)) (ct' : Option Blk), S'.Perm S ∧ S'.Pairwise (fun a b => a.1 ≤ b.1) ∧
   SRow (.slice ta S.length tc) 89 2 S.length (spL S') ct' ∧ Own B w0 w' (ct' :: H) := by
 obtain ⟨D, hD⟩ : ∃ D : List SHr, D.map (·.1) = S := ⟨S.pmap Subtype.mk hT, by rw [List.map_pmap]; simp⟩
 have hl : D.length = S.length := by rw [← hD]; simp
 have eg : ∀ args w, (callFunc 50 args).run Try.prog w = .ok (.enter 50 args) w := enters_of Try.func50 (by kernel_rfl) rfl
 rw [← hl] at hr hN ⊢
 have h := sortFunc_own (enc := fun x : SHr => spV x.1) (s := 2) { Try.sortHours with } Try.isAgg89 Try.sizeOf89 (by decide) (fun _ => rfl) (fun x v hv => by
  simp only [spV, List.mem_cons, List.not_mem_nil, or_false] at hv
  rcases hv with rfl | rfl <;> rfl) cfH swoH 50 #[] eg (fun x y W => cmpH _ _ _ _ x.2.1.1 x.2.1.2 y.2.1.1 y.2.1.2 W) D (G := spL S) (fun j hj => by
  unfold spL
  rw [← hD, Int.toNat_natCast, List.getD_eq_getElem?_getD, List.getElem?_map, List.getElem?_eq_getElem hj]; rfl) hr (by omega) hO
 change Calls Try.prog 49 _ _ _ at h
 refine h.mono fun e w' ⟨he, D', c', hp, hs, hr', hO'⟩ => ⟨he, D'.map (·.1), c', by rw [← hD]; exact hp.map _, ?_, ?_, hO'⟩
 ·refine List.pairwise_map.2 (hs.imp fun {a b} hab => ?_)
  rw [ltH] at hab
  simp only [decide_eq_false_iff_not] at hab
  omega
 ·rw [hp.length_eq] at hr'
  refine hr'.congr fun i i0 i1 => ?_
  unfold spL
  have := hp.length_eq
  rw [List.getD_eq_getElem?_getD, List.getD_eq_getElem?_getD, List.getElem?_map, List.getElem?_eq_getElem (by omega)]
  rfl
theorem sorted7_any (bm : Nat) (B : Nat) (w0 w : World) (L : List (Int × Value)) (R : List (Option Blk)) (hnd : (L.map (·.1)).Nodup) (hlen : L.length ≤ 1000000) (hO : Own B w0 w (some (mch bm L) :: R)) :
  Calls Try.prog 51 #[.map (some bm)] w fun e w' => ∃ (va : Option Addr) (vc N : Nat) (X : Int → Int) (c : Option Blk), e = .returned (.slice va N vc) ∧ IRow (.slice va N vc) 3 N (fun i => iv (X i)) c ∧ N = L.length ∧ Rise N X ∧ (∀ k : Int, (∃ j : Int, (0 ≤ j ∧ j < N) ∧ X j = k) ↔ k ∈ L.map (·.1)) ∧ Own B w0 w' (c :: some (mch bm L) :: R) := by
 refine calls_of_run (F := [(0, _)]) Try.func51 rfl Try.ntmps51 rfl rfl <| run_seq <| run_region <| rl_v rfl rfl rfl (ov_assign rfl rfl) <| rl_nil <| run_seq <| run_region <| rl_v rfl rfl rfl (ov_assign rfl rfl) <| rl_nil <| run_seq <| run_seq <| run_region <| rl_v rfl rfl rfl (ov_move rfl rfl) <| rl_ow rfl (ow_rangeM rfl rfl rfl Try.underlying92 hO 0 rfl rfl) ?_
 rintro _ w1 ⟨r, rfl, hO2⟩
 refine rl_nil <| run_block <| Run.keep [3, 6] (F' := [(3, _), (6, _)]) rfl <| run_loop4 (fun (seen : Array Nat) (N : Nat) (X1 : Int → Int) (v : Value) => [(3, v)]) [6] (fun (seen : Array Nat) (N : Nat) (X1 : Int → Int) (v : Value) (w4 : World) => ∃ c : Option Blk, IRow v 3 N (fun j => iv (X1 j)) c ∧ KeysTo L seen N X1 ∧ Own B w0 w4 (some (itc r bm L.length seen) :: some (mch bm L) :: c :: R)) (fun (seen : Array Nat) (N : Nat) (X1 : Int → Int) (v : Value) => L.length - N) (#[]) (0) (fun _ => 0) (.slice none 0 0) ?_ (And.intro rfl (And.intro rfl trivial)) ?_
 ·exact ⟨none, IRow.nil _ _, KeysTo.nil L _, (hO2.nil_cons.perm (List.perm_middle (l₁ := [_, _])).symm)⟩
 intro seen N X1 v w4 hIw4 ih5
 obtain ⟨c, hr, hKT, hO1⟩ := hIw4
 show Run _ _ _ _ [(3, _), (6, _)] _ _
 refine run_seq <| run_region <| rl_ow rfl (ow_nextM rfl rfl rfl hO1 0 rfl 1 rfl rfl) ?_
 rintro _ w6 ⟨b, xs, seen2, rfl, hx0, hO7, hFn, hTn⟩
 refine rl_v rfl rfl rfl (ov_extract rfl rfl hx0) <| rl_nil <| run_seq ?_
 first | refine run_cond_dec rfl (fun c1 => ?_) (fun c1 => ?_) | refine run_cond rfl (fun c1 => ?_) (fun c1 => ?_)
 ·obtain ⟨i, k, u, hi, hns, rfl⟩ := hTn c1
  have hle := hKT.lt_len hi hns
  refine run_skip <| run_block <| run_seq <| run_region <| rl_v rfl rfl rfl (ov_entryM rfl hO7 0 rfl 1 rfl hi rfl) <| rl_v rfl rfl rfl (ov_extract rfl rfl (by rfl)) ?_
  refine rl_v rfl rfl rfl (ov_assign rfl rfl) <| rl_nil <| run_region <| rl_v rfl rfl rfl (ov_move rfl rfl) <| rl_v rfl rfl rfl (ov_move rfl rfl) <| rl_ow rfl (ow_one rfl rfl rfl Try.underlying47 info_3 rfl hO7 rfl rfl) ?_
  rintro _ w9 ⟨b13, rfl, hO10, hs11⟩
  refine rl_ow rfl (ow_app1 rfl rfl rfl Try.underlying47 info_3 rfl hO10 2 hr rfl rfl rfl rfl ⟨by omega, by omega⟩) ?_
  rintro _ w12 ⟨v14, c14, rfl, hO13, hr14, hs14⟩
  have hr15 : IRow v14 3 (N + 1) (fun j => iv (upd X1 N k j)) c14 := hr14.congr fun j _ _ => by
   unfold upd; split <;> rfl
  refine rl_v rfl rfl rfl (ov_assign rfl rfl) <| rl_nil <| run_inBlock ?_
  refine Run.use (ih5 (seen.push i) (N + 1) (upd X1 N k) (v14) _ ?_ ?_) (And.intro rfl (And.intro rfl trivial))
  ·first | omega | (dsimp only; omega)
  ·exact ⟨c14, hr15, hKT.step hi hns, hO13⟩
 ·have hb : b = false := by revert c1; cases b <;> simp
  have hKo := hKT.all hnd (hFn hb).1
  have hNl := hKo.len
  obtain ⟨va, vc, rfl⟩ := Row.val hr
  have hO2 := hO7.tail.perm (List.Perm.swap _ _ _)
  refine run_exit rfl <| run_seq <| run_region <| rl_v rfl rfl rfl (ov_move rfl rfl) ?_
  refine rl_call callable_65 rfl rfl rfl rfl rfl rfl (sortR_any va vc N X1 c _ B w0 _ hr (by omega) hKo.inj hO2) (fun e15 w16 hp17 => ?_)
  obtain ⟨rfl, X2, c2, hv2, hri, hm2, hO3⟩ := hp17
  refine ⟨_, rfl, ?_⟩
  refine rl_nil <| run_seq <| run_region <| rl_v rfl rfl rfl (ov_move rfl rfl) <| rl_v rfl rfl rfl (ov_assign rfl rfl) <| rl_nil <| run_ret Try.func51 (res1 Try.results51 rfl) ?_
  exact ⟨va, vc, N, X2, c2, rfl, hv2, hNl, hri, fun k => (hm2 k).trans (hKo.mem k), hO3⟩
end Go.Proofs.Ytbepolognfdkeaa
