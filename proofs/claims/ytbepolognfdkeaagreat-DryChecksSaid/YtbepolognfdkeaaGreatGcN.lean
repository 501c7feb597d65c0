import Derived.Test.YtbepolognfdkeaaGreatGbT
import Derived.Test.YtbepolognfdkeaaGreatGaN
import Derived.Test.YtbepolognfdkeaaGreatGcM
import Derived.Test.YtbepolognfdkeaaGreatGbD
set_option maxRecDepth 100000
namespace Go.Proofs.YtbepolognfdkeaaGreat
open Go.RowKit Go.Proofs Go.MapKept Go.Shelf Go.Lib Go.Sort
def Tryz.sortHours_ren : Go.Shelf.Ren := ⟨fun | 6 => 39 | 15 => 61 | 14 => 68 | 28 => 96 | 29 => 97 | 20 => 111 | 21 => 112 | 22 => 113 | 23 => 114 | 24 => 115 | 25 => 116 | 26 => 117 | 27 => 118 | 46 => 142 | 47 => 131 | 48 => 132 | 49 => 143 | 50 => 144 | 57 => 153 | n => n, fun | 22 => 37 | 24 => 79 | 25 => 90 | 3 => 3 | 39 => 56 | 0 => 0 | 53 => 151 | 55 => 153 | 4 => 4 | 46 => 144 | 45 => 143 | 50 => 148 | 5 => 5 | 9 => 9 | 66 => 187 | 70 => 191 | 76 => 205 | 77 => 206 | n => n, fun | n => n⟩
theorem Tryz.sortHours : Go.Proofs.SlLaysF0.n6 Tryz.prog Tryz.sortHours_ren := {
  mixed := by kernel_rfl
  f6 := ⟨Tryz.f39.name, by decide, Tryz.func39.trans (congrArg some (by kernel_rfl))⟩
  f14 := ⟨Tryz.f68.name, by decide, Tryz.func68.trans (congrArg some (by kernel_rfl))⟩
  f15 := Tryz.func61.trans (congrArg some (by kernel_rfl))
  f20 := ⟨Tryz.f111.name, by decide, Tryz.func111.trans (congrArg some (by kernel_rfl))⟩
  f21 := ⟨Tryz.f112.name, by decide, Tryz.func112.trans (congrArg some (by kernel_rfl))⟩
  f22 := ⟨Tryz.f113.name, by decide, Tryz.func113.trans (congrArg some (by kernel_rfl))⟩
  f23 := ⟨Tryz.f114.name, by decide, Tryz.func114.trans (congrArg some (by kernel_rfl))⟩
  f24 := ⟨Tryz.f115.name, by decide, Tryz.func115.trans (congrArg some (by kernel_rfl))⟩
  f25 := ⟨Tryz.f116.name, by decide, Tryz.func116.trans (congrArg some (by kernel_rfl))⟩
  f26 := ⟨Tryz.f117.name, by decide, Tryz.func117.trans (congrArg some (by kernel_rfl))⟩
  f27 := ⟨Tryz.f118.name, by decide, Tryz.func118.trans (congrArg some (by kernel_rfl))⟩
  f28 := Tryz.func96.trans (congrArg some (by kernel_rfl))
  f29 := Tryz.func97.trans (congrArg some (by kernel_rfl))
  f46 := ⟨Tryz.f142.name, by decide, Tryz.func142.trans (congrArg some (by kernel_rfl))⟩
  f47 := Tryz.func131.trans (congrArg some (by kernel_rfl))
  f48 := Tryz.func132.trans (congrArg some (by kernel_rfl))
  f49 := ⟨Tryz.f143.name, by decide, Tryz.func143.trans (congrArg some (by kernel_rfl))⟩
  f50 := ⟨Tryz.f144.name, by decide, Tryz.func144.trans (congrArg some (by kernel_rfl))⟩
  f57 := ⟨Tryz.f153.name, by decide, Tryz.func153.trans (congrArg some (by kernel_rfl))⟩
  t0 := Tryz.underlying0
  a0 := Tryz.isAgg0
  z0 := Tryz.sizeOf0
  v0 := Tryz.zeroValue0
  t3 := Tryz.underlying3
  a3 := Tryz.isAgg3
  z3 := Tryz.sizeOf3
  v3 := Tryz.zeroValue3
  t4 := Tryz.underlying4
  a4 := Tryz.isAgg4
  z4 := Tryz.sizeOf4
  v4 := Tryz.zeroValue4
  t5 := Tryz.underlying5
  a5 := Tryz.isAgg5
  z5 := Tryz.sizeOf5
  v5 := Tryz.zeroValue5
  t9 := Tryz.underlying9
  a9 := Tryz.isAgg9
  z9 := Tryz.sizeOf9
  v9 := Tryz.zeroValue9
  t22 := Tryz.underlying37
  a22 := Tryz.isAgg37
  z22 := Tryz.sizeOf37
  v22 := Tryz.zeroValue37
  t25 := Tryz.underlying90
  a25 := Tryz.isAgg90
  z25 := Tryz.sizeOf90
  v25 := Tryz.zeroValue90
  t39 := Tryz.underlying56
  a39 := Tryz.isAgg56
  z39 := Tryz.sizeOf56
  v39 := Tryz.zeroValue56
  t45 := Tryz.underlying143
  a45 := Tryz.isAgg143
  z45 := Tryz.sizeOf143
  v45 := Tryz.zeroValue143
  t46 := Tryz.underlying144
  a46 := Tryz.isAgg144
  z46 := Tryz.sizeOf144
  v46 := Tryz.zeroValue144
  t50 := Tryz.underlying148
  a50 := Tryz.isAgg148
  z50 := Tryz.sizeOf148
  v50 := Tryz.zeroValue148
  t53 := Tryz.underlying151
  a53 := Tryz.isAgg151
  z53 := Tryz.sizeOf151
  v53 := Tryz.zeroValue151
  t55 := Tryz.underlying153
  a55 := Tryz.isAgg153
  z55 := Tryz.sizeOf153
  v55 := Tryz.zeroValue153
  t66 := Tryz.underlying187
  a66 := Tryz.isAgg187
  z66 := Tryz.sizeOf187
  v66 := Tryz.zeroValue187
  t70 := Tryz.underlying191
  a70 := Tryz.isAgg191
  z70 := Tryz.sizeOf191
  v70 := Tryz.zeroValue191
  t76 := Tryz.underlying205
  a76 := Tryz.isAgg205
  z76 := Tryz.sizeOf205
  v76 := Tryz.zeroValue205
  t77 := Tryz.underlying206
  a77 := Tryz.isAgg206
  z77 := Tryz.sizeOf206
  v77 := Tryz.zeroValue206 }
def Sm2 (t : Int × Int) : Prop := (0 ≤ t.1 ∧ t.1 ≤ 1000000000000) ∧ 0 ≤ t.2 ∧ t.2 ≤ 1000000000000
abbrev SHr := { t : Int × Int // Sm2 t }
instance : Inhabited SHr := ⟨⟨(0, 0), by unfold Sm2; decide⟩⟩
def cfH (x y : SHr) : Int := x.1.1 - y.1.1
def spV (t : Int × Int) : List Value := [iv t.1, iv t.2]
def spL (S : List (Int × Int)) : Int → List Value := fun j => spV (S.getD j.toNat (0, 0))
set_option maxHeartbeats 1000000 in
theorem cmpH (a b d e : Int) (ha : 0 ≤ a) (ha2 : a ≤ 1000000000000) (hd : 0 ≤ d) (hd2 : d ≤ 1000000000000) (W : World) : Calls Tryz.prog 40 #[.agg #[.int .i64 a, .int .i64 b], .agg #[.int .i64 d, .int .i64 e]] W fun r w' => r = .returned (.int .i64 (a - d)) ∧ ∃ q os', w' = grow (W.drewN q) os' := by
 go_enter Tryz.func40, Tryz.ntmps40
 go_wp2
 go_ret
 exact ⟨rfl, 0, _, by rw [alloc_eq_grow, alloc_eq_grow, grow_grow]; rfl⟩
theorem ltH (x y : SHr) : ltOf cfH x y = decide (x.1.1 < y.1.1) := by
 unfold ltOf cfH
 exact decide_eq_decide.2 (by omega)
theorem swoH : SWO (ltOf cfH) where
 irrefl x := by rw [ltH]; simp
 trans x y z h1 h2 := by rw [ltH] at *; simp only [decide_eq_true_eq] at *; omega
 ntrans x y z h1 h2 := by rw [ltH] at *; simp only [decide_eq_false_iff_not] at *; omega
theorem sortH_any (ta : Option Addr) (tc : Nat) (S : List (Int × Int)) (ct : Option Blk) (w w0 : World) (B : Nat) (H : List (Option Blk)) (hT : ∀ t ∈ S, Sm2 t) (hN : S.length ≤ 1000000) (hr : SRow (.slice ta S.length tc) 79 2 S.length (spL S) ct) (hO : Own B w0 w (ct :: H)) :
  Calls Tryz.prog 39 #[.slice ta S.length tc, .func (.func 40) #[] #[]] w fun e w' => e = .returned (.tuple #[]) ∧ ∃ (S' : List (Int × Int)) (ct' : Option Blk), S'.Perm S ∧ S'.Pairwise (fun a b => a.1 ≤ b.1) ∧
   SRow (.slice ta S.length tc) 79 2 S.length (spL S') ct' ∧ Own B w0 w' (ct' :: H) := by
 obtain ⟨D, hD⟩ : ∃ D : List SHr, D.map (·.1) = S := ⟨S.pmap Subtype.mk hT, by rw [List.map_pmap]; simp⟩
 have hl : D.length = S.length := by rw [← hD]; simp
 have eg : ∀ args w, (callFunc 40 args).run Tryz.prog w = .ok (.enter 40 args) w := enters_of Tryz.func40 (by kernel_rfl) rfl
 rw [← hl] at hr hN ⊢
 have h := sortFunc_own (enc := fun x : SHr => spV x.1) (s := 2) { Tryz.sortHours with } Tryz.isAgg79 Tryz.sizeOf79 (by decide) (fun _ => rfl) (fun x v hv => by
  simp only [spV, List.mem_cons, List.not_mem_nil, or_false] at hv
  rcases hv with rfl | rfl <;> rfl) cfH swoH 40 #[] eg (fun x y W => cmpH _ _ _ _ x.2.1.1 x.2.1.2 y.2.1.1 y.2.1.2 W) D (G := spL S) (fun j hj => by
  unfold spL
  rw [← hD, Int.toNat_natCast, List.getD_eq_getElem?_getD, List.getElem?_map, List.getElem?_eq_getElem hj]; rfl) hr (by omega) hO
 change Calls Tryz.prog 39 _ _ _ at h
 refine h.mono fun e w' ⟨he, D', c', hp, hs, hr', hO'⟩ => ⟨he, D'.map (·.1), c', by rw [← hD]; exact hp.map _, ?_, ?_, hO'⟩
 ·refine List.pairwise_map.2 (hs.imp fun {a b} hab => ?_)
  rw [ltH] at hab
  simp only [decide_eq_false_iff_not] at hab
  omega
 ·rw [hp.length_eq] at hr'
  refine hr'.congr fun i i0 i1 => ?_
  unfold spL
  have := hp.length_eq
  rw [List.getD_eq_getElem?_getD, List.getD_eq_getElem?_getD, List.getElem?_map, List.getElem?_eq_getElem (by omega)]
  rfl
theorem sorted7_any (bm : Nat) (B : Nat) (w0 w : World) (L : List (Int × Value)) (R : List (Option Blk)) (hnd : (L.map (·.1)).Nodup) (hlen : L.length ≤ 1000000) (hO : Own B w0 w (some (mch bm L) :: R)) :
  Calls Tryz.prog 41 #[.map (some bm)] w fun e w' => ∃ (va : Option Addr) (vc N : Nat) (X : Int → Int) (c : Option Blk), e = .returned (.slice va N vc) ∧ IRow (.slice va N vc) 3 N (fun i => iv (X i)) c ∧ N = L.length ∧ Rise N X ∧ (∀ k : Int, (∃ j : Int, (0 ≤ j ∧ j < N) ∧ X j = k) ↔ k ∈ L.map (·.1)) ∧ Own B w0 w' (c :: some (mch bm L) :: R) := by
 refine calls_of_run (F := [(0, _)]) Tryz.func41 rfl Tryz.ntmps41 rfl rfl <| run_seq <| run_region <| rl_v rfl rfl rfl (ov_assign rfl rfl) <| rl_nil <| run_seq <| run_region <| rl_v rfl rfl rfl (ov_assign rfl rfl) <| rl_nil <| run_seq <| run_seq <| run_region <| rl_v rfl rfl rfl (ov_move rfl rfl) <| rl_ow rfl (ow_rangeM rfl rfl rfl Tryz.underlying88 hO 0 rfl rfl) ?_
 rintro _ w1 ⟨r, rfl, hO2⟩
 refine rl_nil <| run_block <| Run.keep [3, 6] (F' := [(3, _), (6, _)]) rfl <| run_loop4 (fun (seen : Array Nat) (N : Nat) (X1 : Int → Int) (v : Value) => [(3, v)]) [6] (fun (seen : Array Nat) (N : Nat) (X1 : Int → Int) (v : Value) (w4 : World) => ∃ c : Option Blk, IRow v 3 N (fun j => iv (X1 j)) c ∧ KeysTo L seen N X1 ∧ Own B w0 w4 (some (itc r bm L.length seen) :: some (mch bm L) :: c :: R)) (fun (seen : Array Nat) (N : Nat) (X1 : Int → Int) (v : Value) => L.length - N) (#[]) (0) (fun _ => 0) (.slice none 0 0) ?_ (And.intro rfl (And.intro rfl trivial)) ?_
 ·exact ⟨none, IRow.nil _ _, KeysTo.nil L _, (hO2.nil_cons.perm (List.perm_middle (l₁ := [_, _])).symm)⟩
 intro seen N X1 v w4 hIw4 ih5
 obtain ⟨c, hr, hKT, hO1⟩ := hIw4
 show Run _ _ _ _ [(3, _), (6, _)] _ _
 refine run_seq <| run_region <| rl_ow rfl (ow_nextM rfl rfl rfl hO1 0 rfl 1 rfl rfl) ?_
 rintro _ w6 ⟨b, xs, seen2, rfl, hx0, hO7, hFn, hTn⟩
 refine rl_v rfl rfl rfl (ov_extract rfl rfl hx0) <| rl_nil <| run_seq ?_
 first | refine run_cond_dec rfl (fun c1 => ?_) (fun c1 => ?_) | refine run_cond rfl (fun c1 => ?_) (fun c1 => ?_)
 ·obtain ⟨i, k, u, hi, hns, rfl⟩ := hTn c1
  have hle := hKT.lt_len hi hns
  refine run_skip <| run_block <| run_seq <| run_region <| rl_v rfl rfl rfl (ov_entryM rfl hO7 0 rfl 1 rfl hi rfl) <| rl_v rfl rfl rfl (ov_extract rfl rfl (by rfl)) ?_
  refine rl_v rfl rfl rfl (ov_assign rfl rfl) <| rl_nil <| run_region <| rl_v rfl rfl rfl (ov_move rfl rfl) <| rl_v rfl rfl rfl (ov_move rfl rfl) <| rl_ow rfl (ow_one rfl rfl rfl Tryz.underlying36 info_3 rfl hO7 rfl rfl) ?_
  rintro _ w9 ⟨b13, rfl, hO10, hs11⟩
  refine rl_ow rfl (ow_app1 rfl rfl rfl Tryz.underlying36 info_3 rfl hO10 2 hr rfl rfl rfl rfl ⟨by omega, by omega⟩) ?_
  rintro _ w12 ⟨v14, c14, rfl, hO13, hr14, hs14⟩
  have hr15 : IRow v14 3 (N + 1) (fun j => iv (upd X1 N k j)) c14 := hr14.congr fun j _ _ => by
   unfold upd; split <;> rfl
  refine rl_v rfl rfl rfl (ov_assign rfl rfl) <| rl_nil <| run_inBlock ?_
  refine Run.use (ih5 (seen.push i) (N + 1) (upd X1 N k) (v14) _ ?_ ?_) (And.intro rfl (And.intro rfl trivial))
  ·first | omega | (dsimp only; omega)
  ·exact ⟨c14, hr15, hKT.step hi hns, hO13⟩
 ·have hb : b = false := by revert c1; cases b <;> simp
  have hKo := hKT.all hnd (hFn hb).1
  have hNl := hKo.len
  obtain ⟨va, vc, rfl⟩ := Row.val hr
  have hO2 := hO7.tail.perm (List.Perm.swap _ _ _)
  refine run_exit rfl <| run_seq <| run_region <| rl_v rfl rfl rfl (ov_move rfl rfl) ?_
  refine rl_call callable_38 rfl rfl rfl rfl rfl rfl (sortR_any va vc N X1 c _ B w0 _ hr (by omega) hKo.inj hO2) (fun e15 w16 hp17 => ?_)
  obtain ⟨rfl, X2, c2, hv2, hri, hm2, hO3⟩ := hp17
  refine ⟨_, rfl, ?_⟩
  refine rl_nil <| run_seq <| run_region <| rl_v rfl rfl rfl (ov_move rfl rfl) <| rl_v rfl rfl rfl (ov_assign rfl rfl) <| rl_nil <| run_ret Tryz.func41 (res1 Tryz.results41 rfl) ?_
  exact ⟨va, vc, N, X2, c2, rfl, hv2, hNl, hri, fun k => (hm2 k).trans (hKo.mem k), hO3⟩
end Go.Proofs.YtbepolognfdkeaaGreat
