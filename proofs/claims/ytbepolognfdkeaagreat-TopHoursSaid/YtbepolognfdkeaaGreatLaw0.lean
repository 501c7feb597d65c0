import Derived.Test.YtbepolognfdkeaaGreatFcF
import Derived.Test.YtbepolognfdkeaaGreatRgf
import Derived.Shelf.SlSortCmp.NoneTotal
import Derived.Shelf.Lay
import Derived.Ground.SlsfProg
import Derived.Test.YtbepolognfdkeaaGreatTab
import Derived.Test.YtbepolognfdkeaaGreatBits0
set_option maxRecDepth 100000
namespace Go.Proofs.YtbepolognfdkeaaGreat
open Go.RowKit Go.Proofs Go.MapKept
theorem first_any (ba bb na ca nb cb : Nat) (u v : Int) (W : World) (hu : W.cell? ⟨ba, 0, none⟩ = some (iv u)) (hv : W.cell? ⟨bb, 0, none⟩ = some (iv v)) (ha : 1 ≤ na) (hb : 1 ≤ nb) (hu1 : 0 ≤ u ∧ u ≤ 1000) (hv1 : 0 ≤ v ∧ v ≤ 1000) :
  Calls Tryz.prog 125 #[.slice (some ⟨ba, 0, none⟩) na ca, .slice (some ⟨bb, 0, none⟩) nb cb] W fun e w' => e = .returned (iv (u - v)) ∧ ∃ q, w' = W.drewN q := by
 obtain ⟨w, hw⟩ : ∃ w, w = W := ⟨_, rfl⟩
 rw [← hw] at hu hv ⊢
 refine calls_of_run (F := [(0, _), (1, _)]) Tryz.func125 rfl Tryz.ntmps125 rfl rfl ?_
 have hO0 := Own.init w
 refine run_seq <| run_region <| rl_v rfl rfl rfl (ov_assign rfl rfl) <| rl_nil <| run_seq <| run_class (fun w' => ∃ q, w' = w.drewN q) (⟨1, rfl⟩) mixed (by kernel_rfl) ?_
 refine rk_v rfl rfl rfl (fun wq hQ => ov_move rfl rfl) ?_
 refine rk_v rfl rfl rfl (fun wq hQ => ov_index1 rfl Tryz.underlying36 (by kernel_rfl) rfl rfl ⟨by omega, by omega⟩ rfl) ?_
 refine rk_v rfl rfl rfl (fun wq hQ => ov_load rfl Tryz.underlying3 rfl rfl (by exact (by obtain ⟨q, e⟩ := hQ; rw [e]; exact hu))) ?_
 refine rk_v rfl rfl rfl (fun wq hQ => ov_move rfl rfl) ?_
 refine rk_v rfl rfl rfl (fun wq hQ => ov_index1 rfl Tryz.underlying36 (by kernel_rfl) rfl rfl ⟨by omega, by omega⟩ rfl) ?_
 refine rk_v rfl rfl rfl (fun wq hQ => ov_load rfl Tryz.underlying3 rfl rfl (by exact (by obtain ⟨q, e⟩ := hQ; rw [e]; exact hv))) ?_
 refine rk_v rfl rfl rfl (fun wq hQ => ov_sub rfl rfl rfl (by omega)) ?_
 refine rk_v rfl rfl rfl (fun wq hQ => ov_assign rfl rfl) ?_
 refine rk_nil (fun w1 hQ => ?_)
 refine run_ret Tryz.func125 (res1 Tryz.results125 rfl) ?_
 exact ⟨rfl, hQ⟩
def Tryz.sortRows_ren : Go.Shelf.Ren := ⟨fun | 6 => 124 | 15 => 61 | 14 => 148 | 28 => 96 | 29 => 97 | 20 => 155 | 21 => 156 | 22 => 157 | 23 => 158 | 24 => 159 | 25 => 160 | 26 => 161 | 27 => 162 | 46 => 163 | 47 => 131 | 48 => 132 | 49 => 164 | 50 => 165 | 57 => 166 | n => n, fun | 22 => 69 | 24 => 36 | 25 => 175 | 3 => 3 | 39 => 56 | 0 => 0 | 53 => 151 | 55 => 153 | 4 => 4 | 46 => 144 | 45 => 143 | 50 => 148 | 5 => 5 | 9 => 9 | 66 => 187 | 70 => 191 | 76 => 205 | 77 => 206 | n => n, fun | n => n⟩
theorem Tryz.sortRows : Go.Proofs.SlLaysF.n6 Tryz.prog Tryz.sortRows_ren := {
  mixed := by kernel_rfl
  f6 := ⟨Tryz.f124.name, by decide, Tryz.func124.trans (congrArg some (by kernel_rfl))⟩
  f14 := ⟨Tryz.f148.name, by decide, Tryz.func148.trans (congrArg some (by kernel_rfl))⟩
  f15 := Tryz.func61.trans (congrArg some (by kernel_rfl))
  f20 := ⟨Tryz.f155.name, by decide, Tryz.func155.trans (congrArg some (by kernel_rfl))⟩
  f21 := ⟨Tryz.f156.name, by decide, Tryz.func156.trans (congrArg some (by kernel_rfl))⟩
  f22 := ⟨Tryz.f157.name, by decide, Tryz.func157.trans (congrArg some (by kernel_rfl))⟩
  f23 := ⟨Tryz.f158.name, by decide, Tryz.func158.trans (congrArg some (by kernel_rfl))⟩
  f24 := ⟨Tryz.f159.name, by decide, Tryz.func159.trans (congrArg some (by kernel_rfl))⟩
  f25 := ⟨Tryz.f160.name, by decide, Tryz.func160.trans (congrArg some (by kernel_rfl))⟩
  f26 := ⟨Tryz.f161.name, by decide, Tryz.func161.trans (congrArg some (by kernel_rfl))⟩
  f27 := ⟨Tryz.f162.name, by decide, Tryz.func162.trans (congrArg some (by kernel_rfl))⟩
  f28 := Tryz.func96.trans (congrArg some (by kernel_rfl))
  f29 := Tryz.func97.trans (congrArg some (by kernel_rfl))
  f46 := ⟨Tryz.f163.name, by decide, Tryz.func163.trans (congrArg some (by kernel_rfl))⟩
  f47 := Tryz.func131.trans (congrArg some (by kernel_rfl))
  f48 := Tryz.func132.trans (congrArg some (by kernel_rfl))
  f49 := ⟨Tryz.f164.name, by decide, Tryz.func164.trans (congrArg some (by kernel_rfl))⟩
  f50 := ⟨Tryz.f165.name, by decide, Tryz.func165.trans (congrArg some (by kernel_rfl))⟩
  f57 := ⟨Tryz.f166.name, by decide, Tryz.func166.trans (congrArg some (by kernel_rfl))⟩
  t0 := Tryz.underlying0
  a0 := Tryz.isAgg0
  z0 := Tryz.sizeOf0
  v0 := Tryz.zeroValue0
  t3 := Tryz.underlying3
  a3 := Tryz.isAgg3
  z3 := Tryz.sizeOf3
  v3 := Tryz.zeroValue3
  t4 := Tryz.underlying4
  a4 := Tryz.isAgg4
  z4 := Tryz.sizeOf4
  v4 := Tryz.zeroValue4
  t5 := Tryz.underlying5
  a5 := Tryz.isAgg5
  z5 := Tryz.sizeOf5
  v5 := Tryz.zeroValue5
  t9 := Tryz.underlying9
  a9 := Tryz.isAgg9
  z9 := Tryz.sizeOf9
  v9 := Tryz.zeroValue9
  t22 := Tryz.underlying69
  a22 := Tryz.isAgg69
  z22 := Tryz.sizeOf69
  v22 := Tryz.zeroValue69
  a24 := Tryz.isAgg36
  z24 := Tryz.sizeOf36
  t25 := Tryz.underlying175
  a25 := Tryz.isAgg175
  z25 := Tryz.sizeOf175
  v25 := Tryz.zeroValue175
  t39 := Tryz.underlying56
  a39 := Tryz.isAgg56
  z39 := Tryz.sizeOf56
  v39 := Tryz.zeroValue56
  t45 := Tryz.underlying143
  a45 := Tryz.isAgg143
  z45 := Tryz.sizeOf143
  v45 := Tryz.zeroValue143
  t46 := Tryz.underlying144
  a46 := Tryz.isAgg144
  z46 := Tryz.sizeOf144
  v46 := Tryz.zeroValue144
  t50 := Tryz.underlying148
  a50 := Tryz.isAgg148
  z50 := Tryz.sizeOf148
  v50 := Tryz.zeroValue148
  t53 := Tryz.underlying151
  a53 := Tryz.isAgg151
  z53 := Tryz.sizeOf151
  v53 := Tryz.zeroValue151
  t55 := Tryz.underlying153
  a55 := Tryz.isAgg153
  z55 := Tryz.sizeOf153
  v55 := Tryz.zeroValue153
  t66 := Tryz.underlying187
  a66 := Tryz.isAgg187
  z66 := Tryz.sizeOf187
  v66 := Tryz.zeroValue187
  t70 := Tryz.underlying191
  a70 := Tryz.isAgg191
  z70 := Tryz.sizeOf191
  v70 := Tryz.zeroValue191
  t76 := Tryz.underlying205
  a76 := Tryz.isAgg205
  z76 := Tryz.sizeOf205
  v76 := Tryz.zeroValue205
  t77 := Tryz.underlying206
  a77 := Tryz.isAgg206
  z77 := Tryz.sizeOf206
  v77 := Tryz.zeroValue206 }
def cfR (R : Int → Int → Int) {nr : Nat} (x y : Fin nr) : Int := R (x.val : Int) 0 - R (y.val : Int) 0
theorem swoR (R : Int → Int → Int) (nr : Nat) : Sort.SWO (ltOf (cfR R (nr := nr))) where
 irrefl x := by unfold ltOf cfR; exact decide_eq_false (by omega)
 trans x y z h1 h2 := by
  unfold ltOf cfR at *
  have h1 := of_decide_eq_true h1
  have h2 := of_decide_eq_true h2
  exact decide_eq_true (by omega)
 ntrans x y z h1 h2 := by
  unfold ltOf cfR at *
  have h1 := of_decide_eq_false h1
  have h2 := of_decide_eq_false h2
  exact decide_eq_false (by omega)
theorem sortRows_all : SortRows := by
 intro B w0 w oa nr ocap Lr R rv ch co T hn hk hd hro hch hO
 by_cases h0 : nr = 0
 ·subst h0
  have h := AnyF.slices_SortFunc_none { Tryz.sortRows with } oa ocap (.func (.func 125) #[] #[]) w
  change Calls Tryz.prog 124 _ _ _ at h
  exact h.mono fun e w' ⟨h1, h2⟩ => ⟨h1, fun r => r, co, fun r r0 r1 => by omega, fun r s r0 r1 => by omega, fun r r0 r1 => by omega, hro, by rw [h2]; exact hO⟩
 ·obtain ⟨ob, G, rfl, hnc, hmx, rfl, hG⟩ := hro.asV (by omega)
  haveI : Inhabited (Fin nr) := ⟨⟨0, by omega⟩⟩
  obtain ⟨d, hd0⟩ : ∃ d : Array (Fin nr), d = Array.ofFn fun i => i := ⟨_, rfl⟩
  have hds : d.size = nr := by rw [hd0]; simp
  have hdi : ∀ (j : Nat) (hj : j < nr), d[j]! = ⟨j, hj⟩ := fun j hj => by
   rw [getElem!_pos d j (by omega)]
   subst hd0
   simp
  have hrow : ∀ x : Fin nr, ∃ b cp, rv (x.val : Int) = .slice (some ⟨b, 0, none⟩) (Lr (x.val : Int)) cp ∧ w.cell? ⟨b, 0, none⟩ = some (iv (R (x.val : Int) 0)) ∧ b ≠ ob ∧ b < w.heap.size := fun x => by
   obtain ⟨x, hx⟩ := x
   have h := hch x hx
   have hl := (hk x (by omega) (by omega)).1
   obtain ⟨a, cp, e⟩ := Row.val h
   have hkx : (some (vch ob 36 ocap G) :: ((List.range nr).map ch ++ T))[x + 1]? = some (ch x) := by simp [List.getElem?_append, hx]
   rw [e] at h
   obtain ⟨b, G', rfl, h1, h2, h3, h4⟩ := h.asV hl
   rw [h3] at hkx
   refine ⟨b, cp, e, ?_, fun eb => ?_, hO.lt (x + 1) hkx⟩
   ·have := hO.cellI (x + 1) hkx 0 (by omega) (by omega)
    rw [h4 0 (by omega) (by omega)] at this
    exact this
   ·have hp := (List.pairwise_cons.1 hO.nd).1 _ (List.mem_of_getElem? (by simpa using hkx) : some (vch b 3 cp G') ∈ (List.range nr).map ch ++ T)
    exact hp _ _ rfl rfl eb.symm
  have hcmp : CmpReads Tryz.prog 125 #[] (fun x : Fin nr => rv (x.val : Int)) (cfR R) ob 0 d.size w := fun m os dk _ x y => by
   obtain ⟨b, cp, e1, e2, e3, e4⟩ := hrow x
   obtain ⟨b', cp', e1', e2', e3', e4'⟩ := hrow y
   have kx := hk (x.val : Int) (by omega) (by omega)
   have ky := hk (y.val : Int) (by omega) (by omega)
   have h := first_any b b' (Lr (x.val : Int)) cp (Lr (y.val : Int)) cp' (R (x.val : Int) 0) (R (y.val : Int) 0) (sortWorld (fun x : Fin nr => rv (x.val : Int)) w ob 0 m dk os) (by rw [← e2]; simp only [World.cell?, heap_sort _ w ob m dk os e4 e3]) (by rw [← e2']; simp only [World.cell?, heap_sort _ w ob m dk os e4' e3']) kx.1 ky.1 kx.2 ky.2
   rw [Array.append_empty]
   show Calls _ _ #[rv (x.val : Int), rv (y.val : Int)] _ _
   rw [e1, e1']
   exact h
  have h1 : OneCell (fun x : Fin nr => rv (x.val : Int)) := fun x => by
   obtain ⟨b, cp, e, _⟩ := hrow x
   show (rv (x.val : Int)).oneCell' = true
   rw [e]; rfl
  have eg : ∀ args w, (callFunc 125 args).run Tryz.prog w = .ok (.enter 125 args) w := enters_of Tryz.func125 (by kernel_rfl) rfl
  have hlt := hO.lt 0 rfl
  have hH : Sort.Holds (fun x : Fin nr => rv (x.val : Int)) w ob 0 d := fun j hj => by
   refine ⟨?_, (hO.get 0 rfl).frozen _⟩
   have hj' : j < nr := by omega
   have := hO.cellI 0 rfl (j : Int) (by omega) (by omega)
   rw [hG _ (by omega) (by omega)] at this
   rw [hdi j hj']
   exact this
  have h := Any.slices_SortFunc Tryz.sortRows (fun x : Fin nr => rv (x.val : Int)) h1 (cfR R) (swoR R nr) 125 #[] ob 0 ocap d w eg hcmp.lays hH hlt (by omega)
  change Calls Tryz.prog 124 _ _ _ at h
  rw [hds] at h
  refine h.mono fun e w' ⟨he, d', n, os, hp, hs, hw⟩ => ?_
  have hds' : d'.size = nr := by rw [hp.1, hds]
  have hnd : d.toList.Nodup := by
   rw [List.nodup_iff_pairwise_ne, List.pairwise_iff_getElem]
   intro i j hi hj hij e
   have hi' : i < nr := by simpa [hds] using hi
   have hj' : j < nr := by simpa [hds] using hj
   have a1 := hdi i hi'
   have a2 := hdi j hj'
   rw [getElem!_pos d i (by omega)] at a1
   rw [getElem!_pos d j (by omega)] at a2
   simp only [Array.getElem_toList] at e
   rw [a1, a2] at e
   have := congrArg Fin.val e
   simp at this
   omega
  have hnd' : d'.toList.Nodup := by
   have hpp := hp.2.2
   rw [Array.extract_eq_self_of_le (by omega), Array.extract_eq_self_of_le (by omega)] at hpp
   exact (hpp.nodup_iff).2 hnd
  have hinj : ∀ r s : Int, 0 ≤ r → r < nr → 0 ≤ s → s < nr → ((d'[r.toNat]!).val : Int) = (d'[s.toNat]!).val → r = s := fun r s r0 r1 s0 s1 e => by
   have e' : d'[r.toNat]! = d'[s.toNat]! := Fin.ext (by omega)
   rw [getElem!_pos d' _ (by omega), getElem!_pos d' _ (by omega)] at e'
   have hpw := hnd'
   rw [List.nodup_iff_pairwise_ne, List.pairwise_iff_getElem] at hpw
   have key : ∀ a b : Nat, (ha : a < nr) → (hb : b < nr) → a < b → d'[a]'(by omega) ≠ d'[b]'(by omega) := fun a b ha hb hab => by
    have := hpw a b (by simpa [hds'] using ha) (by simpa [hds'] using hb) hab
    simpa only [Array.getElem_toList] using this
   by_cases c : r < s
   ·exact absurd e' (key r.toNat s.toNat (by omega) (by omega) (by omega))
   ·by_cases c2 : s < r
    ·exact absurd e'.symm (key s.toNat r.toNat (by omega) (by omega) (by omega))
    ·omega
  refine ⟨he, fun r => ((d'[r.toNat]!).val : Int), _, fun r r0 r1 => (show 0 ≤ ((d'[r.toNat]!).val : Int) ∧ ((d'[r.toNat]!).val : Int) < nr from ⟨by omega, by have := (d'[r.toNat]!).2; omega⟩), hinj, fun r r0 r1 => ?_, IRow.ofV hnc hmx fun i i0 i1 => ?_, by rw [hw]; exact hO.sorted n d' os hds' hnc⟩
  ·have hso := hs r.toNat (r + 1).toNat (Nat.zero_le _) (by omega) (by omega)
   unfold ltOf cfR at hso
   have hso := of_decide_eq_false hso
   have hne : R ((d'[r.toNat]!).val : Int) 0 ≠ R ((d'[(r + 1).toNat]!).val : Int) 0 := fun e => by
    have q1 := (d'[r.toNat]!).2
    have q2 := (d'[(r + 1).toNat]!).2
    have := hinj r (r + 1) r0 (by omega) (by omega) (by omega) (hd _ _ (by omega) (by omega) (by omega) (by omega) e)
    omega
   show R ((d'[r.toNat]!).val : Int) 0 < R ((d'[(r + 1).toNat]!).val : Int) 0
   omega
  ·show (if i < (nr : Int) then rv ((d'[i.toNat]!).val : Int) else G i) = rv ((d'[i.toNat]!).val : Int)
   rw [if_pos i1]
end Go.Proofs.YtbepolognfdkeaaGreat
set_option maxRecDepth 100000
namespace Go.Proofs.YtbepolognfdkeaaGreat
open Go.RowKit Go.Proofs Go.MapKept
noncomputable def chkS (n : Nat) (L : Int → Nat) (E : Int → Int → Int) : Int :=
 open Classical in
 if 64 < n then 2 else if ¬ SwapOk n L E then 50 else 0
theorem chkS_0 {n : Nat} {L : Int → Nat} {E : Int → Int → Int} : chkS n L E = 0 ↔ n ≤ 64 ∧ SwapOk n L E := by
 unfold chkS
 by_cases h : 64 < n
 ·rw [if_pos h]; exact ⟨fun e => absurd e (by decide), fun h2 => by omega⟩
 ·rw [if_neg h]
  by_cases h2 : SwapOk n L E
  ·rw [if_neg (fun e => e h2)]; exact ⟨fun _ => ⟨by omega, h2⟩, fun _ => rfl⟩
  ·rw [if_pos h2]; exact ⟨fun e => absurd e (by decide), fun h3 => absurd h3.2 h2⟩
theorem checkSwap_any (ga : Option Addr) (n gc : Nat) (L : Int → Nat) (E : Int → Int → Int) (w : World) (hn : n ≤ 1000000) (hL : ∀ r : Int, 0 ≤ r → r < n → L r ≤ 1000000) (h : ITab w.heap.size w ga n L (fun r c => iv (E r c))) :
  Calls Tryz.prog 70 #[.agg #[.slice ga n gc]] w fun e w' => e = .returned (iv (chkS n L E)) ∧ Below w.heap.size w w' := by
 refine calls_of_run (F := [(0, _)]) Tryz.func70 rfl Tryz.ntmps70 rfl rfl ?_
 have hO0 := Own.init w
 refine run_seq <| run_region <| rl_ow rfl (ow_box _ rfl rfl rfl rfl rfl hO0) ?_
 rintro _ w1 ⟨b1, rfl, hO2, hs3⟩
 refine rl_v rfl rfl rfl (ov_assign rfl rfl) <| rl_nil <| run_seq <| run_seq <| run_region <| rl_v rfl rfl rfl (ov_fieldS rfl Tryz.underlying98 rfl (fo := 0) rfl (by kernel_rfl) rfl) ?_
 refine rl_v rfl rfl rfl (ov_load rfl Tryz.underlying69 rfl rfl (by exact hO2.cellL 0 rfl (off := 0) rfl)) ?_
 refine rl_v rfl rfl rfl (ov_len rfl Tryz.underlying69 rfl) <| rl_v rfl rfl rfl (ov_gtr rfl rfl rfl) <| rl_nil ?_
 first | refine run_cond_dec rfl (fun h1 => ?_) (fun h1 => ?_) | refine run_cond rfl (fun h1 => ?_) (fun h1 => ?_)
 ·refine run_seq <| run_region <| rl_v rfl rfl rfl (ov_assign rfl rfl) <| rl_nil <| run_ret Tryz.func70 (res1 Tryz.results70 rfl) ?_
  exact ⟨by unfold chkS; rw [if_pos (by omega)], hO2.tail.below⟩
 ·refine run_skip <| run_seq <| run_seq <| run_region <| rl_v rfl rfl rfl (ov_fieldS rfl Tryz.underlying98 rfl (fo := 0) rfl (by kernel_rfl) rfl) ?_
  refine rl_v rfl rfl rfl (ov_load rfl Tryz.underlying69 rfl rfl (by exact hO2.cellL 0 rfl (off := 0) rfl)) ?_
  refine rl_v rfl rfl rfl (ov_fieldS rfl Tryz.underlying98 rfl (fo := 0) rfl (by kernel_rfl) rfl) ?_
  refine rl_v rfl rfl rfl (ov_load rfl Tryz.underlying69 rfl rfl (by exact hO2.cellL 0 rfl (off := 0) rfl)) ?_
  refine rl_v rfl rfl rfl (ov_len rfl Tryz.underlying69 rfl) ?_
  refine rl_call callable_120 rfl rfl rfl rfl rfl rfl (areLists_any ga n gc n L E _ hn hL (by omega) ((h.below hO2.below).mono hO2.size)) (fun e4 w5 hp6 => ?_)
  obtain ⟨⟨b, rfl, hb⟩, hbl⟩ := hp6
  refine ⟨_, rfl, ?_⟩
  have hO7 := hO2.past hbl
  refine rl_v rfl rfl rfl (ov_not rfl rfl) <| rl_nil ?_
  first | refine run_cond_dec rfl (fun h2 => ?_) (fun h2 => ?_) | refine run_cond rfl (fun h2 => ?_) (fun h2 => ?_)
  ·have hng : ¬ SwapOk n L E := fun h => by rw [hb.2 h] at h2; exact Bool.noConfusion h2
   refine run_seq <| run_region <| rl_v rfl rfl rfl (ov_assign rfl rfl) <| rl_nil <| run_ret Tryz.func70 (res1 Tryz.results70 rfl) ?_
   exact ⟨by unfold chkS; rw [if_neg (by omega), if_pos hng], hO7.tail.below⟩
  ·have hL : SwapOk n L E := hb.1 (by cases b; exact Bool.noConfusion h2; rfl)
   refine run_skip <| run_seq <| run_region <| rl_v rfl rfl rfl (ov_assign rfl rfl) <| rl_nil <| run_ret Tryz.func70 (res1 Tryz.results70 rfl) ?_
   exact ⟨by unfold chkS; rw [if_neg (by omega), if_neg (fun e => e hL)], hO7.tail.below⟩
set_option maxHeartbeats 1000000 in
theorem core_any (hSort : SortRows) (ga : Option Addr) (n gc : Nat) (L : Int → Nat) (E : Int → Int → Int) (w : World) (hn : n ≤ 64) (hv : SwapOk n L E) (h : RTab w.heap.size w ga n L E) :
  Calls Tryz.prog 46 #[.agg #[.slice ga n gc]] w fun e w' => ∃ (ob : Nat) (o t : Int → Int), e = .returned (.tuple #[.slice (some ⟨ob, 0, none⟩) n n, iv 0]) ∧ Own w.heap.size w w' [some (vch ob 3 n (fun i => iv (o i)))] ∧ (wishOf n L E).Cert o t := by
 have hL : ∀ i : Int, 0 ≤ i → i < n → L i ≤ n := fun i i0 i1 => pigeon (hv i i0 i1).1 (hv i i0 i1).2
 refine calls_of_run (F := [(0, _)]) Tryz.func46 rfl Tryz.ntmps46 rfl rfl ?_
 have hO0 := Own.init w
 refine run_seq <| run_region <| rl_ow rfl (ow_box _ rfl rfl rfl rfl rfl hO0) ?_
 rintro _ w1 ⟨b1, rfl, hO2, hs3⟩
 refine rl_v rfl rfl rfl (ov_assign rfl rfl) <| rl_v rfl rfl rfl (ov_assign rfl rfl) <| rl_nil <| run_seq <| run_seq <| run_region <| rl_v rfl rfl rfl (ov_loadW rfl Tryz.underlying98 rfl (by kernel_rfl) rfl hO2 0 rfl) ?_
 refine rl_call callable_70 rfl rfl rfl rfl rfl rfl (checkSwap_any ga n gc L E _ (by omega) (fun r r0 r1 => by have := hL r r0 r1; omega) (hO2.rtab h).tab) (fun e4 w5 hp6 => ?_)
 obtain ⟨rfl, hbl⟩ := hp6
 refine ⟨_, rfl, ?_⟩
 have hO7 := hO2.past hbl
 have h0 := chkS_0.2 ⟨hn, hv⟩
 refine rl_v rfl rfl rfl (ov_assign rfl rfl) <| rl_nil <| run_seq <| run_region <| rl_v rfl rfl rfl (ov_move rfl rfl) <| rl_v rfl rfl rfl (ov_neq rfl rfl rfl) <| rl_nil ?_
 first | refine run_cond_dec rfl (fun h1 => ?_) (fun h1 => ?_) | refine run_cond rfl (fun h1 => ?_) (fun h1 => ?_)
 ·exfalso; exact h1 h0
 ·refine run_skip <| run_seq <| run_region <| rl_v rfl rfl rfl (ov_fieldS rfl Tryz.underlying98 rfl (fo := 0) rfl (by kernel_rfl) rfl) ?_
  refine rl_v rfl rfl rfl (ov_load rfl Tryz.underlying69 rfl rfl (by exact hO7.cellL 0 rfl (off := 0) rfl)) ?_
  refine rl_v rfl rfl rfl (ov_len rfl Tryz.underlying69 rfl) ?_
  refine rl_make (n) rfl rfl rfl rfl Tryz.underlying36 info_3 rfl hO7 rfl rfl (by rfl) (by rfl) ⟨by omega, by omega⟩ (fun ob w8 hO9 hs10 => ?_)
  refine rl_v rfl rfl rfl (ov_assign rfl rfl) <| rl_nil <| run_seq <| run_seq <| run_region <| rl_v rfl rfl rfl (ov_loadW rfl Tryz.underlying98 rfl (by kernel_rfl) rfl hO9 1 rfl) ?_
  refine rl_call callable_71 rfl rfl rfl rfl rfl rfl (rings_any hSort ga gc n L E _ hn hv (hO9.rtab h)) (fun e11 w12 hp13 => ?_)
  obtain ⟨oa, nr, ocap, Lr, R, o, t, H, rfl, hO1, hRW, hC, hRO, _⟩ := hp13
  refine ⟨_, rfl, ?_⟩
  have hO14 := hO9.join hO1
  have hnr : nr ≤ n := hRO.short
  have hrng : ∀ r k : Int, 0 ≤ r → r < nr → 0 ≤ k → k < Lr r → 0 ≤ R r k ∧ R r k < n := fun r k r0 r1 k0 k1 => (hRO.rng r k r0 r1 k0 k1).1
  have hlen : ∀ r : Int, 0 ≤ r → r < nr → Lr r ≤ n := fun r r0 r1 => pigeon (e := R r) (fun k k0 k1 => hrng r k r0 r1 k0 k1) fun a b a0 a1 b0 b1 e => (hRO.dis r a r b r0 r1 a0 a1 r0 r1 b0 b1 e).2
  obtain ⟨A, C, hroom, hrd⟩ := hRW
  have hO2 := hO14.perm (List.perm_append_comm (l₁ := H) (l₂ := [_, _]))
  refine rl_v rfl rfl rfl (ov_len rfl Tryz.underlying69 rfl) <| rl_v rfl rfl rfl (ov_move rfl rfl) <| rl_nil <| run_block <| Run.keep [5, 20, 21, 22] (F' := [(5, _), (20, _), (21, _), (22, _)]) rfl <| run_loop2 (fun (r : Int) (lo : Int → Int) => [(22, .int .i64 r)]) [5, 20, 21] (fun (r : Int) (lo : Int → Int) (w15 : World) => 0 ≤ r ∧ r ≤ nr ∧ (∀ s k : Int, 0 ≤ s → s < r → 0 ≤ k → k < Lr s → lo (R s k) = o (R s k)) ∧ Own w.heap.size w w15 (some (vch ob 3 n (fun i => iv (lo i))) :: some (lch b1 98 [.slice ga n gc]) :: H)) (fun (r : Int) (lo : Int → Int) => ((nr : Int) - r).toNat) (0) (fun _ => 0) ?_ (And.intro (by exact slot_int rfl (by first | omega)) (And.intro rfl (And.intro rfl (And.intro rfl trivial)))) ?_
  ·exact ⟨by omega, by omega, fun s k s0 s1 => by omega, hO2⟩
  intro r lo w15 hIw15 ih16
  obtain ⟨hr0, hr1, hlo, hO⟩ := hIw15
  show Run _ _ _ _ [(22, _), (5, _), (20, _), (21, _)] _ _
  refine run_seq <| run_region <| rl_v rfl rfl rfl (ov_lss rfl rfl rfl) <| rl_nil <| run_seq ?_
  first | refine run_cond_dec rfl (fun h2 => ?_) (fun h2 => ?_) | refine run_cond rfl (fun h2 => ?_) (fun h2 => ?_)
  ·obtain ⟨ha1, ha2⟩ := hrd _ _ _ (hO.sub (.cons _ (.cons _ (.refl H))))
   obtain ⟨gb, go, hga, hrow⟩ := ha1.open
   have hpos := hRO.pos r hr0 h2
   have hlr := hlen r hr0 h2
   refine run_skip <| run_seq <| run_block <| run_seq <| run_region <| rl_v rfl rfl rfl (ov_index1 rfl Tryz.underlying69 (by kernel_rfl) rfl rfl ⟨by omega, by omega⟩ (by exact hga (by omega))) ?_
   refine rl_v rfl rfl rfl (ov_load rfl Tryz.underlying36 rfl rfl (by exact hrow _ (Below.refl _ _) r hr0 h2)) ?_
   refine rl_v rfl rfl rfl (ov_assign rfl rfl) <| rl_nil <| run_seq <| run_region <| rl_v rfl rfl rfl (ov_move rfl rfl) <| rl_v rfl rfl rfl (ov_len rfl Tryz.underlying36 rfl) <| rl_v rfl rfl rfl (ov_move rfl rfl) <| rl_nil <| run_block <| Run.keep [5, 7, 20, 21, 22, 26, 27, 28] (F' := [(5, _), (7, _), (20, _), (21, _), (22, _), (26, _), (27, _), (28, _)]) rfl <| run_loop2 (fun (k : Int) (l2 : Int → Int) => [(28, .int .i64 k)]) [5, 7, 20, 21, 22, 26, 27] (fun (k : Int) (l2 : Int → Int) (w17 : World) => 0 ≤ k ∧ k ≤ Lr r ∧ (∀ s j : Int, 0 ≤ s → s < r → 0 ≤ j → j < Lr s → l2 (R s j) = o (R s j)) ∧ (∀ j : Int, 0 ≤ j → j < k → l2 (R r j) = o (R r j)) ∧ Own w.heap.size w w17 (some (vch ob 3 n (fun i => iv (l2 i))) :: some (lch b1 98 [.slice ga n gc]) :: H)) (fun (k : Int) (l2 : Int → Int) => ((Lr r : Int) - k).toNat) (0) (lo) ?_ (And.intro (by exact slot_int rfl (by first | omega)) (And.intro rfl (And.intro rfl (And.intro rfl (And.intro rfl (And.intro rfl (And.intro rfl (And.intro rfl trivial)))))))) ?_
   ·exact ⟨by omega, by omega, hlo, fun j j0 j1 => by omega, hO⟩
   intro k l2 w17 hIw17 ih18
   obtain ⟨hk0, hk1, hl2, hl3, hO⟩ := hIw17
   show Run _ _ _ _ [(28, _), (5, _), (7, _), (20, _), (21, _), (22, _), (26, _), (27, _)] _ _
   obtain ⟨_, ha3⟩ := hrd _ _ _ (hO.sub (.cons _ (.cons _ (.refl H))))
   obtain ⟨eb, eo, hea, hel⟩ := (ha3 r hr0 h2).open
   refine run_seq <| run_region <| rl_v rfl rfl rfl (ov_lss rfl rfl rfl) <| rl_nil <| run_seq ?_
   first | refine run_cond_dec rfl (fun h3 => ?_) (fun h3 => ?_) | refine run_cond rfl (fun h3 => ?_) (fun h3 => ?_)
   ·have hmod : (k + 1) % (Lr r : Int) = Wish.nxt (Lr r) k := by
     unfold Wish.nxt
     by_cases e : k + 1 = Lr r
     ·rw [if_pos e, e, Int.emod_self]
     ·rw [if_neg e]; exact Int.emod_eq_of_lt (by omega) (by omega)
    have hnx := Wish.nxt_rng hk0 h3
    have hri := hrng r k hr0 h2 hk0 h3
    have hcyc := hRO.cyc r k hr0 h2 hk0 h3
    refine run_skip <| run_seq <| run_block <| run_seq <| run_region <| rl_v rfl rfl rfl (ov_move rfl rfl) <| rl_v rfl rfl rfl (ov_index1 rfl Tryz.underlying36 (by kernel_rfl) rfl rfl ⟨by omega, by omega⟩ (by exact hea (by omega))) ?_
    refine rl_v rfl rfl rfl (ov_load rfl Tryz.underlying3 rfl rfl (by exact hel _ (Below.refl _ _) k hk0 h3)) ?_
    refine rl_v rfl rfl rfl (ov_assign rfl rfl) <| rl_v rfl rfl rfl (ov_assign rfl rfl) <| rl_nil <| run_region <| rl_v rfl rfl rfl (ov_move rfl rfl) <| rl_v rfl rfl rfl (ov_move rfl rfl) <| rl_v rfl rfl rfl (ov_move rfl rfl) <| rl_v rfl rfl rfl (ov_move rfl rfl) <| rl_v rfl rfl rfl (ov_add rfl rfl rfl (by omega)) ?_
    refine rl_v rfl rfl rfl (ov_move rfl rfl) <| rl_v rfl rfl rfl (ov_len rfl Tryz.underlying36 rfl) <| rl_v rfl rfl rfl (ov_rem rfl rfl rfl (by omega) (by omega)) ?_
    refine rl_v rfl rfl rfl (ov_index1 rfl Tryz.underlying36 (by kernel_rfl) rfl rfl ⟨by omega, by omega⟩ (by exact hea (by omega))) ?_
    refine rl_v rfl rfl rfl (ov_load rfl Tryz.underlying3 rfl rfl (by exact (hel _ (Below.refl _ _) ((k + 1) % (Lr r : Int)) (by omega) (by omega)).trans (congrArg some (congrArg iv (by rw [hmod, ← hcyc]))))) ?_
    refine rl_v rfl rfl rfl (ov_index1 rfl Tryz.underlying36 (by kernel_rfl) rfl rfl ⟨by omega, by omega⟩ (by rfl)) ?_
    refine rl_ow rfl (ow_storeI rfl rfl (by kernel_rfl) hO 0 rfl rfl ⟨by omega, by omega⟩ rfl) ?_
    rintro _ w19 ⟨rfl, hO20, hs21⟩
    have hl2' : ∀ s j : Int, 0 ≤ s → s < r → 0 ≤ j → j < Lr s → upd l2 (R r k) (o (R r k)) (R s j) = o (R s j) := fun s j s0 s1 j0 j1 => by
     rw [upd_ne _ _ fun e => by have := (hRO.dis s j r k s0 (by omega) j0 j1 hr0 h2 hk0 h3 e).1; omega]
     exact hl2 s j s0 s1 j0 j1
    have hl3' : ∀ j : Int, 0 ≤ j → j < k + 1 → upd l2 (R r k) (o (R r k)) (R r j) = o (R r j) := fun j j0 j1 => by
     by_cases e : j = k
     ·rw [e, upd_same]
     ·rw [upd_ne _ _ fun e2 => e (hRO.dis r j r k hr0 h2 j0 (by omega) hr0 h2 hk0 h3 e2).2]
      exact hl3 j j0 (by omega)
    refine rl_nil <| run_inBlock <| run_region <| rl_v rfl rfl rfl (ov_add rfl rfl rfl (by omega)) ?_
    refine rl_v rfl rfl rfl (ov_move rfl rfl) <| rl_nil ?_
    refine Run.use (ih18 (k + 1) (upd l2 (R r k) (o (R r k))) _ ?_ ?_) (And.intro (by exact slot_int rfl (by first | omega)) (And.intro rfl (And.intro rfl (And.intro rfl (And.intro rfl (And.intro rfl (And.intro rfl (And.intro rfl trivial))))))))
    ·first | omega | (dsimp only; omega)
    ·exact ⟨by omega, by omega, hl2', hl3', hO20⟩
   ·have hlo' : ∀ s j : Int, 0 ≤ s → s < r + 1 → 0 ≤ j → j < Lr s → l2 (R s j) = o (R s j) := fun s j s0 s1 j0 j1 => by
     by_cases e : s = r
     ·rw [e] at j1 ⊢; exact hl3 j j0 (by omega)
     ·exact hl2 s j s0 (by omega) j0 j1
    refine run_exit rfl <| run_inBlock <| run_region <| rl_v rfl rfl rfl (ov_add rfl rfl rfl (by omega)) ?_
    refine rl_v rfl rfl rfl (ov_move rfl rfl) <| rl_nil ?_
    refine Run.use (ih16 (r + 1) (l2) _ ?_ ?_) (And.intro (by exact slot_int rfl (by first | omega)) (And.intro rfl (And.intro rfl (And.intro rfl trivial))))
    ·first | omega | (dsimp only; omega)
    ·exact ⟨by omega, by omega, hlo', hO⟩
  ·have hfin : ∀ i : Int, 0 ≤ i → i < n → iv (lo i) = iv (o i) := fun i i0 i1 => by
    obtain ⟨s, k, ⟨s0, s1⟩, ⟨k0, k1⟩, e⟩ := hRO.cov i i0 i1 rfl
    rw [← e, hlo s k s0 (by omega) k0 k1]
   refine run_exit rfl <| run_seq <| run_region <| rl_v rfl rfl rfl (ov_move rfl rfl) <| rl_v rfl rfl rfl (ov_assign rfl rfl) <| rl_v rfl rfl rfl (ov_assign rfl rfl) <| rl_nil <| run_ret Tryz.func46 (res2 Tryz.results46 rfl rfl) ?_
   exact ⟨ob, o, t, rfl, (hO.congrI 0 rfl hfin).sub (.cons_cons _ (List.nil_sublist _)), hC⟩
end Go.Proofs.YtbepolognfdkeaaGreat
