import Derived.Test.YtlldeifbfpmbaaaFcF
import Derived.Shelf.SlSortCmp.NoneTotal
import Derived.Shelf.Lay
import Derived.Ground.SlsfProg
set_option maxRecDepth 100000
namespace Go.Proofs.Ytlldeifbfpmbaaa
open Go.RowKit Go.Proofs Go.MapKept
theorem heap_sort {α : Type} [Inhabited α] (enc : α → Value) (w : World) (ob n : Nat) (d : Array α) (os : Array Obj) {k : Nat} (hk : k < w.heap.size) (hne : k ≠ ob) : (sortWorld enc w ob 0 n d os).heap[k]? = w.heap[k]? := by
 unfold sortWorld
 rw [Sort.heap_grow_old _ _ (by rw [Sort.size_putRow]; exact hk)]
 unfold Sort.putRow Sort.mapBlock
 show (w.heap.modify ob _)[k]? = _
 rw [Array.getElem?_modify, if_neg (fun e => hne e.symm)]
theorem size_sort {α : Type} [Inhabited α] (enc : α → Value) (w : World) (ob n : Nat) (d : Array α) (os : Array Obj) : w.heap.size ≤ (sortWorld enc w ob 0 n d os).heap.size := by
 unfold sortWorld
 rw [Sort.size_grow, Sort.size_putRow]
 exact Nat.le_add_right _ _
theorem Own.sorted {α : Type} [Inhabited α] {enc : α → Value} {B : Nat} {w0 w : World} {H : List (Option Blk)} {ob cap nr : Nat} {E : TypeId} {G : Int → Value} (hO : Own B w0 w (some (vch ob E cap G) :: H)) (n : Nat) (d : Array α) (os : Array Obj) (hs : d.size = nr) (hc : nr ≤ cap) :
  Own B w0 (sortWorld enc w ob 0 n d os) (some (vch ob E cap (fun i => if i < nr then enc d[i.toNat]! else G i)) :: H) := by
 have hge : B ≤ ob := hO.ge _ (List.mem_cons_self ..)
 have hb := hO.get 0 rfl
 have hlt := hO.lt 0 rfl
 refine hO.updBB 0 rfl ⟨rfl, rfl, rfl, size_sort .., fun k hk => heap_sort enc w ob n d os (Nat.lt_trans (Nat.lt_of_lt_of_le hk hge) hlt) (by omega)⟩ (fun j hj hne => heap_sort enc w ob n d os hj hne) ?_ hge (.inl rfl)
 obtain ⟨c, h1, h2, h3⟩ := hb
 refine blkIs.of_row rfl ⟨Sort.putCells enc 0 d c, ?_, ?_, fun i hi => ?_⟩
 ·unfold sortWorld
  rw [Sort.heap_grow_old _ _ (by rw [Sort.size_putRow]; exact hlt)]
  unfold Sort.putRow Sort.mapBlock
  show (w.heap.modify ob _)[ob]? = _
  rw [Array.getElem?_modify, if_pos rfl]
  show (w.heap[ob]?).map _ = _
  have h1' : w.heap[ob]? = some (.cells c E (0, 0)) := h1
  rw [h1']
  rfl
 ·unfold Sort.putCells
  rw [Array.size_mapIdx]; exact h2
 ·have hi' : i < cap := hi
  have h4 : c[i]? = some (G i) := h3 i hi
  unfold Sort.putCells
  rw [Array.getElem?_mapIdx, h4]
  show some (if 0 ≤ i ∧ i < 0 + d.size then enc d[i - 0]! else G i) = some (if (i : Int) < nr then enc d[(i : Int).toNat]! else G i)
  by_cases e : i < nr
  ·rw [if_pos ⟨Nat.zero_le _, by omega⟩, if_pos (by omega)]; rfl
  ·rw [if_neg (by omega), if_neg (by omega)]
theorem first_any (ba bb na ca nb cb : Nat) (u v : Int) (W : World) (hu : W.cell? ⟨ba, 0, none⟩ = some (iv u)) (hv : W.cell? ⟨bb, 0, none⟩ = some (iv v)) (ha : 1 ≤ na) (hb : 1 ≤ nb) (hu1 : 0 ≤ u ∧ u ≤ 1000) (hv1 : 0 ≤ v ∧ v ≤ 1000) :
  Calls Try.prog 82 #[.slice (some ⟨ba, 0, none⟩) na ca, .slice (some ⟨bb, 0, none⟩) nb cb] W fun e w' => e = .returned (iv (u - v)) ∧ ∃ q, w' = W.drewN q := by
 obtain ⟨w, hw⟩ : ∃ w, w = W := ⟨_, rfl⟩
 rw [← hw] at hu hv ⊢
 refine calls_of_run (F := [(0, _), (1, _)]) Try.func82 rfl Try.ntmps82 rfl rfl ?_
 have hO0 := Own.init w
 refine run_seq <| run_region <| rl_v rfl rfl rfl (ov_assign rfl rfl) <| rl_nil <| run_seq <| run_class (fun w' => ∃ q, w' = w.drewN q) (⟨1, rfl⟩) mixed (by kernel_rfl) ?_
 refine rk_v rfl rfl rfl (fun wq hQ => ov_move rfl rfl) ?_
 refine rk_v rfl rfl rfl (fun wq hQ => ov_index1 rfl Try.underlying23 (by kernel_rfl) rfl rfl ⟨by omega, by omega⟩ rfl) ?_
 refine rk_v rfl rfl rfl (fun wq hQ => ov_load rfl Try.underlying3 rfl rfl (by exact (by obtain ⟨q, e⟩ := hQ; rw [e]; exact hu))) ?_
 refine rk_v rfl rfl rfl (fun wq hQ => ov_move rfl rfl) ?_
 refine rk_v rfl rfl rfl (fun wq hQ => ov_index1 rfl Try.underlying23 (by kernel_rfl) rfl rfl ⟨by omega, by omega⟩ rfl) ?_
 refine rk_v rfl rfl rfl (fun wq hQ => ov_load rfl Try.underlying3 rfl rfl (by exact (by obtain ⟨q, e⟩ := hQ; rw [e]; exact hv))) ?_
 refine rk_v rfl rfl rfl (fun wq hQ => ov_sub rfl rfl rfl (by omega)) ?_
 refine rk_v rfl rfl rfl (fun wq hQ => ov_assign rfl rfl) ?_
 refine rk_nil (fun w1 hQ => ?_)
 refine run_ret Try.func82 (res1 Try.results82 rfl) ?_
 exact ⟨rfl, hQ⟩
def Try.sortRows_ren : Go.Shelf.Ren := ⟨fun | 6 => 81 | 15 => 93 | 14 => 92 | 28 => 105 | 29 => 106 | 20 => 97 | 21 => 98 | 22 => 99 | 23 => 100 | 24 => 101 | 25 => 102 | 26 => 103 | 27 => 104 | 46 => 107 | 47 => 108 | 48 => 109 | 49 => 110 | 50 => 111 | 57 => 112 | n => n, fun | 22 => 22 | 24 => 23 | 25 => 121 | 3 => 3 | 39 => 37 | 0 => 0 | 53 => 140 | 55 => 143 | 4 => 4 | 46 => 148 | 45 => 147 | 50 => 124 | 5 => 5 | 9 => 9 | 66 => 155 | 70 => 159 | 76 => 161 | 77 => 74 | n => n, fun | n => n⟩
theorem Try.sortRows : Go.Proofs.SlLaysF.n6 Try.prog Try.sortRows_ren := {
  mixed := by kernel_rfl
  f6 := ⟨Try.f81.name, by decide, Try.func81.trans (congrArg some (by kernel_rfl))⟩
  f14 := ⟨Try.f92.name, by decide, Try.func92.trans (congrArg some (by kernel_rfl))⟩
  f15 := Try.func93.trans (congrArg some (by kernel_rfl))
  f20 := ⟨Try.f97.name, by decide, Try.func97.trans (congrArg some (by kernel_rfl))⟩
  f21 := ⟨Try.f98.name, by decide, Try.func98.trans (congrArg some (by kernel_rfl))⟩
  f22 := ⟨Try.f99.name, by decide, Try.func99.trans (congrArg some (by kernel_rfl))⟩
  f23 := ⟨Try.f100.name, by decide, Try.func100.trans (congrArg some (by kernel_rfl))⟩
  f24 := ⟨Try.f101.name, by decide, Try.func101.trans (congrArg some (by kernel_rfl))⟩
  f25 := ⟨Try.f102.name, by decide, Try.func102.trans (congrArg some (by kernel_rfl))⟩
  f26 := ⟨Try.f103.name, by decide, Try.func103.trans (congrArg some (by kernel_rfl))⟩
  f27 := ⟨Try.f104.name, by decide, Try.func104.trans (congrArg some (by kernel_rfl))⟩
  f28 := Try.func105.trans (congrArg some (by kernel_rfl))
  f29 := Try.func106.trans (congrArg some (by kernel_rfl))
  f46 := ⟨Try.f107.name, by decide, Try.func107.trans (congrArg some (by kernel_rfl))⟩
  f47 := Try.func108.trans (congrArg some (by kernel_rfl))
  f48 := Try.func109.trans (congrArg some (by kernel_rfl))
  f49 := ⟨Try.f110.name, by decide, Try.func110.trans (congrArg some (by kernel_rfl))⟩
  f50 := ⟨Try.f111.name, by decide, Try.func111.trans (congrArg some (by kernel_rfl))⟩
  f57 := ⟨Try.f112.name, by decide, Try.func112.trans (congrArg some (by kernel_rfl))⟩
  t0 := Try.underlying0
  a0 := Try.isAgg0
  z0 := Try.sizeOf0
  v0 := Try.zeroValue0
  t3 := Try.underlying3
  a3 := Try.isAgg3
  z3 := Try.sizeOf3
  v3 := Try.zeroValue3
  t4 := Try.underlying4
  a4 := Try.isAgg4
  z4 := Try.sizeOf4
  v4 := Try.zeroValue4
  t5 := Try.underlying5
  a5 := Try.isAgg5
  z5 := Try.sizeOf5
  v5 := Try.zeroValue5
  t9 := Try.underlying9
  a9 := Try.isAgg9
  z9 := Try.sizeOf9
  v9 := Try.zeroValue9
  t22 := Try.underlying22
  a22 := Try.isAgg22
  z22 := Try.sizeOf22
  v22 := Try.zeroValue22
  a24 := Try.isAgg23
  z24 := Try.sizeOf23
  t25 := Try.underlying121
  a25 := Try.isAgg121
  z25 := Try.sizeOf121
  v25 := Try.zeroValue121
  t39 := Try.underlying37
  a39 := Try.isAgg37
  z39 := Try.sizeOf37
  v39 := Try.zeroValue37
  t45 := Try.underlying147
  a45 := Try.isAgg147
  z45 := Try.sizeOf147
  v45 := Try.zeroValue147
  t46 := Try.underlying148
  a46 := Try.isAgg148
  z46 := Try.sizeOf148
  v46 := Try.zeroValue148
  t50 := Try.underlying124
  a50 := Try.isAgg124
  z50 := Try.sizeOf124
  v50 := Try.zeroValue124
  t53 := Try.underlying140
  a53 := Try.isAgg140
  z53 := Try.sizeOf140
  v53 := Try.zeroValue140
  t55 := Try.underlying143
  a55 := Try.isAgg143
  z55 := Try.sizeOf143
  v55 := Try.zeroValue143
  t66 := Try.underlying155
  a66 := Try.isAgg155
  z66 := Try.sizeOf155
  v66 := Try.zeroValue155
  t70 := Try.underlying159
  a70 := Try.isAgg159
  z70 := Try.sizeOf159
  v70 := Try.zeroValue159
  t76 := Try.underlying161
  a76 := Try.isAgg161
  z76 := Try.sizeOf161
  v76 := Try.zeroValue161
  t77 := Try.underlying74
  a77 := Try.isAgg74
  z77 := Try.sizeOf74
  v77 := Try.zeroValue74 }
def cfR (R : Int → Int → Int) {nr : Nat} (x y : Fin nr) : Int := R (x.val : Int) 0 - R (y.val : Int) 0
theorem swoR (R : Int → Int → Int) (nr : Nat) : Sort.SWO (ltOf (cfR R (nr := nr))) where
 irrefl x := by unfold ltOf cfR; exact decide_eq_false (by omega)
 trans x y z h1 h2 := by
  unfold ltOf cfR at *
  have h1 := of_decide_eq_true h1
  have h2 := of_decide_eq_true h2
  exact decide_eq_true (by omega)
 ntrans x y z h1 h2 := by
  unfold ltOf cfR at *
  have h1 := of_decide_eq_false h1
  have h2 := of_decide_eq_false h2
  exact decide_eq_false (by omega)
theorem sortRows_all : SortRows := by
 intro B w0 w oa nr ocap Lr R rv ch co T hn hk hd hro hch hO
 by_cases h0 : nr = 0
 ·subst h0
  have h := AnyF.slices_SortFunc_none { Try.sortRows with } oa ocap (.func (.func 82) #[] #[]) w
  change Calls Try.prog 81 _ _ _ at h
  exact h.mono fun e w' ⟨h1, h2⟩ => ⟨h1, fun r => r, co, fun r r0 r1 => by omega, fun r s r0 r1 => by omega, fun r r0 r1 => by omega, hro, by rw [h2]; exact hO⟩
 ·obtain ⟨ob, G, rfl, hnc, hmx, rfl, hG⟩ := hro.asV (by omega)
  haveI : Inhabited (Fin nr) := ⟨⟨0, by omega⟩⟩
  obtain ⟨d, hd0⟩ : ∃ d : Array (Fin nr), d = Array.ofFn fun i => i := ⟨_, rfl⟩
  have hds : d.size = nr := by rw [hd0]; simp
  have hdi : ∀ (j : Nat) (hj : j < nr), d[j]! = ⟨j, hj⟩ := fun j hj => by
   rw [getElem!_pos d j (by omega)]
   subst hd0
   simp
  have hrow : ∀ x : Fin nr, ∃ b cp, rv (x.val : Int) = .slice (some ⟨b, 0, none⟩) (Lr (x.val : Int)) cp ∧ w.cell? ⟨b, 0, none⟩ = some (iv (R (x.val : Int) 0)) ∧ b ≠ ob ∧ b < w.heap.size := fun x => by
   obtain ⟨x, hx⟩ := x
   have h := hch x hx
   have hl := (hk x (by omega) (by omega)).1
   obtain ⟨a, cp, e⟩ := Row.val h
   have hkx : (some (vch ob 23 ocap G) :: ((List.range nr).map ch ++ T))[x + 1]? = some (ch x) := by simp [List.getElem?_append, hx]
   rw [e] at h
   obtain ⟨b, G', rfl, h1, h2, h3, h4⟩ := h.asV hl
   rw [h3] at hkx
   refine ⟨b, cp, e, ?_, fun eb => ?_, hO.lt (x + 1) hkx⟩
   ·have := hO.cellI (x + 1) hkx 0 (by omega) (by omega)
    rw [h4 0 (by omega) (by omega)] at this
    exact this
   ·have hp := (List.pairwise_cons.1 hO.nd).1 _ (List.mem_of_getElem? (by simpa using hkx) : some (vch b 3 cp G') ∈ (List.range nr).map ch ++ T)
    exact hp _ _ rfl rfl eb.symm
  have hcmp : CmpReads Try.prog 82 #[] (fun x : Fin nr => rv (x.val : Int)) (cfR R) ob 0 d.size w := fun m os dk _ x y => by
   obtain ⟨b, cp, e1, e2, e3, e4⟩ := hrow x
   obtain ⟨b', cp', e1', e2', e3', e4'⟩ := hrow y
   have kx := hk (x.val : Int) (by omega) (by omega)
   have ky := hk (y.val : Int) (by omega) (by omega)
   have h := first_any b b' (Lr (x.val : Int)) cp (Lr (y.val : Int)) cp' (R (x.val : Int) 0) (R (y.val : Int) 0) (sortWorld (fun x : Fin nr => rv (x.val : Int)) w ob 0 m dk os) (by rw [← e2]; simp only [World.cell?, heap_sort _ w ob m dk os e4 e3]) (by rw [← e2']; simp only [World.cell?, heap_sort _ w ob m dk os e4' e3']) kx.1 ky.1 kx.2 ky.2
   rw [Array.append_empty]
   show Calls _ _ #[rv (x.val : Int), rv (y.val : Int)] _ _
   rw [e1, e1']
   exact h
  have h1 : OneCell (fun x : Fin nr => rv (x.val : Int)) := fun x => by
   obtain ⟨b, cp, e, _⟩ := hrow x
   show (rv (x.val : Int)).oneCell' = true
   rw [e]; rfl
  have eg : ∀ args w, (callFunc 82 args).run Try.prog w = .ok (.enter 82 args) w := enters_of Try.func82 (by kernel_rfl) rfl
  have hlt := hO.lt 0 rfl
  have hH : Sort.Holds (fun x : Fin nr => rv (x.val : Int)) w ob 0 d := fun j hj => by
   refine ⟨?_, (hO.get 0 rfl).frozen _⟩
   have hj' : j < nr := by omega
   have := hO.cellI 0 rfl (j : Int) (by omega) (by omega)
   rw [hG _ (by omega) (by omega)] at this
   rw [hdi j hj']
   exact this
  have h := Any.slices_SortFunc Try.sortRows (fun x : Fin nr => rv (x.val : Int)) h1 (cfR R) (swoR R nr) 82 #[] ob 0 ocap d w eg hcmp.lays hH hlt (by omega)
  change Calls Try.prog 81 _ _ _ at h
  rw [hds] at h
  refine h.mono fun e w' ⟨he, d', n, os, hp, hs, hw⟩ => ?_
  have hds' : d'.size = nr := by rw [hp.1, hds]
  have hnd : d.toList.Nodup := by
   rw [List.nodup_iff_pairwise_ne, List.pairwise_iff_getElem]
   intro i j hi hj hij e
   have hi' : i < nr := by simpa [hds] using hi
   have hj' : j < nr := by simpa [hds] using hj
   have a1 := hdi i hi'
   have a2 := hdi j hj'
   rw [getElem!_pos d i (by omega)] at a1
   rw [getElem!_pos d j (by omega)] at a2
   simp only [Array.getElem_toList] at e
   rw [a1, a2] at e
   have := congrArg Fin.val e
   simp at this
   omega
  have hnd' : d'.toList.Nodup := by
   have hpp := hp.2.2
   rw [Array.extract_eq_self_of_le (by omega), Array.extract_eq_self_of_le (by omega)] at hpp
   exact (hpp.nodup_iff).2 hnd
  have hinj : ∀ r s : Int, 0 ≤ r → r < nr → 0 ≤ s → s < nr → ((d'[r.toNat]!).val : Int) = (d'[s.toNat]!).val → r = s := fun r s r0 r1 s0 s1 e => by
   have e' : d'[r.toNat]! = d'[s.toNat]! := Fin.ext (by omega)
   rw [getElem!_pos d' _ (by omega), getElem!_pos d' _ (by omega)] at e'
   have hpw := hnd'
   rw [List.nodup_iff_pairwise_ne, List.pairwise_iff_getElem] at hpw
   have key : ∀ a b : Nat, (ha : a < nr) → (hb : b < nr) → a < b → d'[a]'(by omega) ≠ d'[b]'(by omega) := fun a b ha hb hab => by
    have := hpw a b (by simpa [hds'] using ha) (by simpa [hds'] using hb) hab
    simpa only [Array.getElem_toList] using this
   by_cases c : r < s
   ·exact absurd e' (key r.toNat s.toNat (by omega) (by omega) (by omega))
   ·by_cases c2 : s < r
    ·exact absurd e'.symm (key s.toNat r.toNat (by omega) (by omega) (by omega))
    ·omega
  refine ⟨he, fun r => ((d'[r.toNat]!).val : Int), _, fun r r0 r1 => (show 0 ≤ ((d'[r.toNat]!).val : Int) ∧ ((d'[r.toNat]!).val : Int) < nr from ⟨by omega, by have := (d'[r.toNat]!).2; omega⟩), hinj, fun r r0 r1 => ?_, IRow.ofV hnc hmx fun i i0 i1 => ?_, by rw [hw]; exact hO.sorted n d' os hds' hnc⟩
  ·have hso := hs r.toNat (r + 1).toNat (Nat.zero_le _) (by omega) (by omega)
   unfold ltOf cfR at hso
   have hso := of_decide_eq_false hso
   have hne : R ((d'[r.toNat]!).val : Int) 0 ≠ R ((d'[(r + 1).toNat]!).val : Int) 0 := fun e => by
    have q1 := (d'[r.toNat]!).2
    have q2 := (d'[(r + 1).toNat]!).2
    have := hinj r (r + 1) r0 (by omega) (by omega) (by omega) (hd _ _ (by omega) (by omega) (by omega) (by omega) e)
    omega
   show R ((d'[r.toNat]!).val : Int) 0 < R ((d'[(r + 1).toNat]!).val : Int) 0
   omega
  ·show (if i < (nr : Int) then rv ((d'[i.toNat]!).val : Int) else G i) = rv ((d'[i.toNat]!).val : Int)
   rw [if_pos i1]
end Go.Proofs.Ytlldeifbfpmbaaa
