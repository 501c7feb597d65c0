import Derived.Test.YtlldeifbfpmbaaaGreatFcF
import Derived.Shelf.SlSortCmp.NoneTotal
import Derived.Shelf.Lay
import Derived.Ground.SlsfProg
import Derived.Test.YtlldeifbfpmbaaaGreatFgC
import Derived.Test.YtlldeifbfpmbaaaGreatFjA
import Derived.Test.YtlldeifbfpmbaaaGreatFdA
import Derived.Test.YtlldeifbfpmbaaaGreatFeB
import Derived.Test.YtlldeifbfpmbaaaGreatFiC
set_option maxRecDepth 100000
namespace Go.Proofs.YtlldeifbfpmbaaaGreat
open Go.RowKit Go.Proofs Go.MapKept
theorem heap_sort {α : Type} [Inhabited α] (enc : α → Value) (w : World) (ob n : Nat) (d : Array α) (os : Array Obj) {k : Nat} (hk : k < w.heap.size) (hne : k ≠ ob) : (sortWorld enc w ob 0 n d os).heap[k]? = w.heap[k]? := by
 unfold sortWorld
 rw [Sort.heap_grow_old _ _ (by rw [Sort.size_putRow]; exact hk)]
 unfold Sort.putRow Sort.mapBlock
 show (w.heap.modify ob _)[k]? = _
 rw [Array.getElem?_modify, if_neg (fun e => hne e.symm)]
theorem size_sort {α : Type} [Inhabited α] (enc : α → Value) (w : World) (ob n : Nat) (d : Array α) (os : Array Obj) : w.heap.size ≤ (sortWorld enc w ob 0 n d os).heap.size := by
 unfold sortWorld
 rw [Sort.size_grow, Sort.size_putRow]
 exact Nat.le_add_right _ _
theorem Own.sorted {α : Type} [Inhabited α] {enc : α → Value} {B : Nat} {w0 w : World} {H : List (Option Blk)} {ob cap nr : Nat} {E : TypeId} {G : Int → Value} (hO : Own B w0 w (some (vch ob E cap G) :: H)) (n : Nat) (d : Array α) (os : Array Obj) (hs : d.size = nr) (hc : nr ≤ cap) :
  Own B w0 (sortWorld enc w ob 0 n d os) (some (vch ob E cap (fun i => if i < nr then enc d[i.toNat]! else G i)) :: H) := by
 have hge : B ≤ ob := hO.ge _ (List.mem_cons_self ..)
 have hb := hO.get 0 rfl
 have hlt := hO.lt 0 rfl
 refine hO.updBB 0 rfl ⟨rfl, rfl, rfl, size_sort .., fun k hk => heap_sort enc w ob n d os (Nat.lt_trans (Nat.lt_of_lt_of_le hk hge) hlt) (by omega)⟩ (fun j hj hne => heap_sort enc w ob n d os hj hne) ?_ hge (.inl rfl)
 obtain ⟨c, h1, h2, h3⟩ := hb
 refine blkIs.of_row rfl ⟨Sort.putCells enc 0 d c, ?_, ?_, fun i hi => ?_⟩
 ·unfold sortWorld
  rw [Sort.heap_grow_old _ _ (by rw [Sort.size_putRow]; exact hlt)]
  unfold Sort.putRow Sort.mapBlock
  show (w.heap.modify ob _)[ob]? = _
  rw [Array.getElem?_modify, if_pos rfl]
  show (w.heap[ob]?).map _ = _
  have h1' : w.heap[ob]? = some (.cells c E (0, 0)) := h1
  rw [h1']
  rfl
 ·unfold Sort.putCells
  rw [Array.size_mapIdx]; exact h2
 ·have hi' : i < cap := hi
  have h4 : c[i]? = some (G i) := h3 i hi
  unfold Sort.putCells
  rw [Array.getElem?_mapIdx, h4]
  show some (if 0 ≤ i ∧ i < 0 + d.size then enc d[i - 0]! else G i) = some (if (i : Int) < nr then enc d[(i : Int).toNat]! else G i)
  by_cases e : i < nr
  ·rw [if_pos ⟨Nat.zero_le _, by omega⟩, if_pos (by omega)]; rfl
  ·rw [if_neg (by omega), if_neg (by omega)]
theorem first_any (ba bb na ca nb cb : Nat) (u v : Int) (W : World) (hu : W.cell? ⟨ba, 0, none⟩ = some (iv u)) (hv : W.cell? ⟨bb, 0, none⟩ = some (iv v)) (ha : 1 ≤ na) (hb : 1 ≤ nb) (hu1 : 0 ≤ u ∧ u ≤ 1000) (hv1 : 0 ≤ v ∧ v ≤ 1000) :
  Calls Tryz.prog 104 #[.slice (some ⟨ba, 0, none⟩) na ca, .slice (some ⟨bb, 0, none⟩) nb cb] W fun e w' => e = .returned (iv (u - v)) ∧ ∃ q, w' = W.drewN q := by
 obtain ⟨w, hw⟩ : ∃ w, w = W := ⟨_, rfl⟩
 rw [← hw] at hu hv ⊢
 refine calls_of_run (F := [(0, _), (1, _)]) Tryz.func104 rfl Tryz.ntmps104 rfl rfl ?_
 have hO0 := Own.init w
 refine run_seq <| run_region <| rl_v rfl rfl rfl (ov_assign rfl rfl) <| rl_nil <| run_seq <| run_class (fun w' => ∃ q, w' = w.drewN q) (⟨1, rfl⟩) mixed (by kernel_rfl) ?_
 refine rk_v rfl rfl rfl (fun wq hQ => ov_move rfl rfl) ?_
 refine rk_v rfl rfl rfl (fun wq hQ => ov_index1 rfl Tryz.underlying23 (by kernel_rfl) rfl rfl ⟨by omega, by omega⟩ rfl) ?_
 refine rk_v rfl rfl rfl (fun wq hQ => ov_load rfl Tryz.underlying3 rfl rfl (by exact (by obtain ⟨q, e⟩ := hQ; rw [e]; exact hu))) ?_
 refine rk_v rfl rfl rfl (fun wq hQ => ov_move rfl rfl) ?_
 refine rk_v rfl rfl rfl (fun wq hQ => ov_index1 rfl Tryz.underlying23 (by kernel_rfl) rfl rfl ⟨by omega, by omega⟩ rfl) ?_
 refine rk_v rfl rfl rfl (fun wq hQ => ov_load rfl Tryz.underlying3 rfl rfl (by exact (by obtain ⟨q, e⟩ := hQ; rw [e]; exact hv))) ?_
 refine rk_v rfl rfl rfl (fun wq hQ => ov_sub rfl rfl rfl (by omega)) ?_
 refine rk_v rfl rfl rfl (fun wq hQ => ov_assign rfl rfl) ?_
 refine rk_nil (fun w1 hQ => ?_)
 refine run_ret Tryz.func104 (res1 Tryz.results104 rfl) ?_
 exact ⟨rfl, hQ⟩
def Tryz.sortRows_ren : Go.Shelf.Ren := ⟨fun | 6 => 103 | 15 => 123 | 14 => 124 | 28 => 144 | 29 => 145 | 20 => 146 | 21 => 147 | 22 => 148 | 23 => 149 | 24 => 150 | 25 => 151 | 26 => 152 | 27 => 153 | 46 => 162 | 47 => 157 | 48 => 158 | 49 => 163 | 50 => 164 | 57 => 168 | n => n, fun | 22 => 22 | 24 => 23 | 25 => 158 | 3 => 3 | 39 => 49 | 0 => 0 | 53 => 196 | 55 => 106 | 4 => 4 | 46 => 206 | 45 => 205 | 50 => 177 | 5 => 5 | 9 => 9 | 66 => 219 | 70 => 223 | 76 => 229 | 77 => 230 | n => n, fun | n => n⟩
theorem Tryz.sortRows : Go.Proofs.SlLaysF.n6 Tryz.prog Tryz.sortRows_ren := {
  mixed := by kernel_rfl
  f6 := ⟨Tryz.f103.name, by decide, Tryz.func103.trans (congrArg some (by kernel_rfl))⟩
  f14 := ⟨Tryz.f124.name, by decide, Tryz.func124.trans (congrArg some (by kernel_rfl))⟩
  f15 := Tryz.func123.trans (congrArg some (by kernel_rfl))
  f20 := ⟨Tryz.f146.name, by decide, Tryz.func146.trans (congrArg some (by kernel_rfl))⟩
  f21 := ⟨Tryz.f147.name, by decide, Tryz.func147.trans (congrArg some (by kernel_rfl))⟩
  f22 := ⟨Tryz.f148.name, by decide, Tryz.func148.trans (congrArg some (by kernel_rfl))⟩
  f23 := ⟨Tryz.f149.name, by decide, Tryz.func149.trans (congrArg some (by kernel_rfl))⟩
  f24 := ⟨Tryz.f150.name, by decide, Tryz.func150.trans (congrArg some (by kernel_rfl))⟩
  f25 := ⟨Tryz.f151.name, by decide, Tryz.func151.trans (congrArg some (by kernel_rfl))⟩
  f26 := ⟨Tryz.f152.name, by decide, Tryz.func152.trans (congrArg some (by kernel_rfl))⟩
  f27 := ⟨Tryz.f153.name, by decide, Tryz.func153.trans (congrArg some (by kernel_rfl))⟩
  f28 := Tryz.func144.trans (congrArg some (by kernel_rfl))
  f29 := Tryz.func145.trans (congrArg some (by kernel_rfl))
  f46 := ⟨Tryz.f162.name, by decide, Tryz.func162.trans (congrArg some (by kernel_rfl))⟩
  f47 := Tryz.func157.trans (congrArg some (by kernel_rfl))
  f48 := Tryz.func158.trans (congrArg some (by kernel_rfl))
  f49 := ⟨Tryz.f163.name, by decide, Tryz.func163.trans (congrArg some (by kernel_rfl))⟩
  f50 := ⟨Tryz.f164.name, by decide, Tryz.func164.trans (congrArg some (by kernel_rfl))⟩
  f57 := ⟨Tryz.f168.name, by decide, Tryz.func168.trans (congrArg some (by kernel_rfl))⟩
  t0 := Tryz.underlying0
  a0 := Tryz.isAgg0
  z0 := Tryz.sizeOf0
  v0 := Tryz.zeroValue0
  t3 := Tryz.underlying3
  a3 := Tryz.isAgg3
  z3 := Tryz.sizeOf3
  v3 := Tryz.zeroValue3
  t4 := Tryz.underlying4
  a4 := Tryz.isAgg4
  z4 := Tryz.sizeOf4
  v4 := Tryz.zeroValue4
  t5 := Tryz.underlying5
  a5 := Tryz.isAgg5
  z5 := Tryz.sizeOf5
  v5 := Tryz.zeroValue5
  t9 := Tryz.underlying9
  a9 := Tryz.isAgg9
  z9 := Tryz.sizeOf9
  v9 := Tryz.zeroValue9
  t22 := Tryz.underlying22
  a22 := Tryz.isAgg22
  z22 := Tryz.sizeOf22
  v22 := Tryz.zeroValue22
  a24 := Tryz.isAgg23
  z24 := Tryz.sizeOf23
  t25 := Tryz.underlying158
  a25 := Tryz.isAgg158
  z25 := Tryz.sizeOf158
  v25 := Tryz.zeroValue158
  t39 := Tryz.underlying49
  a39 := Tryz.isAgg49
  z39 := Tryz.sizeOf49
  v39 := Tryz.zeroValue49
  t45 := Tryz.underlying205
  a45 := Tryz.isAgg205
  z45 := Tryz.sizeOf205
  v45 := Tryz.zeroValue205
  t46 := Tryz.underlying206
  a46 := Tryz.isAgg206
  z46 := Tryz.sizeOf206
  v46 := Tryz.zeroValue206
  t50 := Tryz.underlying177
  a50 := Tryz.isAgg177
  z50 := Tryz.sizeOf177
  v50 := Tryz.zeroValue177
  t53 := Tryz.underlying196
  a53 := Tryz.isAgg196
  z53 := Tryz.sizeOf196
  v53 := Tryz.zeroValue196
  t55 := Tryz.underlying106
  a55 := Tryz.isAgg106
  z55 := Tryz.sizeOf106
  v55 := Tryz.zeroValue106
  t66 := Tryz.underlying219
  a66 := Tryz.isAgg219
  z66 := Tryz.sizeOf219
  v66 := Tryz.zeroValue219
  t70 := Tryz.underlying223
  a70 := Tryz.isAgg223
  z70 := Tryz.sizeOf223
  v70 := Tryz.zeroValue223
  t76 := Tryz.underlying229
  a76 := Tryz.isAgg229
  z76 := Tryz.sizeOf229
  v76 := Tryz.zeroValue229
  t77 := Tryz.underlying230
  a77 := Tryz.isAgg230
  z77 := Tryz.sizeOf230
  v77 := Tryz.zeroValue230 }
def cfR (R : Int → Int → Int) {nr : Nat} (x y : Fin nr) : Int := R (x.val : Int) 0 - R (y.val : Int) 0
theorem swoR (R : Int → Int → Int) (nr : Nat) : Sort.SWO (ltOf (cfR R (nr := nr))) where
 irrefl x := by unfold ltOf cfR; exact decide_eq_false (by omega)
 trans x y z h1 h2 := by
  unfold ltOf cfR at *
  have h1 := of_decide_eq_true h1
  have h2 := of_decide_eq_true h2
  exact decide_eq_true (by omega)
 ntrans x y z h1 h2 := by
  unfold ltOf cfR at *
  have h1 := of_decide_eq_false h1
  have h2 := of_decide_eq_false h2
  exact decide_eq_false (by omega)
theorem sortRows_all : SortRows := by
 intro B w0 w oa nr ocap Lr R rv ch co T hn hk hd hro hch hO
 by_cases h0 : nr = 0
 ·subst h0
  have h := AnyF.slices_SortFunc_none { Tryz.sortRows with } oa ocap (.func (.func 104) #[] #[]) w
  change Calls Tryz.prog 103 _ _ _ at h
  exact h.mono fun e w' ⟨h1, h2⟩ => ⟨h1, fun r => r, co, fun r r0 r1 => by omega, fun r s r0 r1 => by omega, fun r r0 r1 => by omega, hro, by rw [h2]; exact hO⟩
 ·obtain ⟨ob, G, rfl, hnc, hmx, rfl, hG⟩ := hro.asV (by omega)
  haveI : Inhabited (Fin nr) := ⟨⟨0, by omega⟩⟩
  obtain ⟨d, hd0⟩ : ∃ d : Array (Fin nr), d = Array.ofFn fun i => i := ⟨_, rfl⟩
  have hds : d.size = nr := by rw [hd0]; simp
  have hdi : ∀ (j : Nat) (hj : j < nr), d[j]! = ⟨j, hj⟩ := fun j hj => by
   rw [getElem!_pos d j (by omega)]
   subst hd0
   simp
  have hrow : ∀ x : Fin nr, ∃ b cp, rv (x.val : Int) = .slice (some ⟨b, 0, none⟩) (Lr (x.val : Int)) cp ∧ w.cell? ⟨b, 0, none⟩ = some (iv (R (x.val : Int) 0)) ∧ b ≠ ob ∧ b < w.heap.size := fun x => by
   obtain ⟨x, hx⟩ := x
   have h := hch x hx
   have hl := (hk x (by omega) (by omega)).1
   obtain ⟨a, cp, e⟩ := Row.val h
   have hkx : (some (vch ob 23 ocap G) :: ((List.range nr).map ch ++ T))[x + 1]? = some (ch x) := by simp [List.getElem?_append, hx]
   rw [e] at h
   obtain ⟨b, G', rfl, h1, h2, h3, h4⟩ := h.asV hl
   rw [h3] at hkx
   refine ⟨b, cp, e, ?_, fun eb => ?_, hO.lt (x + 1) hkx⟩
   ·have := hO.cellI (x + 1) hkx 0 (by omega) (by omega)
    rw [h4 0 (by omega) (by omega)] at this
    exact this
   ·have hp := (List.pairwise_cons.1 hO.nd).1 _ (List.mem_of_getElem? (by simpa using hkx) : some (vch b 3 cp G') ∈ (List.range nr).map ch ++ T)
    exact hp _ _ rfl rfl eb.symm
  have hcmp : CmpReads Tryz.prog 104 #[] (fun x : Fin nr => rv (x.val : Int)) (cfR R) ob 0 d.size w := fun m os dk _ x y => by
   obtain ⟨b, cp, e1, e2, e3, e4⟩ := hrow x
   obtain ⟨b', cp', e1', e2', e3', e4'⟩ := hrow y
   have kx := hk (x.val : Int) (by omega) (by omega)
   have ky := hk (y.val : Int) (by omega) (by omega)
   have h := first_any b b' (Lr (x.val : Int)) cp (Lr (y.val : Int)) cp' (R (x.val : Int) 0) (R (y.val : Int) 0) (sortWorld (fun x : Fin nr => rv (x.val : Int)) w ob 0 m dk os) (by rw [← e2]; simp only [World.cell?, heap_sort _ w ob m dk os e4 e3]) (by rw [← e2']; simp only [World.cell?, heap_sort _ w ob m dk os e4' e3']) kx.1 ky.1 kx.2 ky.2
   rw [Array.append_empty]
   show Calls _ _ #[rv (x.val : Int), rv (y.val : Int)] _ _
   rw [e1, e1']
   exact h
  have h1 : OneCell (fun x : Fin nr => rv (x.val : Int)) := fun x => by
   obtain ⟨b, cp, e, _⟩ := hrow x
   show (rv (x.val : Int)).oneCell' = true
   rw [e]; rfl
  have eg : ∀ args w, (callFunc 104 args).run Tryz.prog w = .ok (.enter 104 args) w := enters_of Tryz.func104 (by kernel_rfl) rfl
  have hlt := hO.lt 0 rfl
  have hH : Sort.Holds (fun x : Fin nr => rv (x.val : Int)) w ob 0 d := fun j hj => by
   refine ⟨?_, (hO.get 0 rfl).frozen _⟩
   have hj' : j < nr := by omega
   have := hO.cellI 0 rfl (j : Int) (by omega) (by omega)
   rw [hG _ (by omega) (by omega)] at this
   rw [hdi j hj']
   exact this
  have h := Any.slices_SortFunc Tryz.sortRows (fun x : Fin nr => rv (x.val : Int)) h1 (cfR R) (swoR R nr) 104 #[] ob 0 ocap d w eg hcmp.lays hH hlt (by omega)
  change Calls Tryz.prog 103 _ _ _ at h
  rw [hds] at h
  refine h.mono fun e w' ⟨he, d', n, os, hp, hs, hw⟩ => ?_
  have hds' : d'.size = nr := by rw [hp.1, hds]
  have hnd : d.toList.Nodup := by
   rw [List.nodup_iff_pairwise_ne, List.pairwise_iff_getElem]
   intro i j hi hj hij e
   have hi' : i < nr := by simpa [hds] using hi
   have hj' : j < nr := by simpa [hds] using hj
   have a1 := hdi i hi'
   have a2 := hdi j hj'
   rw [getElem!_pos d i (by omega)] at a1
   rw [getElem!_pos d j (by omega)] at a2
   simp only [Array.getElem_toList] at e
   rw [a1, a2] at e
   have := congrArg Fin.val e
   simp at this
   omega
  have hnd' : d'.toList.Nodup := by
   have hpp := hp.2.2
   rw [Array.extract_eq_self_of_le (by omega), Array.extract_eq_self_of_le (by omega)] at hpp
   exact (hpp.nodup_iff).2 hnd
  have hinj : ∀ r s : Int, 0 ≤ r → r < nr → 0 ≤ s → s < nr → ((d'[r.toNat]!).val : Int) = (d'[s.toNat]!).val → r = s := fun r s r0 r1 s0 s1 e => by
   have e' : d'[r.toNat]! = d'[s.toNat]! := Fin.ext (by omega)
   rw [getElem!_pos d' _ (by omega), getElem!_pos d' _ (by omega)] at e'
   have hpw := hnd'
   rw [List.nodup_iff_pairwise_ne, List.pairwise_iff_getElem] at hpw
   have key : ∀ a b : Nat, (ha : a < nr) → (hb : b < nr) → a < b → d'[a]'(by omega) ≠ d'[b]'(by omega) := fun a b ha hb hab => by
    have := hpw a b (by simpa [hds'] using ha) (by simpa [hds'] using hb) hab
    simpa only [Array.getElem_toList] using this
   by_cases c : r < s
   ·exact absurd e' (key r.toNat s.toNat (by omega) (by omega) (by omega))
   ·by_cases c2 : s < r
    ·exact absurd e'.symm (key s.toNat r.toNat (by omega) (by omega) (by omega))
    ·omega
  refine ⟨he, fun r => ((d'[r.toNat]!).val : Int), _, fun r r0 r1 => (show 0 ≤ ((d'[r.toNat]!).val : Int) ∧ ((d'[r.toNat]!).val : Int) < nr from ⟨by omega, by have := (d'[r.toNat]!).2; omega⟩), hinj, fun r r0 r1 => ?_, IRow.ofV hnc hmx fun i i0 i1 => ?_, by rw [hw]; exact hO.sorted n d' os hds' hnc⟩
  ·have hso := hs r.toNat (r + 1).toNat (Nat.zero_le _) (by omega) (by omega)
   unfold ltOf cfR at hso
   have hso := of_decide_eq_false hso
   have hne : R ((d'[r.toNat]!).val : Int) 0 ≠ R ((d'[(r + 1).toNat]!).val : Int) 0 := fun e => by
    have q1 := (d'[r.toNat]!).2
    have q2 := (d'[(r + 1).toNat]!).2
    have := hinj r (r + 1) r0 (by omega) (by omega) (by omega) (hd _ _ (by omega) (by omega) (by omega) (by omega) e)
    omega
   show R ((d'[r.toNat]!).val : Int) 0 < R ((d'[(r + 1).toNat]!).val : Int) 0
   omega
  ·show (if i < (nr : Int) then rv ((d'[i.toNat]!).val : Int) else G i) = rv ((d'[i.toNat]!).val : Int)
   rw [if_pos i1]
end Go.Proofs.YtlldeifbfpmbaaaGreat
set_option maxRecDepth 100000
namespace Go.Proofs.YtlldeifbfpmbaaaGreat
open Go.RowKit Go.Proofs Go.MapKept
def FSrc (H : List (Option Blk)) (ga ba qa : Option Addr) (f : Fair) : Prop := ∀ (B : Nat) (w0 w : World), Own B w0 w H → FAg w.heap.size w ga ba qa f f.m
theorem FSrc.sub {N M : List (Option Blk)} {ga ba qa : Option Addr} {f : Fair} (h : FSrc N ga ba qa f) (hs : N.Sublist M) : FSrc M ga ba qa f := fun B w0 w hO => h B w0 w (hO.sub hs)
theorem FSrc.at {H : List (Option Blk)} {ga ba qa : Option Addr} {f : Fair} (h : FSrc H ga ba qa f) {B : Nat} {w0 w : World} (hO : Own B w0 w H) : FAg w.heap.size w ga ba qa f f.m := h B w0 w hO
theorem FOwn.src {f : Fair} {ga ba qa : Option Addr} {gc bc qc : Nat} {Hg Hb : List (Option Blk)} {cq : Option Blk} (h : FOwn f ga ba qa gc bc qc Hg Hb cq) : FSrc (cq :: (Hg ++ Hb)) ga ba qa f := fun B w0 w hO =>
 ⟨h.g.reads hO.tail, h.b.reads (hO.tail.perm List.perm_append_comm), h.q.reads hO 0 rfl⟩
section
variable (ga ba qa : Option Addr) (n gc m bc nq qc : Nat) (GL BL : Int → Nat) (GE BE : Int → Int → Int) (q : Int → Int) (w : World)
  (hG : RTab w.heap.size w ga n GL GE) (hB : RTab w.heap.size w ba m BL BE) (hQ : IAt w.heap.size w qa nq (fun i => iv (q i)))
include hG hB hQ
end
end Go.Proofs.YtlldeifbfpmbaaaGreat
set_option maxRecDepth 100000
namespace Go.Proofs.YtlldeifbfpmbaaaGreat
open Go.RowKit Go.Proofs Go.MapKept
theorem SRow.cellsE {ao : Option Addr} {m cap b s n : Nat} {E : TypeId} {G : Int → List Value} {c : Option Blk} {B : Nat} {w0 w : World} {H : List (Option Blk)} (h : SRow (.slice ao m cap) E s n G c) (ho : Own B w0 w H) (k : Nat) (hk : H[k]? = some c) (ha : ao = some ⟨b, 0, none⟩) :
  ∀ i : Int, 0 ≤ i → i < n → ∀ fo, fo < s → w.cell? ⟨b, 0 + i.toNat * s + fo, none⟩ = some ((G i).getD fo undef) := fun i i0 i1 => by
 obtain ⟨b', e, r⟩ := h.openS ho k hk
 have := e (by omega)
 rw [ha] at this
 cases this
 exact r i i0 i1
end Go.Proofs.YtlldeifbfpmbaaaGreat
set_option maxRecDepth 100000
namespace Go.Proofs.YtlldeifbfpmbaaaGreat
open Go.RowKit Go.Proofs Go.MapKept
section
variable (ga la : Option Addr) (n gc ln lc : Nat) (L : Int → Nat) (E : Int → Int → Int) (w : World) (hL : ∀ r : Int, 0 ≤ r → r < n → L r ≤ 1000000) (hn : n ≤ 1000000) (h : RTab w.heap.size w ga n L E)
include hL hn h
end
end Go.Proofs.YtlldeifbfpmbaaaGreat
set_option maxRecDepth 100000
namespace Go.Proofs.YtlldeifbfpmbaaaGreat
open Go.RowKit Go.Proofs Go.MapKept
theorem rown_mem {H : List (Option Blk)} {ao : Option Addr} {m cap n : Nat} {T1 T2 : TypeId} {vv : Int → Value} {L : Int → Nat} {F : Int → Int → Int} {c : Option Blk} (hc : c ∈ H) (h2 : IRow (.slice ao m cap) T1 n vv c)
  (h3 : ∀ r : Nat, r < n → ∃ x ∈ H, IRow (vv r) T2 (L r) (fun c => iv (F r c)) x) : ROwn H ao n L F := by
 obtain ⟨k, hk⟩ := List.mem_iff_getElem?.1 hc
 refine rown_of (T1 := T1) (T2 := T2) k hk h2 fun r r0 r1 => ?_
 obtain ⟨q, rfl⟩ := Int.eq_ofNat_of_zero_le r0
 obtain ⟨x, hx, hr⟩ := h3 q (by omega)
 obtain ⟨j, hj⟩ := List.mem_iff_getElem?.1 hx
 exact ⟨j, x, hj, hr⟩
end Go.Proofs.YtlldeifbfpmbaaaGreat
set_option maxRecDepth 100000
namespace Go.Proofs.YtlldeifbfpmbaaaGreat
open Go.RowKit Go.Proofs Go.MapKept
theorem OTab.rown {ao : Option Addr} {m cap n : Nat} {T1 T2 : TypeId} {L : Int → Nat} {F : Int → Int → Int} {H : List (Option Blk)} (h : OTab (.slice ao m cap) T1 T2 n L (fun r c => iv (F r c)) H) : ROwn H ao n L F := by
 obtain ⟨c, rv, ch, rfl, h2, h3⟩ := h
 exact rown_mem (T1 := T1) (T2 := T2) (.head _) h2 fun r hr => ⟨ch r, .tail _ (List.mem_map.2 ⟨r, List.mem_range.2 hr, rfl⟩), h3 r hr⟩
theorem ROwn.addr {H : List (Option Blk)} {oa : Option Addr} {n : Nat} {L : Int → Nat} {R : Int → Int → Int} (h : ROwn H oa n L R) {B : Nat} {w0 w : World} (hO : Own B w0 w H) (hn : 0 < n) :
  ∃ (A : Int → Option Addr) (C : Int → Nat) (b off : Nat), oa = some ⟨b, off, none⟩ ∧ ∀ {B : Nat} {w0 w : World}, Own B w0 w H → (∀ i : Int, 0 ≤ i → i < n → w.cell? ⟨b, off + i.toNat, none⟩ = some (.slice (A i) (L i) (C i))) ∧ ∀ r : Int, 0 ≤ r → r < n → IAt w.heap.size w (A r) (L r) (fun c => iv (R r c)) := by
 obtain ⟨A, C, h1, h2⟩ := h
 obtain ⟨b, off, e, _⟩ := (h2 B w0 w hO).1.open
 have e1 := e hn
 refine ⟨A, C, b, off, e1, fun {B' w0' w'} hO' => ⟨fun i i0 i1 => ?_, (h2 B' w0' w' hO').2⟩⟩
 obtain ⟨b', off', e', r⟩ := (h2 B' w0' w' hO').1.open
 have e2 := e' hn
 rw [e1] at e2
 cases e2
 exact r _ (Below.refl _ _) i i0 i1
end Go.Proofs.YtlldeifbfpmbaaaGreat
