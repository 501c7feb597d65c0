import Derived.Test.YtlldeifbfpmbaaaGreatPrw
import Derived.Test.YtlldeifbfpmbaaaGreatHeld
import Derived.Test.YtlldeifbfpmbaaaGreatFbJ
import Derived.Laws.StructEq
import Derived.Shelf.SlSortCmp.NoneTotal
import Derived.Test.YtlldeifbfpmbaaaGreatFcF
import Derived.Shelf.Lay
import Derived.Ground.SlsfProg
set_option maxRecDepth 100000
namespace Go.Proofs.YtlldeifbfpmbaaaGreat
open Go.RowKit Go.Proofs
theorem OTab.get9 {B : Nat} {w0 w : World} {v : Value} {T1 T2 : TypeId} {n : Nat} {L : Int → Nat} {F : Int → Int → Value} {H R : List (Option Blk)} (h : OTab v T1 T2 n L F H) (ho : Own B w0 w (H ++ R)) (i : Nat) (hi : i < n) :
  ∃ (c : Option Blk) (rv : Int → Value) (ch : Nat → Option Blk), IRow v T1 n rv c ∧ (∀ r : Nat, r < n → IRow (rv r) T2 (L r) (F r) (ch r)) ∧ Own B w0 w (ch i :: c :: (((List.range n).erase i).map ch ++ R)) := by
 obtain ⟨c, rv, ch, rfl, h2, h3⟩ := h
 refine ⟨c, rv, ch, h2, h3, ho.perm ?_⟩
 have p := (List.perm_cons_erase (List.mem_range.2 hi)).map ch
 exact ((p.append_right R).cons c).trans (List.Perm.swap _ _ _)
theorem OTab.put9 {B : Nat} {w0 w : World} {v x : Value} {T1 T2 : TypeId} {n m : Nat} {L : Int → Nat} {F : Int → Int → Value} {G : Int → Value} {R : List (Option Blk)} {c cr : Option Blk} {rv : Int → Value} {ch : Nat → Option Blk} (i : Nat) (hi : i < n)
  (hv : IRow v T1 n (upd rv i x) c) (h3 : ∀ r : Nat, r < n → IRow (rv r) T2 (L r) (F r) (ch r)) (hx : IRow x T2 m G cr) (ho : Own B w0 w (cr :: c :: (((List.range n).erase i).map ch ++ R))) :
  ∃ H, OTab v T1 T2 n (upd L i m) (upd F i G) H ∧ Own B w0 w (H ++ R) := by
 refine ⟨_, ⟨c, _, fun r => if r = i then cr else ch r, rfl, hv, fun r hr => ?_⟩, ho.perm ?_⟩
 ·show IRow _ _ _ _ (if r = i then cr else ch r)
  by_cases e : r = i
  ·subst e; rw [upd_same, upd_same, upd_same, if_pos rfl]; exact hx
  ·rw [upd_ne _ _ (by omega), upd_ne _ _ (by omega), upd_ne _ _ (by omega), if_neg e]; exact h3 r hr
 ·have p := (List.perm_cons_erase (List.mem_range.2 hi)).map (fun r => if r = i then cr else ch r)
  have e : ((List.range n).erase i).map (fun r => if r = i then cr else ch r) = ((List.range n).erase i).map ch := List.map_congr_left fun r hr => by
   have : r ≠ i := fun e => by rw [e] at hr; exact (List.Nodup.not_mem_erase List.nodup_range) hr
   exact if_neg this
  simp only [List.map_cons, if_true, e] at p
  exact (List.Perm.swap _ _ _).trans ((p.symm.append_right R).cons c)
theorem OTab.set9 {B : Nat} {w0 w : World} {v x : Value} {T1 T2 : TypeId} {n : Nat} {L : Int → Nat} {F : Int → Int → Value} {G : Int → Value} {R : List (Option Blk)} {c cr : Option Blk} {rv : Int → Value} {ch : Nat → Option Blk} (i : Nat) (hi : i < n)
  (hv : IRow v T1 n rv c) (h3 : ∀ r : Nat, r < n → IRow (rv r) T2 (L r) (F r) (ch r)) (ex : rv i = x) (hx : IRow x T2 (L i) G cr) (ho : Own B w0 w (cr :: c :: (((List.range n).erase i).map ch ++ R))) :
  ∃ H, OTab v T1 T2 n L (upd F i G) H ∧ Own B w0 w (H ++ R) := by
 have e1 : upd rv (i : Int) x = rv := by
  funext j
  unfold upd
  split
  ·rename_i e; rw [e, ex]
  ·rfl
 have e2 : upd L (i : Int) (L i) = L := by
  funext j
  unfold upd
  split
  ·rename_i e; rw [e]
  ·rfl
 have h := OTab.put9 (x := x) (m := L i) i hi (by rw [e1]; exact hv) h3 hx ho
 rw [e2] at h
 exact h
end Go.Proofs.YtlldeifbfpmbaaaGreat
set_option maxRecDepth 100000
namespace Go.Proofs.YtlldeifbfpmbaaaGreat
open Go.RowKit Go.Proofs
theorem Own.nones {B : Nat} {w0 w : World} {H : List (Option Blk)} (h : Own B w0 w H) : ∀ n : Nat, Own B w0 w (List.replicate n none ++ H)
 | 0 => h
 | n + 1 => (h.nones n).nil_cons
theorem OTab.congr2 {v : Value} {T1 T2 : TypeId} {n : Nat} {L L' : Int → Nat} {F G : Int → Int → Value} {H : List (Option Blk)} (h : OTab v T1 T2 n L F H) (hL : ∀ r : Int, 0 ≤ r → r < n → L r = L' r) (e : ∀ r c : Int, 0 ≤ r → r < n → 0 ≤ c → c < L r → F r c = G r c) : OTab v T1 T2 n L' G H := by
 obtain ⟨c, rv, ch, h1, h2, h3⟩ := h
 exact ⟨c, rv, ch, h1, h2, fun r hr => by rw [← hL r (by omega) (by omega)]; exact (h3 r hr).congr (fun i h0 hi => e r i (by omega) (by omega) h0 hi)⟩
theorem OTab.nils (b : Nat) (T1 T2 : TypeId) (n : Nat) (G : Int → Value) (F : Int → Int → Value) (hn : n ≤ maxLen) (hG : ∀ i : Int, 0 ≤ i → i < n → G i = .slice none 0 0) : OTab (.slice (some ⟨b, 0, none⟩) n n) T1 T2 n (fun _ => 0) F (some (vch b T1 n G) :: (List.range n).map fun _ => none) :=
 ⟨_, fun _ => .slice none 0 0, fun _ => none, rfl, IRow.ofV (Nat.le_refl _) hn hG, fun _ _ => IRow.nil _ _⟩
end Go.Proofs.YtlldeifbfpmbaaaGreat
set_option maxRecDepth 100000
namespace Go.Proofs.YtlldeifbfpmbaaaGreat
open Go.RowKit Go.Proofs Go.MapKept
def RiseR (nr : Nat) (R : Int → Int → Int) : Prop := ∀ r s : Int, 0 ≤ r → r < s → s < nr → R r 0 < R s 0
theorem riseR_of {nr : Nat} {R : Int → Int → Int} (h : ∀ r : Int, 0 ≤ r → r + 1 < nr → R r 0 < R (r + 1) 0) : RiseR nr R := fun r s r0 hrs hs => by
 obtain ⟨d, rfl⟩ : ∃ d : Nat, s = r + 1 + d := ⟨(s - r - 1).toNat, by omega⟩
 clear hrs
 induction d with
 | zero => rw [show r + 1 + ((0 : Nat) : Int) = r + 1 by omega] at hs ⊢; exact h r r0 hs
 | succ d ih =>
  have h1 := ih (by omega)
  have h2 := h (r + 1 + d) (by omega) (by omega)
  rw [show r + 1 + ((d + 1 : Nat) : Int) = r + 1 + d + 1 by omega]
  omega
end Go.Proofs.YtlldeifbfpmbaaaGreat
set_option maxRecDepth 100000
namespace Go.Proofs.YtlldeifbfpmbaaaGreat
open Go.RowKit Go.Proofs
theorem heap_sort {α : Type} [Inhabited α] (enc : α → Value) (w : World) (ob n : Nat) (d : Array α) (os : Array Obj) {k : Nat} (hk : k < w.heap.size) (hne : k ≠ ob) : (sortWorld enc w ob 0 n d os).heap[k]? = w.heap[k]? := by
 unfold sortWorld
 rw [Sort.heap_grow_old _ _ (by rw [Sort.size_putRow]; exact hk)]
 unfold Sort.putRow Sort.mapBlock
 show (w.heap.modify ob _)[k]? = _
 rw [Array.getElem?_modify, if_neg (fun e => hne e.symm)]
theorem size_sort {α : Type} [Inhabited α] (enc : α → Value) (w : World) (ob n : Nat) (d : Array α) (os : Array Obj) : w.heap.size ≤ (sortWorld enc w ob 0 n d os).heap.size := by
 unfold sortWorld
 rw [Sort.size_grow, Sort.size_putRow]
 exact Nat.le_add_right _ _
theorem Own.sorted {α : Type} [Inhabited α] {enc : α → Value} {B : Nat} {w0 w : World} {H : List (Option Blk)} {ob cap nr : Nat} {E : TypeId} {G : Int → Value} (hO : Own B w0 w (some (vch ob E cap G) :: H)) (n : Nat) (d : Array α) (os : Array Obj) (hs : d.size = nr) (hc : nr ≤ cap) :
  Own B w0 (sortWorld enc w ob 0 n d os) (some (vch ob E cap (fun i => if i < nr then enc d[i.toNat]! else G i)) :: H) := by
 have hge : B ≤ ob := hO.ge _ (List.mem_cons_self ..)
 have hb := hO.get 0 rfl
 have hlt := hO.lt 0 rfl
 refine hO.updBB 0 rfl ⟨rfl, rfl, rfl, size_sort .., fun k hk => heap_sort enc w ob n d os (Nat.lt_trans (Nat.lt_of_lt_of_le hk hge) hlt) (by omega)⟩ (fun j hj hne => heap_sort enc w ob n d os hj hne) ?_ hge (.inl rfl)
 obtain ⟨c, h1, h2, h3⟩ := hb
 refine blkIs.of_row rfl ⟨Sort.putCells enc 0 d c, ?_, ?_, fun i hi => ?_⟩
 ·unfold sortWorld
  rw [Sort.heap_grow_old _ _ (by rw [Sort.size_putRow]; exact hlt)]
  unfold Sort.putRow Sort.mapBlock
  show (w.heap.modify ob _)[ob]? = _
  rw [Array.getElem?_modify, if_pos rfl]
  show (w.heap[ob]?).map _ = _
  have h1' : w.heap[ob]? = some (.cells c E (0, 0)) := h1
  rw [h1']
  rfl
 ·unfold Sort.putCells
  rw [Array.size_mapIdx]; exact h2
 ·have hi' : i < cap := hi
  have h4 : c[i]? = some (G i) := h3 i hi
  unfold Sort.putCells
  rw [Array.getElem?_mapIdx, h4]
  show some (if 0 ≤ i ∧ i < 0 + d.size then enc d[i - 0]! else G i) = some (if (i : Int) < nr then enc d[(i : Int).toNat]! else G i)
  by_cases e : i < nr
  ·rw [if_pos ⟨Nat.zero_le _, by omega⟩, if_pos (by omega)]; rfl
  ·rw [if_neg (by omega), if_neg (by omega)]
end Go.Proofs.YtlldeifbfpmbaaaGreat
set_option maxRecDepth 100000
namespace Go.Proofs.YtlldeifbfpmbaaaGreat
open Go.RowKit Go.Proofs Go.MapKept
theorem first_any (ba bb na ca nb cb : Nat) (u v : Int) (W : World) (hu : W.cell? ⟨ba, 0, none⟩ = some (iv u)) (hv : W.cell? ⟨bb, 0, none⟩ = some (iv v)) (ha : 1 ≤ na) (hb : 1 ≤ nb) (hu1 : 0 ≤ u ∧ u ≤ 1000) (hv1 : 0 ≤ v ∧ v ≤ 1000) :
  Calls Tryz.prog 104 #[.slice (some ⟨ba, 0, none⟩) na ca, .slice (some ⟨bb, 0, none⟩) nb cb] W fun e w' => e = .returned (iv (u - v)) ∧ ∃ q, w' = W.drewN q := by
 obtain ⟨w, hw⟩ : ∃ w, w = W := ⟨_, rfl⟩
 rw [← hw] at hu hv ⊢
 refine calls_of_run (F := [(0, _), (1, _)]) Tryz.func104 rfl Tryz.ntmps104 rfl rfl ?_
 have hO0 := Own.init w
 refine run_seq <| run_region <| rl_v rfl rfl rfl (ov_assign rfl rfl) <| rl_nil <| run_seq <| run_class (fun w' => ∃ q, w' = w.drewN q) (⟨1, rfl⟩) mixed (by kernel_rfl) ?_
 refine rk_v rfl rfl rfl (fun wq hQ => ov_move rfl rfl) ?_
 refine rk_v rfl rfl rfl (fun wq hQ => ov_index1 rfl Tryz.underlying23 (by kernel_rfl) rfl rfl ⟨by omega, by omega⟩ rfl) ?_
 refine rk_v rfl rfl rfl (fun wq hQ => ov_load rfl Tryz.underlying3 rfl rfl (by exact (by obtain ⟨q, e⟩ := hQ; rw [e]; exact hu))) ?_
 refine rk_v rfl rfl rfl (fun wq hQ => ov_move rfl rfl) ?_
 refine rk_v rfl rfl rfl (fun wq hQ => ov_index1 rfl Tryz.underlying23 (by kernel_rfl) rfl rfl ⟨by omega, by omega⟩ rfl) ?_
 refine rk_v rfl rfl rfl (fun wq hQ => ov_load rfl Tryz.underlying3 rfl rfl (by exact (by obtain ⟨q, e⟩ := hQ; rw [e]; exact hv))) ?_
 refine rk_v rfl rfl rfl (fun wq hQ => ov_sub rfl rfl rfl (by omega)) ?_
 refine rk_v rfl rfl rfl (fun wq hQ => ov_assign rfl rfl) ?_
 refine rk_nil (fun w1 hQ => ?_)
 refine run_ret Tryz.func104 (res1 Tryz.results104 rfl) ?_
 exact ⟨rfl, hQ⟩
def Tryz.sortRows_ren : Go.Shelf.Ren := ⟨fun | 6 => 103 | 15 => 123 | 14 => 124 | 28 => 144 | 29 => 145 | 20 => 146 | 21 => 147 | 22 => 148 | 23 => 149 | 24 => 150 | 25 => 151 | 26 => 152 | 27 => 153 | 46 => 162 | 47 => 157 | 48 => 158 | 49 => 163 | 50 => 164 | 57 => 168 | n => n, fun | 22 => 22 | 24 => 23 | 25 => 158 | 3 => 3 | 39 => 49 | 0 => 0 | 53 => 196 | 55 => 106 | 4 => 4 | 46 => 206 | 45 => 205 | 50 => 177 | 5 => 5 | 9 => 9 | 66 => 219 | 70 => 223 | 76 => 229 | 77 => 230 | n => n, fun | n => n⟩
theorem Tryz.sortRows : Go.Proofs.SlLaysF.n6 Tryz.prog Tryz.sortRows_ren := {
  mixed := by kernel_rfl
  f6 := ⟨Tryz.f103.name, by decide, Tryz.func103.trans (congrArg some (by kernel_rfl))⟩
  f14 := ⟨Tryz.f124.name, by decide, Tryz.func124.trans (congrArg some (by kernel_rfl))⟩
  f15 := Tryz.func123.trans (congrArg some (by kernel_rfl))
  f20 := ⟨Tryz.f146.name, by decide, Tryz.func146.trans (congrArg some (by kernel_rfl))⟩
  f21 := ⟨Tryz.f147.name, by decide, Tryz.func147.trans (congrArg some (by kernel_rfl))⟩
  f22 := ⟨Tryz.f148.name, by decide, Tryz.func148.trans (congrArg some (by kernel_rfl))⟩
  f23 := ⟨Tryz.f149.name, by decide, Tryz.func149.trans (congrArg some (by kernel_rfl))⟩
  f24 := ⟨Tryz.f150.name, by decide, Tryz.func150.trans (congrArg some (by kernel_rfl))⟩
  f25 := ⟨Tryz.f151.name, by decide, Tryz.func151.trans (congrArg some (by kernel_rfl))⟩
  f26 := ⟨Tryz.f152.name, by decide, Tryz.func152.trans (congrArg some (by kernel_rfl))⟩
  f27 := ⟨Tryz.f153.name, by decide, Tryz.func153.trans (congrArg some (by kernel_rfl))⟩
  f28 := Tryz.func144.trans (congrArg some (by kernel_rfl))
  f29 := Tryz.func145.trans (congrArg some (by kernel_rfl))
  f46 := ⟨Tryz.f162.name, by decide, Tryz.func162.trans (congrArg some (by kernel_rfl))⟩
  f47 := Tryz.func157.trans (congrArg some (by kernel_rfl))
  f48 := Tryz.func158.trans (congrArg some (by kernel_rfl))
  f49 := ⟨Tryz.f163.name, by decide, Tryz.func163.trans (congrArg some (by kernel_rfl))⟩
  f50 := ⟨Tryz.f164.name, by decide, Tryz.func164.trans (congrArg some (by kernel_rfl))⟩
  f57 := ⟨Tryz.f168.name, by decide, Tryz.func168.trans (congrArg some (by kernel_rfl))⟩
  t0 := Tryz.underlying0
  a0 := Tryz.isAgg0
  z0 := Tryz.sizeOf0
  v0 := Tryz.zeroValue0
  t3 := Tryz.underlying3
  a3 := Tryz.isAgg3
  z3 := Tryz.sizeOf3
  v3 := Tryz.zeroValue3
  t4 := Tryz.underlying4
  a4 := Tryz.isAgg4
  z4 := Tryz.sizeOf4
  v4 := Tryz.zeroValue4
  t5 := Tryz.underlying5
  a5 := Tryz.isAgg5
  z5 := Tryz.sizeOf5
  v5 := Tryz.zeroValue5
  t9 := Tryz.underlying9
  a9 := Tryz.isAgg9
  z9 := Tryz.sizeOf9
  v9 := Tryz.zeroValue9
  t22 := Tryz.underlying22
  a22 := Tryz.isAgg22
  z22 := Tryz.sizeOf22
  v22 := Tryz.zeroValue22
  a24 := Tryz.isAgg23
  z24 := Tryz.sizeOf23
  t25 := Tryz.underlying158
  a25 := Tryz.isAgg158
  z25 := Tryz.sizeOf158
  v25 := Tryz.zeroValue158
  t39 := Tryz.underlying49
  a39 := Tryz.isAgg49
  z39 := Tryz.sizeOf49
  v39 := Tryz.zeroValue49
  t45 := Tryz.underlying205
  a45 := Tryz.isAgg205
  z45 := Tryz.sizeOf205
  v45 := Tryz.zeroValue205
  t46 := Tryz.underlying206
  a46 := Tryz.isAgg206
  z46 := Tryz.sizeOf206
  v46 := Tryz.zeroValue206
  t50 := Tryz.underlying177
  a50 := Tryz.isAgg177
  z50 := Tryz.sizeOf177
  v50 := Tryz.zeroValue177
  t53 := Tryz.underlying196
  a53 := Tryz.isAgg196
  z53 := Tryz.sizeOf196
  v53 := Tryz.zeroValue196
  t55 := Tryz.underlying106
  a55 := Tryz.isAgg106
  z55 := Tryz.sizeOf106
  v55 := Tryz.zeroValue106
  t66 := Tryz.underlying219
  a66 := Tryz.isAgg219
  z66 := Tryz.sizeOf219
  v66 := Tryz.zeroValue219
  t70 := Tryz.underlying223
  a70 := Tryz.isAgg223
  z70 := Tryz.sizeOf223
  v70 := Tryz.zeroValue223
  t76 := Tryz.underlying229
  a76 := Tryz.isAgg229
  z76 := Tryz.sizeOf229
  v76 := Tryz.zeroValue229
  t77 := Tryz.underlying230
  a77 := Tryz.isAgg230
  z77 := Tryz.sizeOf230
  v77 := Tryz.zeroValue230 }
def cfR (R : Int → Int → Int) {nr : Nat} (x y : Fin nr) : Int := R (x.val : Int) 0 - R (y.val : Int) 0
theorem swoR (R : Int → Int → Int) (nr : Nat) : Sort.SWO (ltOf (cfR R (nr := nr))) where
 irrefl x := by unfold ltOf cfR; exact decide_eq_false (by omega)
 trans x y z h1 h2 := by
  unfold ltOf cfR at *
  have h1 := of_decide_eq_true h1
  have h2 := of_decide_eq_true h2
  exact decide_eq_true (by omega)
 ntrans x y z h1 h2 := by
  unfold ltOf cfR at *
  have h1 := of_decide_eq_false h1
  have h2 := of_decide_eq_false h2
  exact decide_eq_false (by omega)
theorem sortRows_all : SortRows := by
 intro B w0 w oa nr ocap Lr R rv ch co T hn hk hd hro hch hO
 by_cases h0 : nr = 0
 ·subst h0
  have h := AnyF.slices_SortFunc_none { Tryz.sortRows with } oa ocap (.func (.func 104) #[] #[]) w
  change Calls Tryz.prog 103 _ _ _ at h
  exact h.mono fun e w' ⟨h1, h2⟩ => ⟨h1, fun r => r, co, fun r r0 r1 => by omega, fun r s r0 r1 => by omega, fun r r0 r1 => by omega, hro, by rw [h2]; exact hO⟩
 ·obtain ⟨ob, G, rfl, hnc, hmx, rfl, hG⟩ := hro.asV (by omega)
  haveI : Inhabited (Fin nr) := ⟨⟨0, by omega⟩⟩
  obtain ⟨d, hd0⟩ : ∃ d : Array (Fin nr), d = Array.ofFn fun i => i := ⟨_, rfl⟩
  have hds : d.size = nr := by rw [hd0]; simp
  have hdi : ∀ (j : Nat) (hj : j < nr), d[j]! = ⟨j, hj⟩ := fun j hj => by
   rw [getElem!_pos d j (by omega)]
   subst hd0
   simp
  have hrow : ∀ x : Fin nr, ∃ b cp, rv (x.val : Int) = .slice (some ⟨b, 0, none⟩) (Lr (x.val : Int)) cp ∧ w.cell? ⟨b, 0, none⟩ = some (iv (R (x.val : Int) 0)) ∧ b ≠ ob ∧ b < w.heap.size := fun x => by
   obtain ⟨x, hx⟩ := x
   have h := hch x hx
   have hl := (hk x (by omega) (by omega)).1
   obtain ⟨a, cp, e⟩ := Row.val h
   have hkx : (some (vch ob 23 ocap G) :: ((List.range nr).map ch ++ T))[x + 1]? = some (ch x) := by simp [List.getElem?_append, hx]
   rw [e] at h
   obtain ⟨b, G', rfl, h1, h2, h3, h4⟩ := h.asV hl
   rw [h3] at hkx
   refine ⟨b, cp, e, ?_, fun eb => ?_, hO.lt (x + 1) hkx⟩
   ·have := hO.cellI (x + 1) hkx 0 (by omega) (by omega)
    rw [h4 0 (by omega) (by omega)] at this
    exact this
   ·have hp := (List.pairwise_cons.1 hO.nd).1 _ (List.mem_of_getElem? (by simpa using hkx) : some (vch b 3 cp G') ∈ (List.range nr).map ch ++ T)
    exact hp _ _ rfl rfl eb.symm
  have hcmp : CmpReads Tryz.prog 104 #[] (fun x : Fin nr => rv (x.val : Int)) (cfR R) ob 0 d.size w := fun m os dk _ x y => by
   obtain ⟨b, cp, e1, e2, e3, e4⟩ := hrow x
   obtain ⟨b', cp', e1', e2', e3', e4'⟩ := hrow y
   have kx := hk (x.val : Int) (by omega) (by omega)
   have ky := hk (y.val : Int) (by omega) (by omega)
   have h := first_any b b' (Lr (x.val : Int)) cp (Lr (y.val : Int)) cp' (R (x.val : Int) 0) (R (y.val : Int) 0) (sortWorld (fun x : Fin nr => rv (x.val : Int)) w ob 0 m dk os) (by rw [← e2]; simp only [World.cell?, heap_sort _ w ob m dk os e4 e3]) (by rw [← e2']; simp only [World.cell?, heap_sort _ w ob m dk os e4' e3']) kx.1 ky.1 kx.2 ky.2
   rw [Array.append_empty]
   show Calls _ _ #[rv (x.val : Int), rv (y.val : Int)] _ _
   rw [e1, e1']
   exact h
  have h1 : OneCell (fun x : Fin nr => rv (x.val : Int)) := fun x => by
   obtain ⟨b, cp, e, _⟩ := hrow x
   show (rv (x.val : Int)).oneCell' = true
   rw [e]; rfl
  have eg : ∀ args w, (callFunc 104 args).run Tryz.prog w = .ok (.enter 104 args) w := enters_of Tryz.func104 (by kernel_rfl) rfl
  have hlt := hO.lt 0 rfl
  have hH : Sort.Holds (fun x : Fin nr => rv (x.val : Int)) w ob 0 d := fun j hj => by
   refine ⟨?_, (hO.get 0 rfl).frozen _⟩
   have hj' : j < nr := by omega
   have := hO.cellI 0 rfl (j : Int) (by omega) (by omega)
   rw [hG _ (by omega) (by omega)] at this
   rw [hdi j hj']
   exact this
  have h := Any.slices_SortFunc Tryz.sortRows (fun x : Fin nr => rv (x.val : Int)) h1 (cfR R) (swoR R nr) 104 #[] ob 0 ocap d w eg hcmp.lays hH hlt (by omega)
  change Calls Tryz.prog 103 _ _ _ at h
  rw [hds] at h
  refine h.mono fun e w' ⟨he, d', n, os, hp, hs, hw⟩ => ?_
  have hds' : d'.size = nr := by rw [hp.1, hds]
  have hnd : d.toList.Nodup := by
   rw [List.nodup_iff_pairwise_ne, List.pairwise_iff_getElem]
   intro i j hi hj hij e
   have hi' : i < nr := by simpa [hds] using hi
   have hj' : j < nr := by simpa [hds] using hj
   have a1 := hdi i hi'
   have a2 := hdi j hj'
   rw [getElem!_pos d i (by omega)] at a1
   rw [getElem!_pos d j (by omega)] at a2
   simp only [Array.getElem_toList] at e
   rw [a1, a2] at e
   have := congrArg Fin.val e
   simp at this
   omega
  have hnd' : d'.toList.Nodup := by
   have hpp := hp.2.2
   rw [Array.extract_eq_self_of_le (by omega), Array.extract_eq_self_of_le (by omega)] at hpp
   exact (hpp.nodup_iff).2 hnd
  have hinj : ∀ r s : Int, 0 ≤ r → r < nr → 0 ≤ s → s < nr → ((d'[r.toNat]!).val : Int) = (d'[s.toNat]!).val → r = s := fun r s r0 r1 s0 s1 e => by
   have e' : d'[r.toNat]! = d'[s.toNat]! := Fin.ext (by omega)
   rw [getElem!_pos d' _ (by omega), getElem!_pos d' _ (by omega)] at e'
   have hpw := hnd'
   rw [List.nodup_iff_pairwise_ne, List.pairwise_iff_getElem] at hpw
   have key : ∀ a b : Nat, (ha : a < nr) → (hb : b < nr) → a < b → d'[a]'(by omega) ≠ d'[b]'(by omega) := fun a b ha hb hab => by
    have := hpw a b (by simpa [hds'] using ha) (by simpa [hds'] using hb) hab
    simpa only [Array.getElem_toList] using this
   by_cases c : r < s
   ·exact absurd e' (key r.toNat s.toNat (by omega) (by omega) (by omega))
   ·by_cases c2 : s < r
    ·exact absurd e'.symm (key s.toNat r.toNat (by omega) (by omega) (by omega))
    ·omega
  refine ⟨he, fun r => ((d'[r.toNat]!).val : Int), _, fun r r0 r1 => (show 0 ≤ ((d'[r.toNat]!).val : Int) ∧ ((d'[r.toNat]!).val : Int) < nr from ⟨by omega, by have := (d'[r.toNat]!).2; omega⟩), hinj, fun r r0 r1 => ?_, IRow.ofV hnc hmx fun i i0 i1 => ?_, by rw [hw]; exact hO.sorted n d' os hds' hnc⟩
  ·have hso := hs r.toNat (r + 1).toNat (Nat.zero_le _) (by omega) (by omega)
   unfold ltOf cfR at hso
   have hso := of_decide_eq_false hso
   have hne : R ((d'[r.toNat]!).val : Int) 0 ≠ R ((d'[(r + 1).toNat]!).val : Int) 0 := fun e => by
    have q1 := (d'[r.toNat]!).2
    have q2 := (d'[(r + 1).toNat]!).2
    have := hinj r (r + 1) r0 (by omega) (by omega) (by omega) (hd _ _ (by omega) (by omega) (by omega) (by omega) e)
    omega
   show R ((d'[r.toNat]!).val : Int) 0 < R ((d'[(r + 1).toNat]!).val : Int) 0
   omega
  ·show (if i < (nr : Int) then rv ((d'[i.toNat]!).val : Int) else G i) = rv ((d'[i.toNat]!).val : Int)
   rw [if_pos i1]
end Go.Proofs.YtlldeifbfpmbaaaGreat
