import Derived.WalkKit
import Derived.WalkSpells
import Derived.WalkLawsBesides
import Derived.Deep.LoopGhost
import Derived.Deep.OwnRows
import Derived.Handy
namespace Go.Proofs.YtbcjfjldmfljgaaGreat
open Go.RowKit
def RAt (B : Nat) (w : World) (ao : Option Addr) (n : Nat) (f : Nat → Value) : Prop :=
 ∃ b off, (0 < n → ao = some ⟨b, off, none⟩) ∧ (0 < n → b < B) ∧ ∀ i, i < n → w.cell? ⟨b, off + i, none⟩ = some (f i)
theorem RAt.mono {B B' : Nat} {w : World} {ao : Option Addr} {n : Nat} {f : Nat → Value} (h : RAt B w ao n f) (hB : B ≤ B') : RAt B' w ao n f := by
 obtain ⟨b, off, h1, h2, h3⟩ := h
 exact ⟨b, off, h1, fun hn => Nat.lt_of_lt_of_le (h2 hn) hB, h3⟩
theorem RAt.below {B : Nat} {w w' : World} {ao : Option Addr} {n : Nat} {f : Nat → Value} (h : RAt B w ao n f) (hb : Below B w w') : RAt B w' ao n f := by
 obtain ⟨b, off, h1, h2, h3⟩ := h
 exact ⟨b, off, h1, h2, fun i hi => by rw [hb.cell (p := ⟨b, off + i, none⟩) (h2 (by omega))]; exact h3 i hi⟩
theorem RAt.congr {B : Nat} {w : World} {ao : Option Addr} {n : Nat} {f g : Nat → Value} (h : RAt B w ao n f) (e : ∀ i, i < n → f i = g i) : RAt B w ao n g := by
 obtain ⟨b, off, h1, h2, h3⟩ := h
 exact ⟨b, off, h1, h2, fun i hi => by rw [h3 i hi, e i hi]⟩
theorem RAt.nil (B : Nat) (w : World) (ao : Option Addr) (f : Nat → Value) : RAt B w ao 0 f :=
 ⟨0, 0, fun h => absurd h (Nat.lt_irrefl _), fun h => absurd h (Nat.lt_irrefl _), fun _ hi => absurd hi (Nat.not_lt_zero _)⟩
structure Blk where
 b : Nat
 t : TypeId
 n : Nat
 f : Nat → Value
 /-- A map or another object as it lies; a row of cells otherwise. -/
 m : Option Obj
def Blk.put (x : Blk) (i : Nat) (v : Value) : Blk := { x with f := fun j => if j = i then v else x.f j }
def World.blkIs (w : World) (x : Blk) : Prop := match x.m with
 | none => w.rowIs x.b x.t x.n x.f
 | some o => w.heap[x.b]? = some o
theorem blkIs.lt {w : World} {x : Blk} (h : World.blkIs w x) : x.b < w.heap.size := by
 unfold World.blkIs at h
 split at h
 ·exact h.lt
 ·refine Classical.byContradiction fun hx => ?_
  rw [Array.getElem?_eq_none (by omega)] at h
  cases h
theorem blkIs.of_block {w w' : World} {x : Blk} (h : World.blkIs w x) (e : w'.heap[x.b]? = w.heap[x.b]?) : World.blkIs w' x := by
 unfold World.blkIs at h ⊢
 split
 ·rename_i hm; rw [hm] at h; exact h.of_block e
 ·rename_i p hm; rw [hm] at h; rw [e]; exact h
theorem blkIs.drew {w : World} {x : Blk} (h : World.blkIs w x) : World.blkIs w.drew x := by
 unfold World.blkIs at h ⊢
 split
 ·rename_i hm; rw [hm] at h; exact h.drew
 ·rename_i p hm; rw [hm] at h; exact h
theorem blkIs.row {w : World} {x : Blk} (h : World.blkIs w x) (hm : x.m = none) : w.rowIs x.b x.t x.n x.f := by
 unfold World.blkIs at h
 rw [hm] at h; exact h
theorem blkIs.of_row {w : World} {x : Blk} (hm : x.m = none) (h : w.rowIs x.b x.t x.n x.f) : World.blkIs w x := by
 unfold World.blkIs
 rw [hm]; exact h
structure Own (B : Nat) (w0 w : World) (H : List (Option Blk)) : Prop where
 below : Below B w0 w
 hB : B ≤ w0.heap.size
 ge : ∀ x, some x ∈ H → B ≤ x.b
 nd : H.Pairwise (fun x y => ∀ a b, x = some a → y = some b → a.b ≠ b.b)
 at_ : ∀ x, some x ∈ H → World.blkIs w x
namespace Own
variable {B : Nat} {w0 w w' : World} {H : List (Option Blk)}
theorem init (w : World) : Own w.heap.size w w [] :=
 ⟨Below.refl _ _, Nat.le_refl _, by simp, .nil, by simp⟩
theorem size (h : Own B w0 w H) : B ≤ w.heap.size := Nat.le_trans h.hB h.below.size
theorem gets (h : Own B w0 w H) (k : Nat) {x : Blk} (hk : H[k]? = some (some x)) : World.blkIs w x := h.at_ x (List.mem_of_getElem? hk)
theorem get (h : Own B w0 w H) (k : Nat) {x : Blk} (hk : H[k]? = some (some x)) (hm : x.m = none := by rfl) : w.rowIs x.b x.t x.n x.f :=
 blkIs.row (h.at_ x (List.mem_of_getElem? hk)) hm
theorem cell (h : Own B w0 w H) (k : Nat) {x : Blk} (hk : H[k]? = some (some x)) (i : Nat) (hi : i < x.n) (hm : x.m = none := by rfl) : w.cell? ⟨x.b, i, none⟩ = some (x.f i) :=
 (h.get k hk hm).cell hi
theorem lt (h : Own B w0 w H) (k : Nat) {x : Blk} (hk : H[k]? = some (some x)) : x.b < w.heap.size := blkIs.lt (h.gets k hk)
theorem old {ao : Option Addr} {n : Nat} {f : Nat → Value} (h : Own B w0 w H) (hr : RAt B w0 ao n f) : RAt B w ao n f := hr.below h.below
theorem drew (h : Own B w0 w H) : Own B w0 w.drew H :=
 ⟨h.below.drew, h.hB, h.ge, h.nd, fun x hx => blkIs.drew (h.at_ x hx)⟩
theorem tail {x : Option Blk} (h : Own B w0 w (x :: H)) : Own B w0 w H :=
 ⟨h.below, h.hB, fun y hy => h.ge y (List.mem_cons_of_mem _ hy), (List.pairwise_cons.1 h.nd).2, fun y hy => h.at_ y (List.mem_cons_of_mem _ hy)⟩
theorem sub {H' : List (Option Blk)} (h : Own B w0 w H) (hs : H'.Sublist H) : Own B w0 w H' :=
 ⟨h.below, h.hB, fun y hy => h.ge y (hs.subset hy), h.nd.sublist hs, fun y hy => h.at_ y (hs.subset hy)⟩
theorem perm {H' : List (Option Blk)} (h : Own B w0 w H) (hs : H.Perm H') : Own B w0 w H' :=
 ⟨h.below, h.hB, fun y hy => h.ge y (hs.mem_iff.2 hy), hs.pairwise h.nd (fun hxy a b ha hb => (hxy b a hb ha).symm), fun y hy => h.at_ y (hs.mem_iff.2 hy)⟩
theorem swap {x y : Option Blk} (h : Own B w0 w (x :: y :: H)) : Own B w0 w (y :: x :: H) := h.perm (List.Perm.swap _ _ _)
theorem nil_cons (h : Own B w0 w H) : Own B w0 w (none :: H) :=
 ⟨h.below, h.hB, fun y hy => h.ge y (by simpa using hy), List.pairwise_cons.2 ⟨fun _ _ a b ha => (by cases ha), h.nd⟩, fun y hy => h.at_ y (by simpa using hy)⟩
theorem consB {x : Blk} (h : Own B w0 w H) (hx : World.blkIs w x) (hge : B ≤ x.b) (hne : ∀ y, some y ∈ H → x.b ≠ y.b) : Own B w0 w (some x :: H) := by
 refine ⟨h.below, h.hB, fun y hy => ?_, List.pairwise_cons.2 ⟨fun y hy a b ha hb => ?_, h.nd⟩, fun y hy => ?_⟩
 ·rcases List.mem_cons.1 hy with e | hy
  ·cases e; exact hge
  ·exact h.ge y hy
 ·cases ha; subst hb; exact hne b hy
 ·rcases List.mem_cons.1 hy with e | hy
  ·cases e; exact hx
  ·exact h.at_ y hy
theorem cons {x : Blk} (h : Own B w0 w H) (hx : w.rowIs x.b x.t x.n x.f) (hge : B ≤ x.b) (hne : ∀ y, some y ∈ H → x.b ≠ y.b) (hm : x.m = none := by rfl) : Own B w0 w (some x :: H) :=
 h.consB (blkIs.of_row hm hx) hge hne
theorem past (h : Own B w0 w H) (hb : Below w.heap.size w w') : Own B w0 w' H :=
 ⟨h.below.trans (hb.mono h.size), h.hB, h.ge, h.nd, fun x hx => blkIs.of_block (h.at_ x hx) (hb.block _ (blkIs.lt (h.at_ x hx)))⟩
theorem join {S : List (Option Blk)} (h : Own B w0 w H) (hs : Own w.heap.size w w' S) : Own B w0 w' (S ++ H) := by
 have hp := h.past hs.below
 refine ⟨hp.below, hp.hB, fun x hx => ?_, ?_, fun x hx => ?_⟩
 ·rcases List.mem_append.1 hx with hx | hx
  ·exact Nat.le_trans h.size (hs.ge x hx)
  ·exact h.ge x hx
 ·refine List.pairwise_append.2 ⟨hs.nd, h.nd, fun x hx y hy a b ha hb => ?_⟩
  subst ha; subst hb
  have h1 := hs.ge a hx
  have h2 := blkIs.lt (h.at_ b hy)
  omega
 ·rcases List.mem_append.1 hx with hx | hx
  ·exact hs.at_ x hx
  ·exact hp.at_ x hx
theorem alloc (h : Own B w0 w H) (c : Array Value) (t : TypeId) (n : Nat) (f : Nat → Value) (hn : c.size = n) (hf : ∀ i, i < n → c[i]? = some (f i)) :
  Own B w0 (w.alloc (.cells c t)) (some ⟨w.heap.size, t, n, f, none⟩ :: H) := by
 have hp : Own B w0 (w.alloc (.cells c t)) H := h.past ((Below.refl _ _).alloc (Nat.le_refl _) _)
 subst hn
 exact hp.cons (World.rowIs_alloc w c t f hf) h.size (fun y hy => by have := blkIs.lt (h.at_ y hy); simp; omega)
theorem cons_made (h : Own B w0 w H) (z : Value) (n : Nat) (t : TypeId) : Own B w0 (w.alloc (.cells (madeCells #[z] n) t)) (some ⟨w.heap.size, t, n, fun _ => z, none⟩ :: H) := by
 have hp : Own B w0 (w.alloc (.cells (madeCells #[z] n) t)) H := h.past ((Below.refl _ _).alloc (Nat.le_refl _) _)
 exact hp.cons (World.rowIs_made w z n t) h.size (fun y hy => by have := blkIs.lt (h.at_ y hy); simp; omega)
theorem set_mem {H : List (Option Blk)} {k : Nat} {x : Blk} {z : Option Blk} (hx : some x ∈ H.set k z) : (∃ j, j ≠ k ∧ H[j]? = some (some x)) ∨ z = some x := by
 obtain ⟨j, hj⟩ := List.mem_iff_getElem?.1 hx
 rw [List.getElem?_set] at hj
 by_cases e : k = j
 ·rw [if_pos e] at hj
  split at hj
  ·right; simpa using hj
  ·cases hj
 ·rw [if_neg e] at hj
  exact .inl ⟨j, fun h => e h.symm, hj⟩
theorem ne_of {k j : Nat} {x y : Blk} (h : Own B w0 w H) (hx : H[k]? = some (some x)) (hy : H[j]? = some (some y)) (hkj : j ≠ k) : y.b ≠ x.b := by
 have hp := List.pairwise_iff_getElem.1 h.nd
 obtain ⟨hk, ek⟩ := List.getElem?_eq_some_iff.1 hx
 obtain ⟨hj, ej⟩ := List.getElem?_eq_some_iff.1 hy
 rcases Nat.lt_or_gt_of_ne hkj with hlt | hlt
 ·exact hp j k hj hk hlt y x ej ek
 ·exact (hp k j hk hj hlt x y ek ej).symm
theorem updBB (h : Own B w0 w H) (k : Nat) {x y : Blk} (hk : H[k]? = some (some x)) (hbel : Below B w w') (hoth : ∀ j, j < w.heap.size → j ≠ x.b → w'.heap[j]? = w.heap[j]?)
  (hy : World.blkIs w' y) (hge : B ≤ y.b) (hyb : y.b = x.b ∨ w.heap.size ≤ y.b) : Own B w0 w' (H.set k (some y)) := by
 refine ⟨h.below.trans hbel, h.hB, fun z hz => ?_, ?_, fun z hz => ?_⟩
 ·rcases set_mem hz with ⟨j, _, hj⟩ | e
  ·exact h.ge z (List.mem_of_getElem? hj)
  ·cases e; exact hge
 ·rw [List.pairwise_iff_getElem]
  intro i j hi hj hij a b ha hb
  rw [List.getElem_set] at ha hb
  have hi' : i < H.length := by simpa using hi
  have hj' : j < H.length := by simpa using hj
  have key : ∀ (m : Nat) (z : Blk), H[m]? = some (some z) → m ≠ k → z.b ≠ y.b := by
   intro m z hm hmk
   have h1 := h.ne_of hk hm hmk
   have h2 := blkIs.lt (h.gets m hm)
   rcases hyb with e | e
   ·rw [e]; exact h1
   ·omega
  by_cases e1 : k = i
  ·rw [if_pos e1] at ha
   rw [if_neg (by omega)] at hb
   cases ha
   exact fun e => key j b (by rw [List.getElem?_eq_getElem hj', hb]) (by omega) e.symm
  ·rw [if_neg e1] at ha
   by_cases e2 : k = j
   ·rw [if_pos e2] at hb
    cases hb
    exact key i a (by rw [List.getElem?_eq_getElem hi', ha]) (by omega)
   ·rw [if_neg e2] at hb
    exact List.pairwise_iff_getElem.1 h.nd i j hi' hj' hij a b ha hb
 ·rcases set_mem hz with ⟨j, hjk, hj⟩ | e
  ·exact blkIs.of_block (h.gets j hj) (hoth _ (blkIs.lt (h.gets j hj)) (h.ne_of hk hj hjk))
  ·cases e; exact hy
theorem updB (h : Own B w0 w H) (k : Nat) {x y : Blk} (hk : H[k]? = some (some x)) (hbel : Below B w w') (hoth : ∀ j, j < w.heap.size → j ≠ x.b → w'.heap[j]? = w.heap[j]?)
  (hy : w'.rowIs y.b y.t y.n y.f) (hge : B ≤ y.b) (hyb : y.b = x.b ∨ w.heap.size ≤ y.b) (hm : y.m = none := by rfl) : Own B w0 w' (H.set k (some y)) :=
 h.updBB k hk hbel hoth (blkIs.of_row hm hy) hge hyb
theorem store (h : Own B w0 w H) (k : Nat) {x : Blk} (hk : H[k]? = some (some x)) (i : Nat) (v : Value) (hm : x.m = none := by rfl) : Own B w0 (w.setCell ⟨x.b, i, none⟩ v) (H.set k (some (x.put i v))) := by
 refine h.updB k hk ((Below.refl _ _).setCell (h.ge x (List.mem_of_getElem? hk)) _) (fun j _ hj => Below.heap_setCell _ _ _ _ hj) ?_ (h.ge x (List.mem_of_getElem? hk)) (.inl rfl) hm
 exact (h.get k hk hm).set i v
theorem congr (h : Own B w0 w H) (k : Nat) {x : Blk} (hk : H[k]? = some (some x)) (g : Nat → Value) (e : ∀ i, i < x.n → x.f i = g i) (hm : x.m = none := by rfl) : Own B w0 w (H.set k (some { x with f := g })) :=
 h.updB k hk (Below.refl _ _) (fun _ _ _ => rfl) ((h.get k hk hm).congr e) (h.ge x (List.mem_of_getElem? hk)) (.inl rfl) hm
theorem reads (h : Own B w0 w H) (k : Nat) {x : Blk} (hk : H[k]? = some (some x)) (m : Nat) (hm : m ≤ x.n) (hmm : x.m = none := by rfl) : RAt w.heap.size w (some ⟨x.b, 0, none⟩) m x.f :=
 ⟨x.b, 0, fun _ => rfl, fun _ => h.lt k hk, fun i hi => by rw [Nat.zero_add]; exact h.cell k hk i (by omega) hmm⟩
end Own
def Row (v : Value) (E : TypeId) (sz n : Nat) (f : Nat → Value) (c : Option Blk) : Prop :=
 (v = .slice none 0 0 ∧ n = 0 ∧ c = none) ∨
 ∃ b cap g, v = .slice (some ⟨b, 0, none⟩) n cap ∧ n ≤ cap ∧ cap ≤ maxLen ∧ c = some ⟨b, E, cap * sz, g, none⟩ ∧ ∀ i, i < n * sz → g i = f i
theorem Row.nil (E : TypeId) (sz : Nat) (f : Nat → Value) : Row (.slice none 0 0) E sz 0 f none := .inl ⟨rfl, rfl, rfl⟩
theorem Row.congr {v : Value} {E : TypeId} {sz n : Nat} {f g : Nat → Value} {c : Option Blk} (h : Row v E sz n f c) (e : ∀ i, i < n * sz → f i = g i) : Row v E sz n g c := by
 rcases h with h | ⟨b, cap, g', h1, h2, h3, h4, h5⟩
 ·exact .inl h
 ·exact .inr ⟨b, cap, g', h1, h2, h3, h4, fun i hi => (h5 i hi).trans (e i hi)⟩
theorem Row.val {v : Value} {E : TypeId} {sz n : Nat} {f : Nat → Value} {c : Option Blk} (h : Row v E sz n f c) : ∃ ao cap, v = .slice ao n cap := by
 rcases h with ⟨rfl, rfl, _⟩ | ⟨b, cap, g, rfl, _⟩
 ·exact ⟨none, 0, rfl⟩
 ·exact ⟨_, cap, rfl⟩
theorem Row.reads {B : Nat} {w0 w : World} {H : List (Option Blk)} {ao : Option Addr} {E : TypeId} {n m cap : Nat} {f : Nat → Value} {c : Option Blk}
  (h : Row (.slice ao m cap) E 1 n f c) (ho : Own B w0 w H) (k : Nat) (hk : H[k]? = some c) : RAt w.heap.size w ao n f := by
 rcases h with ⟨h1, rfl, _⟩ | ⟨b, cap', g, h1, h2, h3, rfl, h5⟩
 ·exact RAt.nil _ _ _ _
 ·cases h1
  exact ((ho.reads k hk n (by simpa using h2)).congr (fun i hi => h5 i (by simpa using hi)))
def appF (nz : Nat) (f : Nat → Value) (news : List Value) : Nat → Value := fun j => if j < nz then f j else news.getD (j - nz) undef
def appG (nz mz : Nat) (f : Nat → Value) (news : List Value) (g : Nat → Value) : Nat → Value := fun j => if j < nz then f j else if j < mz then news.getD (j - nz) undef else g j
theorem appG_eq {nz mz : Nat} {f : Nat → Value} {news : List Value} (g : Nat → Value) (j : Nat) (h : j < mz) : appG nz mz f news g j = appF nz f news j := by
 unfold appG appF
 by_cases h1 : j < nz
 ·rw [if_pos h1, if_pos h1]
 ·rw [if_neg h1, if_neg h1, if_pos h]
section
variable {P : Program} {ops : Array Oper} {rest : List Oper} {Q : Exit → Act → World → Prop} {a : Act} {B : Nat} {w0 w : World} {H : List (Option Blk)}
theorem heap_setRow_self {w : World} {g : Nat} {old cs : Array Value} {t : TypeId} (hg : w.heap[g]? = some (.cells old t (0, 0))) : (w.setRow g cs).heap[g]? = some (.cells cs t (0, 0)) := setRow_heap w g old cs t (0, 0) hg
theorem run_app {t ty E : TypeId} {i : TypeInfo} {z : Value} (ht : P.underlying t = some (.slice E)) (hi : P.info? E = some i) (hz : i.zero = some z) (_ : 0 < i.size) (hzs : z.cells.size = i.size)
  {v : Value} {n : Nat} {f : Nat → Value} {c : Option Blk} (k : Nat) (ho : Own B w0 w H) (hk : H[k]? = some c) (hr : Row v E i.size n f c)
  (ad : Addr) (m cp : Nat) (news : List Value) (hl : news.length = m * i.size) (hnews : ∀ j u, news[j]? = some u → w.cell? (ad.add j) = some u) (h1 : ∀ u ∈ news, u.oneCell' = true)
  (hm : 0 < m) (h63 : n + m ≤ maxLen) (hbytes : (n + m) * i.bytes ≤ 140737488355328) :
  ∃ v' c' w', (Builtin.append_ #[t, t] ty #[v, .slice (some ad) m cp]).run P w = .ok v' w' ∧ Own B w0 w' (H.set k c') ∧ w.heap.size ≤ w'.heap.size ∧
   Row v' E i.size (n + m) (appF (n * i.size) f news) c' := by
 have hsmall : n + m ≤ 9223372036854775807 := by simp only [maxLen] at h63; omega
 have hcellsN : ∀ j, j < news.length → news[j]? = some (news.getD j undef) := fun j hj => by simp [hj]
 have noneUpd : ∀ (wx : World) (y : Blk), y.m = none → Below w.heap.size w wx → H[k]? = some none → wx.rowIs y.b y.t y.n y.f → w.heap.size ≤ y.b → Own B w0 wx (H.set k (some y)) := by
  intro wx y hym hb hk hy hge
  have hp := ho.past hb
  refine ⟨hp.below, hp.hB, fun z hz => ?_, ?_, fun z hz => ?_⟩
  ·rcases Own.set_mem hz with ⟨j, _, hj⟩ | e
   ·exact hp.ge z (List.mem_of_getElem? hj)
   ·cases e; exact Nat.le_trans ho.size hge
  ·rw [List.pairwise_iff_getElem]
   intro i j hi hj hij a b ha hb
   rw [List.getElem_set] at ha hb
   have hi' : i < H.length := by simpa using hi
   have hj' : j < H.length := by simpa using hj
   have key : ∀ (m : Nat) (z : Blk), H[m]? = some (some z) → z.b ≠ y.b := fun m z hm => by have := blkIs.lt (ho.gets m hm); omega
   by_cases e1 : k = i
   ·rw [if_pos e1] at ha
    rw [if_neg (by omega)] at hb
    cases ha
    exact fun e => key j b (by rw [List.getElem?_eq_getElem hj', hb]) e.symm
   ·rw [if_neg e1] at ha
    by_cases e2 : k = j
    ·rw [if_pos e2] at hb
     cases hb
     exact key i a (by rw [List.getElem?_eq_getElem hi', ha])
    ·rw [if_neg e2] at hb
     exact List.pairwise_iff_getElem.1 ho.nd i j hi' hj' hij a b ha hb
  ·rcases Own.set_mem hz with ⟨j, hjk, hj⟩ | e
   ·exact hp.gets j hj
   ·cases e; exact blkIs.of_row hym hy
 have grown : ∀ (olds : List Value), olds.length = n * i.size → (∀ j, j < n * i.size → olds[j]? = some (f j)) → ∀ cp' : Nat, n + m ≤ cp' →
   ∃ g, (w.drew.alloc (.cells (olds.toArray ++ news.toArray ++ Builtin.zeroCells z.cells (cp' - (n + m))) E)).rowIs w.heap.size E (cp' * i.size) (appG (n * i.size) ((n + m) * i.size) f news g) := by
  intro olds hlo hof cp' hcp
  generalize hA : olds.toArray ++ news.toArray ++ Builtin.zeroCells z.cells (cp' - (n + m)) = A
  have hsize : A.size = cp' * i.size := by
   rw [← hA]
   simp only [Array.size_append, List.size_toArray, size_zeroCells, hzs, hlo, hl, ← Nat.add_mul]
   congr 1; omega
  refine ⟨fun j => A[j]?.getD undef, ?_⟩
  have := World.rowIs_alloc w.drew A E (appG (n * i.size) ((n + m) * i.size) f news (fun j => A[j]?.getD undef))
  rw [hsize] at this
  refine this fun j hj => ?_
  unfold appG
  by_cases h1 : j < n * i.size
  ·rw [if_pos h1, ← hA, Array.getElem?_append_left (by simp [hlo, hl]; omega), Array.getElem?_append_left (by simpa [hlo] using h1)]
   simpa using hof j h1
  ·rw [if_neg h1]
   by_cases h2 : j < (n + m) * i.size
   ·rw [if_pos h2, ← hA, Array.getElem?_append_left (by simp [hlo, hl, ← Nat.add_mul]; omega), Array.getElem?_append_right (by simp [hlo]; omega)]
    have : j - n * i.size < news.length := by rw [hl]; rw [Nat.add_mul] at h2; omega
    simp [hlo, this]
   ·rw [if_neg h2]
    obtain ⟨u, hu⟩ : ∃ u, A[j]? = some u := ⟨_, Array.getElem?_eq_getElem (by omega)⟩
    simp only [hu, Option.getD_some]
 have rowOf : ∀ (b cp' : Nat) (g : Nat → Value), n + m ≤ cp' → cp' ≤ maxLen → (∀ j, j < (n + m) * i.size → g j = appF (n * i.size) f news j) →
   Row (.slice (some ⟨b, 0, none⟩) (n + m) cp') E i.size (n + m) (appF (n * i.size) f news) (some ⟨b, E, cp' * i.size, g, none⟩) :=
  fun b cp' g h1 h2 h3 => .inr ⟨b, cp', g, rfl, h1, h2, rfl, h3⟩
 have hgrowsBelow : ∀ o : Obj, Below w.heap.size w (w.drew.alloc o) := fun o => ((Below.refl _ _).drew).alloc (by simp) o
 rcases hr with ⟨rfl, rfl, rfl⟩ | ⟨b, cap, g, rfl, hnc, hcm, rfl, hg⟩
 ·have hrun := run_append_nil (P := P) w t ty E i z ht hi hz ad m cp news hl hnews hm (by omega) (by have hb := hbytes; simp only [Nat.zero_add] at hb; omega)
  have hge := grownCap_ge w m 0 E
  have hle := grownCap_le_maxLen w m 0 E (by omega)
  obtain ⟨g, hg⟩ := grown [] (by simp) (fun j hj => by omega) (grownCap w m 0 E) (by omega)
  simp only [Nat.zero_add, Array.empty_append] at hg
  refine ⟨_, _, _, hrun, noneUpd _ ⟨w.heap.size, E, grownCap w m 0 E * i.size, appG (0 * i.size) (m * i.size) f news g, none⟩ rfl (hgrowsBelow _) hk hg (Nat.le_refl _), by simp, ?_⟩
  have := rowOf w.heap.size (grownCap w m 0 E) (appG (0 * i.size) ((0 + m) * i.size) f news g) (by omega) hle (fun j hj => appG_eq _ _ hj)
  simpa only [Nat.zero_add] using this
 ·obtain ⟨cur, hcur, hcs, hci⟩ := ho.get k hk
  dsimp only at hcur hcs hci
  by_cases hroom : n + m ≤ cap
  ·have hmul : (n + m) * i.size ≤ cap * i.size := Nat.mul_le_mul_right _ hroom
   have hadd : (n + m) * i.size = n * i.size + m * i.size := Nat.add_mul _ _ _
   have hfit : n * i.size + news.length ≤ cur.size := by rw [hl, hcs]; omega
   have hrun := run_append_room (P := P) w t ty E i ht hi b n cap cur hcur ad m cp news hl hnews h1 hroom hfit
   have htl : (cur.toList.take (n * i.size)).length = n * i.size := by simp; omega
   refine ⟨_, some ⟨b, E, cap * i.size, appG (n * i.size) ((n + m) * i.size) f news g, none⟩, _, hrun, ?_, by simp, ?_⟩
   ·refine ho.updB k hk ⟨rfl, rfl, rfl, by simp, fun j hj => setRow_other w b j _ ?_⟩ (fun j _ hj => setRow_other w b j _ hj) ?_ (ho.ge ⟨b, E, cap * i.size, g, none⟩ (List.mem_of_getElem? hk)) (.inl rfl)
    ·have := ho.ge _ (List.mem_of_getElem? hk); dsimp only at this; omega
    ·refine ⟨_, heap_setRow_self hcur, by simp; omega, fun j hj => ?_⟩
     dsimp only at hj ⊢
     unfold appG
     have hjc : j < cur.size := by omega
     have hcj := hci j hj
     rw [Array.getElem?_eq_getElem hjc] at hcj
     have hcl : cur.toList[j]? = some (g j) := by rw [Array.getElem?_toList, Array.getElem?_eq_getElem hjc]; exact hcj
     simp only [List.getElem?_toArray]
     by_cases h1 : j < n * i.size
     ·rw [if_pos h1, List.append_assoc, List.getElem?_append_left (by omega), List.getElem?_take, if_pos h1, hcl, hg j h1]
     ·rw [if_neg h1]
      by_cases h2 : j < (n + m) * i.size
      ·rw [if_pos h2, List.getElem?_append_left (by simp [htl] ; omega), List.getElem?_append_right (by omega), htl]
       exact hcellsN _ (by rw [hl]; omega)
      ·rw [if_neg h2, List.getElem?_append_right (by simp [htl]; omega), List.getElem?_drop]
       have : n * i.size + news.length + (j - ((List.take (n * i.size) cur.toList) ++ news).length) = j := by rw [List.length_append, htl, hl]; omega
       rw [this]
       exact hcl
   ·exact rowOf b cap _ hroom hcm (fun j hj => appG_eq _ _ hj)
  ·have hnm : n * i.size ≤ cap * i.size := Nat.mul_le_mul_right _ hnc
   have hto : ∀ j, j < n * i.size → (cur.toList.take (n * i.size))[j]? = some (f j) := fun j hj => by
    have hjc : j < cur.size := by omega
    have hcj := hci j (by omega)
    rw [List.getElem?_take, if_pos hj, Array.getElem?_toList, hcj, hg j hj]
   have htl : (cur.toList.take (n * i.size)).length = n * i.size := by simp; omega
   have holds : ∀ j u, (cur.toList.take (n * i.size))[j]? = some u → w.cell? ((⟨b, 0, none⟩ : Addr).add j) = some u := by
    intro j u hu
    have hj : j < n * i.size := by
     have := (List.getElem?_eq_some_iff.1 hu).1
     omega
    rw [hto j hj] at hu
    cases hu
    have hadd : (⟨b, 0, none⟩ : Addr).add j = ⟨b, j, none⟩ := by unfold Addr.add; split <;> simp_all
    rw [hadd, ← hg j hj]
    exact (ho.get k hk).cell (by show j < cap * i.size; omega)
   have hrun := run_append_grow (P := P) w t ty E i z ht hi hz ⟨b, 0, none⟩ n cap _ htl holds ad m cp news hl hnews (by omega) (by omega) (growslice_fits (by omega) hbytes)
   have hge := grownCap_ge w (n + m) cap E
   have hle := grownCap_le_maxLen w (n + m) cap E h63
   obtain ⟨g2, hgr⟩ := grown _ htl hto (grownCap w (n + m) cap E) hge
   have hbb := hgrowsBelow (.cells ((cur.toList.take (n * i.size)).toArray ++ news.toArray ++ Builtin.zeroCells z.cells (grownCap w (n + m) cap E - (n + m))) E)
   refine ⟨_, some ⟨w.heap.size, E, grownCap w (n + m) cap E * i.size, appG (n * i.size) ((n + m) * i.size) f news g2, none⟩, _, hrun, ho.updB k hk (hbb.mono ho.size) (fun j hj _ => hbb.block j hj) hgr ho.size (.inr (Nat.le_refl _)), by simp, ?_⟩
   exact rowOf w.heap.size _ _ hge hle (fun j hj => appG_eq _ _ hj)
theorem run_storeAt_one (w : World) (b i : Nat) (ty : TypeId) (v u : Value) (hc : w.cell? ⟨b, i, none⟩ = some u) (hf : w.frozen? ⟨b, i, none⟩ = false)
  (hi : (P.info? ty).map (·.size) = some 1) (h1 : v.oneCell' = true) :
  (Instr.storeAt ty (.pointer (some ⟨b, i, none⟩)) v).run P w = .ok () (w.setCell ⟨b, i, none⟩ v) := by
 have hv : v.cells = #[v] := by cases v <;> simp_all [Value.oneCell', Value.cells]
 have := run_storeCells_cells (P := P) b i [v] 0 w (by intro j hj; simp at hj; subst hj; simp [hc]) (by intro j hj; simp at hj; subst hj; simpa using hf) (by intro y hy; simp at hy; subst hy; exact h1)
 cases hq : P.info? ty with
 | none => simp [hq] at hi
 | some q =>
  have hs : q.size = 1 := by simpa [hq] using hi
  simp only [Nat.add_zero] at this
  simp [Instr.storeAt, Instr.sureAddr, storeVar, sizeOf, typeInfo, hq, hv, hs, this, World.setCells]
end
end Go.Proofs.YtbcjfjldmfljgaaGreat
