import Derived.Test.YtlldeifbfpmbaaaGreatFeC
import Derived.Test.YtlldeifbfpmbaaaGreatMaps
import Derived.Test.YtlldeifbfpmbaaaGreatRul
set_option maxRecDepth 100000
namespace Go.Proofs.YtlldeifbfpmbaaaGreat
open Go.RowKit Go.Proofs Go.MapKept
open Classical in
noncomputable def rowTo (f : Fair) (l : Int → Int) (g : Int) : Nat → List (Int × Int)
 | 0 => []
 | b + 1 => rowTo f l g b ++ (if f.Blk l g b then [(g, (b : Int))] else [])
noncomputable def blkTo (f : Fair) (l : Int → Int) : Nat → List (Int × Int)
 | 0 => []
 | g + 1 => blkTo f l g ++ rowTo f l g f.m
theorem rowTo_yes {f : Fair} {l : Int → Int} {g : Int} {b : Nat} (h : f.Blk l g b) : rowTo f l g (b + 1) = rowTo f l g b ++ [(g, (b : Int))] := by rw [rowTo, if_pos h]
theorem rowTo_no {f : Fair} {l : Int → Int} {g : Int} {b : Nat} (h : ¬ f.Blk l g b) : rowTo f l g (b + 1) = rowTo f l g b := by rw [rowTo, if_neg h, List.append_nil]
theorem rowTo_len (f : Fair) (l : Int → Int) (g : Int) : ∀ b : Nat, (rowTo f l g b).length ≤ b
 | 0 => Nat.le_refl _
 | b + 1 => by
  have := rowTo_len f l g b
  unfold rowTo
  rw [List.length_append]
  split <;> simp <;> omega
theorem blkTo_len (f : Fair) (l : Int → Int) : ∀ g : Nat, (blkTo f l g).length ≤ g * f.m
 | 0 => Nat.zero_le _
 | g + 1 => by
  have := blkTo_len f l g
  have := rowTo_len f l g f.m
  unfold blkTo
  rw [List.length_append, Nat.succ_mul]
  omega
def prG (L : List (Int × Int)) : Int → List Value := fun k => [iv (L.getD k.toNat (0, 0)).1, iv (L.getD k.toNat (0, 0)).2]
theorem prG_snoc (L : List (Int × Int)) (x : Int × Int) (k : Int) (k0 : 0 ≤ k) (k1 : k < ((L.length + 1 : Nat) : Int)) : upd (prG L) L.length [iv x.1, iv x.2] k = prG (L ++ [x]) k := by
 unfold upd prG
 by_cases e : k = L.length
 ·rw [if_pos e, e]; simp [List.getD]
 ·rw [if_neg e]
  have : k.toNat < L.length := by omega
  simp [List.getD, List.getElem?_append, this]
theorem rowTo_nil {f : Fair} {l : Int → Int} {g : Int} : ∀ b : Nat, rowTo f l g b = [] ↔ ∀ c : Int, 0 ≤ c → c < b → ¬ f.Blk l g c
 | 0 => ⟨fun _ c c0 c1 => by omega, fun _ => rfl⟩
 | b + 1 => by
  unfold rowTo
  rw [List.append_eq_nil_iff, rowTo_nil b]
  by_cases h : f.Blk l g b
  ·rw [if_pos h]; exact ⟨fun e => by simp at e, fun e => absurd h (e b (by omega) (by omega))⟩
  ·rw [if_neg h]; exact ⟨fun e c c0 c1 => by by_cases d : c = b; (rw [d]; exact h); (exact e.1 c c0 (by omega)), fun e => ⟨fun c c0 c1 => e c c0 (by omega), rfl⟩⟩
theorem blkTo_nil {f : Fair} {l : Int → Int} : ∀ g : Nat, blkTo f l g = [] ↔ ∀ i c : Int, 0 ≤ i → i < g → 0 ≤ c → c < f.m → ¬ f.Blk l i c
 | 0 => ⟨fun _ i c i0 i1 => by omega, fun _ => rfl⟩
 | g + 1 => by
  unfold blkTo
  rw [List.append_eq_nil_iff, blkTo_nil g, rowTo_nil]
  exact ⟨fun e i c i0 i1 c0 c1 => by by_cases d : i = g; (rw [d]; exact e.2 c c0 c1); (exact e.1 i c i0 (by omega) c0 c1), fun e => ⟨fun i c i0 i1 c0 c1 => e i c i0 (by omega) c0 c1, fun c c0 c1 => e g c (by omega) (by omega) c0 c1⟩⟩
end Go.Proofs.YtlldeifbfpmbaaaGreat
set_option maxRecDepth 100000
namespace Go.Proofs.YtlldeifbfpmbaaaGreat
open Go.RowKit Go.Proofs Go.MapKept
theorem give5_any (ga ba qa : Option Addr) (gn gc bn bc qn qc : Nat) (w : World) :
  Calls Tryz.prog 9 #[.agg #[.slice ga gn gc, .slice ba bn bc, .slice qa qn qc]] w fun e w' => e = .returned (.agg #[.slice ga gn gc, .slice ba bn bc, .slice qa qn qc]) ∧ Below w.heap.size w w' := by
 refine calls_of_run (F := [(0, _)]) Tryz.func9 rfl Tryz.ntmps9 rfl rfl ?_
 have hO0 := Own.init w
 refine run_seq <| run_region <| rl_ow rfl (ow_box _ rfl rfl rfl rfl rfl hO0) ?_
 rintro _ w1 ⟨b1, rfl, hO2, hs3⟩
 refine rl_ow rfl (ow_alloc _ rfl rfl rfl zero_27 rfl hO2) ?_
 rintro _ w4 ⟨b2, rfl, hO5, hs6⟩
 refine rl_nil <| run_seq <| run_region <| rl_v rfl rfl rfl (ov_fieldS rfl Tryz.underlying25 rfl (fo := 0) rfl (by kernel_rfl) rfl) ?_
 refine rl_v rfl rfl rfl (ov_load rfl Tryz.underlying22 rfl rfl (by exact hO5.cellL 1 rfl (off := 0) rfl)) ?_
 refine rl_v rfl rfl rfl (ov_fieldS rfl Tryz.underlying25 rfl (fo := 1) rfl (by kernel_rfl) rfl) ?_
 refine rl_v rfl rfl rfl (ov_load rfl Tryz.underlying22 rfl rfl (by exact hO5.cellL 1 rfl (off := 1) rfl)) ?_
 refine rl_v rfl rfl rfl (ov_fieldS rfl Tryz.underlying25 rfl (fo := 2) rfl (by kernel_rfl) rfl) ?_
 refine rl_v rfl rfl rfl (ov_load rfl Tryz.underlying23 rfl rfl (by exact hO5.cellL 1 rfl (off := 2) rfl)) ?_
 refine rl_v rfl rfl rfl (ov_buildL rfl lay_27 rfl (us := [_, _, _]) rfl) <| rl_ow rfl (ow_storeW rfl rfl (by kernel_rfl) hO5 0 rfl rfl (by rfl) rfl (by rfl)) ?_
 rintro _ w7 ⟨rfl, hO8, hs9⟩
 refine rl_nil <| run_ret Tryz.func9 (resW Tryz.results9 rfl Tryz.underlying27 rfl (by kernel_rfl) hO8 0 rfl) ?_
 exact ⟨rfl, hO8.below⟩
end Go.Proofs.YtlldeifbfpmbaaaGreat
set_option maxRecDepth 100000
namespace Go.Proofs.YtlldeifbfpmbaaaGreat
open Go.RowKit Go.Proofs
theorem perm_mid {α : Type} (x : α) (M T : List α) : (x :: (M ++ T)).Perm (M ++ x :: T) := List.perm_middle.symm
theorem perm_mid2 {α : Type} (x : α) (M N R : List α) : (x :: (M ++ (N ++ R))).Perm (M ++ (N ++ x :: R)) := by
 have h := perm_mid x (M ++ N) R
 simpa [List.append_assoc] using h
theorem ow_storeI1 {N : Nat} {o : Oper} {F : Fr} {w w0 : World} {B : Nat} {H : List (Option Blk)} {T E : TypeId} {p x : Operand} {b n cap : Nat} {G : Int → Value} {c : Option Blk} {ao : Option Addr} {i : Int} {v : Value} (hd : o.dst = none) (ho : o.op = .store T p x) (hi : (Tryz.prog.info? T).map (·.size) = some 1)
  (hO : Own B w0 w H) (kk : Nat) (hr : IRow (.slice ao n cap) E n G c) (hk : H[kk]? = some c) (hao : 0 < n → ao = some ⟨b, 0, none⟩) (hp : Fr.ev F p = some (.pointer (some ⟨b, 0 + i.toNat, none⟩))) (hb : 0 ≤ i ∧ i < n)
  (hx : Fr.ev F x = some v) (h1 : v.oneCell' = true) :
  OpW Tryz.prog N o F w (fun F' w' => ∃ c', F' = F ∧ Own B w0 w' (H.set kk c') ∧ IRow (.slice ao n cap) E n (upd G i v) c' ∧ w'.heap.size = w.heap.size) := by
 obtain ⟨b', G', e1, e2, e3, rfl, e5⟩ := hr.asV (by omega)
 have := (hao (by omega)).symm.trans e1
 simp only [Option.some.injEq, Addr.mk.injEq] at this
 obtain rfl := this.1
 refine (ow_store hd ho hi hO kk hk hp ⟨hb.1, by omega⟩ hx h1).mono fun F' w' ⟨q1, q2, q3⟩ => ⟨_, q1, q2, ?_, q3⟩
 rw [e1]
 refine IRow.ofV e2 e3 fun j j0 j1 => ?_
 by_cases e : j = i
 ·subst e; simp
 ·rw [upd_ne _ _ e, upd_ne _ _ e]; exact e5 j j0 j1
end Go.Proofs.YtlldeifbfpmbaaaGreat
set_option maxRecDepth 100000
namespace Go.Proofs.YtlldeifbfpmbaaaGreat
open Go.RowKit Go.Proofs
theorem OTab.put9 {B : Nat} {w0 w : World} {v x : Value} {T1 T2 : TypeId} {n m : Nat} {L : Int → Nat} {F : Int → Int → Value} {G : Int → Value} {R : List (Option Blk)} {c cr : Option Blk} {rv : Int → Value} {ch : Nat → Option Blk} (i : Nat) (hi : i < n)
  (hv : IRow v T1 n (upd rv i x) c) (h3 : ∀ r : Nat, r < n → IRow (rv r) T2 (L r) (F r) (ch r)) (hx : IRow x T2 m G cr) (ho : Own B w0 w (cr :: c :: (((List.range n).erase i).map ch ++ R))) :
  ∃ H, OTab v T1 T2 n (upd L i m) (upd F i G) H ∧ Own B w0 w (H ++ R) := by
 refine ⟨_, ⟨c, _, fun r => if r = i then cr else ch r, rfl, hv, fun r hr => ?_⟩, ho.perm ?_⟩
 ·show IRow _ _ _ _ (if r = i then cr else ch r)
  by_cases e : r = i
  ·subst e; rw [upd_same, upd_same, upd_same, if_pos rfl]; exact hx
  ·rw [upd_ne _ _ (by omega), upd_ne _ _ (by omega), upd_ne _ _ (by omega), if_neg e]; exact h3 r hr
 ·have p := (List.perm_cons_erase (List.mem_range.2 hi)).map (fun r => if r = i then cr else ch r)
  have e : ((List.range n).erase i).map (fun r => if r = i then cr else ch r) = ((List.range n).erase i).map ch := List.map_congr_left fun r hr => by
   have : r ≠ i := fun e => by rw [e] at hr; exact (List.Nodup.not_mem_erase List.nodup_range) hr
   exact if_neg this
  simp only [List.map_cons, if_true, e] at p
  exact (List.Perm.swap _ _ _).trans ((p.symm.append_right R).cons c)
end Go.Proofs.YtlldeifbfpmbaaaGreat
