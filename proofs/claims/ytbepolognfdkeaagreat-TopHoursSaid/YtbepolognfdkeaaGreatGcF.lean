import Derived.Test.YtbepolognfdkeaaGreatGcE
import Derived.Test.YtbepolognfdkeaaGreatGaV
set_option maxRecDepth 100000
namespace Go.Proofs.YtbepolognfdkeaaGreat
open Go.RowKit Go.Proofs Go.MapKept
noncomputable def Lds.bestE (l : Lds) (k : Int) : Int := if l.chkK k = 0 then (if l.Short then 0 else 7) else l.chkK k
theorem best1_any (la : Option Addr) (lc tb B : Nat) (l : Lds) (Y : Int → Int) (q : Nat) (w0 : World) (H : List (Option Blk)) (x : Option Blk) (hV : l.Valid) (hl : SAt B w0 la 4 l.n (ldF l)) (hY : ∀ i : Int, 0 ≤ i → i < q → 0 ≤ Y i ∧ Y i < l.n) :
  CmpS 37 #[ptr tb] (fun i => -(l.wo i)) Y q B w0 (x :: some (lch tb 24 [.slice la l.n lc]) :: H) := fun a b w ⟨i, hi, ei⟩ ⟨j, hj, ej⟩ hO => by
 have ha := hY i hi.1 hi.2
 have hb := hY j hj.1 hj.2
 rw [ei] at ha
 rw [ej] at hb
 have hva := hV a ha.1 ha.2
 have hvb := hV b hb.1 hb.2
 unfold Lds.Val at hva hvb
 have hll := (hO.readsL 1 rfl).open
 obtain ⟨lb, lo, hla, hlr⟩ := (hO.satU hl).open (by decide)
 refine calls_of_run (F := [(0, _), (1, _), (2, _)]) Tryz.func37 rfl Tryz.ntmps37 rfl rfl ?_
 have hO0 := Own.init w
 refine run_seq <| run_region <| rl_v rfl rfl rfl (ov_assign rfl rfl) <| rl_nil <| run_seq <| run_quiet mixed (by kernel_rfl) ?_
 refine rq_v rfl rfl rfl (fun _ => ov_load rfl Tryz.underlying24 rfl rfl (by show World.cell? w _ = _; first | exact hll _ hO0.below rfl | exact hO0.cellI 0 rfl _ (by omega) (by omega) | exact hO0.cellL 0 rfl rfl | exact hO0.cellI 1 rfl _ (by omega) (by omega) | exact hO0.cellL 1 rfl rfl | exact hO0.cellI 2 rfl _ (by omega) (by omega) | exact hO0.cellL 2 rfl rfl | exact hO0.cellI 3 rfl _ (by omega) (by omega) | exact hO0.cellL 3 rfl rfl | exact hO0.cellI 4 rfl _ (by omega) (by omega) | exact hO0.cellL 4 rfl rfl | exact hO0.cellI 5 rfl _ (by omega) (by omega) | exact hO0.cellL 5 rfl rfl)) ?_
 refine rq_v rfl rfl rfl (fun _ => ov_move rfl rfl) ?_
 refine rq_v rfl rfl rfl (fun _ => ov_index rfl Tryz.underlying24 (by kernel_rfl) (s := 4) rfl rfl ⟨by omega, by omega⟩ (by exact hla (by omega))) ?_
 refine rq_v rfl rfl rfl (fun _ => ov_fieldS rfl Tryz.underlying58 rfl (fo := 3) rfl (by kernel_rfl) rfl) ?_
 refine rq_v rfl rfl rfl (fun _ => ov_load rfl Tryz.underlying3 rfl rfl (by show World.cell? w _ = _; first | exact hlr _ hO0.below b hb.1 hb.2 3 (by decide))) ?_
 refine rq_v rfl rfl rfl (fun _ => ov_load rfl Tryz.underlying24 rfl rfl (by show World.cell? w _ = _; first | exact hll _ hO0.below rfl | exact hO0.cellI 0 rfl _ (by omega) (by omega) | exact hO0.cellL 0 rfl rfl | exact hO0.cellI 1 rfl _ (by omega) (by omega) | exact hO0.cellL 1 rfl rfl | exact hO0.cellI 2 rfl _ (by omega) (by omega) | exact hO0.cellL 2 rfl rfl | exact hO0.cellI 3 rfl _ (by omega) (by omega) | exact hO0.cellL 3 rfl rfl | exact hO0.cellI 4 rfl _ (by omega) (by omega) | exact hO0.cellL 4 rfl rfl | exact hO0.cellI 5 rfl _ (by omega) (by omega) | exact hO0.cellL 5 rfl rfl)) ?_
 refine rq_v rfl rfl rfl (fun _ => ov_move rfl rfl) ?_
 refine rq_v rfl rfl rfl (fun _ => ov_index rfl Tryz.underlying24 (by kernel_rfl) (s := 4) rfl rfl ⟨by omega, by omega⟩ (by exact hla (by omega))) ?_
 refine rq_v rfl rfl rfl (fun _ => ov_fieldS rfl Tryz.underlying58 rfl (fo := 3) rfl (by kernel_rfl) rfl) ?_
 refine rq_v rfl rfl rfl (fun _ => ov_load rfl Tryz.underlying3 rfl rfl (by show World.cell? w _ = _; first | exact hlr _ hO0.below a ha.1 ha.2 3 (by decide))) ?_
 refine rq_v rfl rfl rfl (fun _ => ov_sub rfl rfl rfl (by omega)) ?_
 refine rq_v rfl rfl rfl (fun _ => ov_assign rfl rfl) ?_
 refine rq_nil (fun n1 => ?_)
 have hO3 := hO0.drewN n1
 generalize World.drewN w n1 = w2 at hO3 ⊢
 refine run_ret Tryz.func37 (res1 Tryz.results37 rfl) ?_
 exact ⟨congrArg (fun z => Ending.returned (iv z)) (show l.wo b - l.wo a = -(l.wo a) - -(l.wo b) by omega), hO3⟩
structure Tkn (l : Lds) (k : Int) (Z : Int → Int) (p q : Nat) (I : Int → Int) : Prop where
 rng : ∀ j : Int, 0 ≤ j → j < q → 0 ≤ I j ∧ I j < l.n
 ne : ∀ a b : Int, 0 ≤ a → a < b → b < q → I a ≠ I b
 mem : ∀ i : Int, (∃ j : Int, (0 ≤ j ∧ j < q) ∧ I j = i) ↔ grd l k Z p i
 le : q ≤ p
theorem Tkn.zero {l : Lds} {k : Int} {Z I : Int → Int} : Tkn l k Z 0 0 I := ⟨fun j a b => by omega, fun a b c d e => by omega, fun i => ⟨fun ⟨j, hj, _⟩ => by omega, fun h => h.elim⟩, Nat.le_refl _⟩
section
variable {l : Lds} {k : Int} {Z I : Int → Int} {p q : Nat}
theorem Tkn.more (h : Tkn l k Z p q I) (hZ : SrtW l Z) (hp : p < l.n) : (∀ j : Int, 0 ≤ j → j < ((q + 1 : Nat) : Int) → 0 ≤ upd I q (Z p) j ∧ upd I q (Z p) j < l.n) ∧ (∀ a b : Int, 0 ≤ a → a < b → b < ((q + 1 : Nat) : Int) → upd I q (Z p) a ≠ upd I q (Z p) b) ∧ ∀ i : Int, (∃ j : Int, (0 ≤ j ∧ j < ((q + 1 : Nat) : Int)) ∧ upd I q (Z p) j = i) ↔ (grd l k Z p i ∨ i = Z p) := by
 refine ⟨fun j j0 j1 => ?_, fun a b a0 ab b1 => ?_, fun i => ?_⟩
 ·by_cases c : j = q
  ·rw [c, upd_same]; exact hZ.rng (by omega) (by omega)
  ·rw [upd_ne _ _ c]; exact h.rng j j0 (by omega)
 ·rw [upd_ne _ _ (show a ≠ q by omega)]
  by_cases c : b = q
  ·rw [c, upd_same]
   intro e
   have := (h.mem (I a)).1 ⟨a, by omega, rfl⟩
   obtain ⟨r, hr, er⟩ := grd_in this
   exact hZ.ne r p hr.1 hr.2 (by omega) (er.trans e)
  ·rw [upd_ne _ _ c]; exact h.ne a b a0 ab (by omega)
 ·rw [← h.mem i]
  constructor
  ·rintro ⟨j, hj, e⟩
   by_cases c : j = q
   ·rw [c, upd_same] at e; exact .inr e.symm
   ·rw [upd_ne _ _ c] at e; exact .inl ⟨j, by omega, e⟩
  ·rintro (⟨j, hj, e⟩ | e)
   ·exact ⟨j, by omega, by rw [upd_ne _ _ (by omega)]; exact e⟩
   ·exact ⟨q, by omega, by rw [upd_same, e]⟩
theorem Tkn.yes (h : Tkn l k Z p q I) (hZ : SrtW l Z) (hp : p < l.n) (hc : CanM l k fun j => grd l k Z p j ∨ j = Z p) : Tkn l k Z (p + 1) (q + 1) (upd I q (Z p)) := by
 obtain ⟨a, b, c⟩ := h.more hZ hp
 refine ⟨a, b, fun i => (c i).trans ⟨fun x => x.imp id fun e => ⟨e, hc⟩, fun x => x.imp id fun e => e.1⟩, by have := h.le; omega⟩
theorem Tkn.no (h : Tkn l k Z p q I) (hc : ¬ CanM l k fun j => grd l k Z p j ∨ j = Z p) : Tkn l k Z (p + 1) q I :=
 ⟨h.rng, h.ne, fun i => (h.mem i).trans ⟨.inl, fun x => x.elim id fun e => absurd e.2 hc⟩, by have := h.le; omega⟩
theorem Tkn.can (h : Tkn l k Z p q I) (hZ : SrtW l Z) (hp : p < l.n) : CanM (l.pick (q + 1) (upd I q (Z p))) k (fun _ => True) ↔ CanM l k fun j => grd l k Z p j ∨ j = Z p := by
 obtain ⟨a, b, c⟩ := h.more hZ hp
 exact (Lds.pick_can a b).trans (CanM.congr fun i _ _ => c i)
theorem Tkn.valid (h : Tkn l k Z p q I) (hV : l.Valid) (hZ : SrtW l Z) (hp : p < l.n) : (l.pick (q + 1) (upd I q (Z p))).Valid := fun j j0 j1 => by
 have := (h.more hZ hp).1 j j0 j1
 exact hV _ this.1 this.2
theorem pick_row {v : Value} {E : TypeId} {c : Option Blk} {us : List Value} {i : Int} (h : SRow v E 4 (q + 1) (upd (ldF (l.pick q I)) q us) c) (hu : us = ldF l i) : SRow v E 4 (q + 1) (ldF (l.pick (q + 1) (upd I q i))) c := h.congr fun j j0 j1 => by
 by_cases e : j = q
 ·rw [e, upd_same, hu]
  unfold ldF Lds.pick
  dsimp only
  rw [upd_same]
 ·rw [upd_ne _ _ e]
  unfold ldF Lds.pick
  dsimp only
  rw [upd_ne _ _ e]
end
set_option maxHeartbeats 8000000 in
theorem Best_any (la : Option Addr) (lc : Nat) (l : Lds) (k : Int) (w : World) (hn : l.n ≤ 100000) (hn2 : l.chkK k = 0 → l.n ≤ 20) (hI : l.I64) (hl : SAt w.heap.size w la 4 l.n (ldF l)) :
  Calls Tryz.prog 16 #[.slice la l.n lc, iv k] w fun e w' => ∃ (ba : Option Addr) (bn bc : Nat) (Y : Int → Int) (s : Int) (cb : Option Blk), e = .returned (.tuple #[.slice ba bn bc, iv s, iv (l.bestE k)]) ∧ IRow (.slice ba bn bc) 3 bn (fun i => iv (Y i)) cb ∧
   (l.bestE k = 0 → ∃ Z, SrtW l Z ∧ Rise bn Y ∧ (∀ i : Int, (∃ j : Int, (0 ≤ j ∧ j < bn) ∧ Y j = i) ↔ grd l k Z l.n i) ∧ bn ≤ l.n ∧ s = sm (fun i => ind (grd l k Z l.n i) * l.wo i) l.n) ∧ (l.bestE k ≠ 0 → bn = 0 ∧ s = 0) ∧ Own w.heap.size w w' [cb] := by
 obtain ⟨lb, lo, hla, hlr⟩ := hl.open (by decide)
 refine calls_of_run (F := [(0, _), (1, _)]) Tryz.func16 rfl Tryz.ntmps16 rfl rfl ?_
 have hO0 := Own.init w
 refine run_seq <| run_region <| rl_ow rfl (ow_box _ rfl rfl rfl rfl rfl hO0) ?_
 rintro _ w1 ⟨tb, rfl, hO2, hs3⟩
 refine rl_v rfl rfl rfl (ov_assign rfl rfl) <| rl_v rfl rfl rfl (ov_assign rfl rfl) <| rl_v rfl rfl rfl (ov_assign rfl rfl) <| rl_nil <| run_scope <| run_seq <| run_seq <| run_region <| rl_v rfl rfl rfl (ov_load rfl Tryz.underlying24 rfl rfl (by exact hO2.cellL 0 rfl (off := 0) rfl)) ?_
 refine rl_v rfl rfl rfl (ov_move rfl rfl) ?_
 refine rl_call callable_23 rfl rfl rfl rfl rfl rfl (checkKilns_any la lc l k _ hn hI (hO2.satU hl)) (fun e4 w5 hp6 => ?_)
 obtain ⟨rfl, hOa⟩ := hp6
 refine ⟨_, rfl, ?_⟩
 have hO7 := hO2.join hOa
 refine rl_v rfl rfl rfl (ov_assign rfl rfl) <| rl_nil <| run_seq <| run_region <| rl_v rfl rfl rfl (ov_move rfl rfl) <| rl_v rfl rfl rfl (ov_neq rfl rfl rfl) <| rl_nil ?_
 first | refine run_cond_dec rfl (fun c1 => ?_) (fun c1 => ?_) | refine run_cond rfl (fun c1 => ?_) (fun c1 => ?_)
 ·have hE : l.bestE k = l.chkK k := by unfold Lds.bestE; rw [if_neg c1]
  refine run_seq <| run_region <| rl_v rfl rfl rfl (ov_move rfl rfl) <| rl_v rfl rfl rfl (ov_assign rfl rfl) <| rl_v rfl rfl rfl (ov_assign rfl rfl) <| rl_v rfl rfl rfl (ov_assign rfl rfl) <| rl_nil <| run_ret Tryz.func16 (res3 Tryz.results16 rfl rfl rfl) ?_
  exact ⟨none, 0, 0, fun _ => 0, 0, none, by rw [hE], IRow.nil _ _, fun h => absurd (hE ▸ h) c1, fun _ => ⟨rfl, rfl⟩, (hO7.sub (List.nil_sublist _)).nil_cons⟩
 ·have c1' : l.chkK k = 0 := Classical.not_not.1 c1
  obtain ⟨h1, h2, h3, h4⟩ := Lds.chkK_ne c1'
  have hn20 := hn2 c1'
  refine run_skip <| run_seq <| run_seq <| run_region <| rl_v rfl rfl rfl (ov_load rfl Tryz.underlying24 rfl rfl (by exact hO7.cellL 0 rfl (off := 0) rfl)) ?_
  refine rl_call callable_34 rfl rfl rfl rfl rfl rfl (areShort_any la lc l _ hn (hO7.satU hl)) (fun e8 w9 hp10 => ?_)
  obtain ⟨rfl, hOb⟩ := hp10
  refine ⟨_, rfl, ?_⟩
  have hO11 := hO7.join hOb
  refine rl_v rfl rfl rfl (ov_not rfl rfl) <| rl_nil ?_
  first | refine run_cond_dec rfl (fun c2 => ?_) (fun c2 => ?_) | refine run_cond rfl (fun c2 => ?_) (fun c2 => ?_)
  ·have c2' : ¬ l.Short := by simpa using c2
   have hE : l.bestE k = 7 := by unfold Lds.bestE; rw [if_pos c1', if_neg c2']
   refine run_seq <| run_region <| rl_v rfl rfl rfl (ov_assign rfl rfl) <| rl_v rfl rfl rfl (ov_assign rfl rfl) <| rl_v rfl rfl rfl (ov_assign rfl rfl) <| rl_nil <| run_ret Tryz.func16 (res3 Tryz.results16 rfl rfl rfl) ?_
   exact ⟨none, 0, 0, fun _ => 0, 0, none, by rw [hE], IRow.nil _ _, fun h => by rw [hE] at h; omega, fun _ => ⟨rfl, rfl⟩, (hO11.sub (List.nil_sublist _)).nil_cons⟩
  ·have c2' : l.Short := by simpa using c2
   have hE : l.bestE k = 0 := by unfold Lds.bestE; rw [if_pos c1', if_pos c2']
   refine run_skip <| run_seq <| run_region <| rl_v rfl rfl rfl (ov_load rfl Tryz.underlying24 rfl rfl (by exact hO11.cellL 0 rfl (off := 0) rfl)) ?_
   refine rl_v rfl rfl rfl (ov_len rfl Tryz.underlying24 rfl) ?_
   refine rl_make (l.n) rfl rfl rfl rfl Tryz.underlying36 info_3 rfl hO11 rfl rfl (by rfl) (by rfl) ⟨by omega, by omega⟩ (fun ob w12 hO13 hs14 => ?_)
   refine rl_v rfl rfl rfl (ov_assign rfl rfl) <| rl_nil <| run_seq <| run_seq <| run_region <| rl_v rfl rfl rfl (ov_move rfl rfl) <| rl_v rfl rfl rfl (ov_len rfl Tryz.underlying36 rfl) <| rl_v rfl rfl rfl (ov_move rfl rfl) <| rl_nil <| run_block <| Run.keep [1, 2, 8, 31, 32] (F' := [(1, _), (2, _), (8, _), (31, _), (32, _)]) rfl <| run_loop1 (fun (i : Nat) => [(32, .int .i64 (i : Int))]) [1, 2, 8, 31] (fun (i : Nat) (w15 : World) => i ≤ l.n ∧ Own w.heap.size w w15 [some (vch ob 3 l.n (fun j => iv (if j < (i : Int) then j else 0))), some (lch tb 24 [.slice la l.n lc])]) (fun (i : Nat) => l.n - i) (0) ?_ (And.intro (by exact slot_int rfl (by first | omega)) (And.intro rfl (And.intro rfl (And.intro rfl (And.intro rfl trivial))))) ?_
   ·exact ⟨Nat.zero_le _, hO13.congrI 0 rfl fun v v0 v1 => by rw [if_neg (by omega)]⟩
   intro i w15 hIw15 ih16
   obtain ⟨hi, hOc⟩ := hIw15
   show Run _ _ _ _ [(32, _), (1, _), (2, _), (8, _), (31, _)] _ _
   refine run_seq <| run_region <| rl_v rfl rfl rfl (ov_lss rfl rfl rfl) <| rl_nil <| run_seq ?_
   first | refine run_cond_dec rfl (fun c3 => ?_) (fun c3 => ?_) | refine run_cond rfl (fun c3 => ?_) (fun c3 => ?_)
   ·refine run_skip <| run_seq <| run_block <| run_seq <| run_region <| rl_v rfl rfl rfl (ov_move rfl rfl) <| rl_v rfl rfl rfl (ov_assign rfl rfl) <| rl_nil <| run_region <| rl_v rfl rfl rfl (ov_move rfl rfl) <| rl_v rfl rfl rfl (ov_move rfl rfl) <| rl_v rfl rfl rfl (ov_move rfl rfl) <| rl_v rfl rfl rfl (ov_index1 rfl Tryz.underlying36 (by kernel_rfl) rfl rfl ⟨by omega, by omega⟩ rfl) ?_
    first | refine rl_storeI rfl rfl rfl (by kernel_rfl) hOc 0 rfl rfl ⟨by omega, by omega⟩ rfl (fun w17 hO18 hs19 => ?_)
    have hOs := hO18.congrI 0 rfl (G' := fun j => iv (if j < ((i + 1 : Nat) : Int) then j else 0)) (fun v v0 v1 => by
     by_cases e : v = (i : Int)
     ·rw [e, upd_same, if_pos (by omega)]
     ·rw [upd_ne _ _ e]
      by_cases e2 : v < i
      ·rw [if_pos e2, if_pos (by omega)]
      ·rw [if_neg e2, if_neg (by omega)])
    refine rl_nil <| run_inBlock <| run_region <| rl_v rfl rfl rfl (ov_add rfl rfl rfl (by omega)) ?_
    refine rl_v rfl rfl rfl (ov_move rfl rfl) <| rl_nil ?_
    refine Run.use (ih16 (i + 1) _ ?_ ?_) (And.intro (by exact slot_int rfl (by first | omega)) (And.intro rfl (And.intro rfl (And.intro rfl (And.intro rfl trivial)))))
    ·first | omega | (dsimp only; omega)
    ·exact ⟨by omega, hOs⟩
   ·have hin : i = l.n := by omega
    have hro : IRow (.slice (some ⟨ob, 0, none⟩) l.n l.n) 3 l.n (fun j => iv ((fun i : Int => i) j)) (some (vch ob 3 l.n (fun j => iv (if j < (i : Int) then j else 0)))) := IRow.ofV (Nat.le_refl _) (by unfold maxLen; omega) fun v v0 v1 => by rw [if_pos (by omega)]
    refine run_exit rfl <| run_seq <| run_region <| rl_v rfl rfl rfl (ov_move rfl rfl) <| rl_v rfl rfl rfl (ov_func rfl rfl rfl) ?_
    refine rl_call callable_36 rfl rfl rfl rfl rfl rfl (sortStableR7_any 37 callable_37 #[ptr tb] (fun i => -(l.wo i)) (fun i => i) (some ⟨ob, 0, none⟩) l.n l.n w.heap.size _ _ w _ hro hOc (fun x => best1_any la lc tb _ l (fun i => i) l.n w _ x h2 hl fun i a b => ⟨a, b⟩) hn20 (fun a b a0 ab b1 => ab)) (fun e20 w21 hp22 => ?_)
    obtain ⟨rfl, Z, cZ, hrZ, hZ, hOf⟩ := hp22
    refine ⟨_, rfl, ?_⟩
    have hZW : SrtW l Z := hZ
    have hOg := hOf.nil_cons.nil_cons
    refine rl_nil <| run_seq <| run_region <| rl_v rfl rfl rfl (ov_assign rfl rfl) <| rl_nil <| run_seq <| run_region <| rl_v rfl rfl rfl (ov_assign rfl rfl) <| rl_nil <| run_seq <| run_region <| rl_v rfl rfl rfl (ov_assign rfl rfl) <| rl_nil <| run_seq <| run_label <| run_seq <| run_seq <| run_region <| rl_v rfl rfl rfl (ov_move rfl rfl) <| rl_v rfl rfl rfl (ov_len rfl Tryz.underlying36 rfl) <| rl_v rfl rfl rfl (ov_move rfl rfl) <| rl_nil <| run_block <| Run.keep [1, 2, 10, 11, 12, 43, 44, 45] (F' := [(1, _), (2, _), (10, _), (11, _), (12, _), (43, _), (44, _), (45, _)]) rfl <| run_loop4 (fun (p : Nat) (s : Int) (v1 : Value) (v2 : Value) => [(45, .int .i64 (p : Int)), (12, .int .i64 s), (10, v1), (11, v2)]) [1, 2, 43, 44] (fun (p : Nat) (s : Int) (v1 : Value) (v2 : Value) (w23 : World) => p ≤ l.n ∧ ∃ (q : Nat) (I : Int → Int) (ca cb : Option Blk), Tkn l k Z p q I ∧ s = sm (fun j => l.wo (I j)) q ∧ IRow v1 3 q (fun j => iv (I j)) ca ∧ SRow v2 58 4 q (ldF (l.pick q I)) cb ∧ Own w.heap.size w w23 [ca, cb, cZ, some (lch tb 24 [.slice la l.n lc])]) (fun (p : Nat) (s : Int) (v1 : Value) (v2 : Value) => l.n - p) (0) (0) (.slice none 0 0) (.slice none 0 0) ?_ (And.intro (by exact slot_int rfl (by first | omega)) (And.intro (by exact slot_int rfl (by first | omega)) (And.intro rfl (And.intro rfl (And.intro rfl (And.intro rfl (And.intro rfl (And.intro rfl trivial)))))))) ?_
    ·exact ⟨Nat.zero_le _, 0, fun _ => 0, none, none, Tkn.zero, rfl, IRow.nil _ _, SRow.nil _ _ _, hOg⟩
    intro p s v1 v2 w23 hIw23 ih24
    obtain ⟨hp, q, I, ca, cb, hT, hs, hr1, hr2, hOh⟩ := hIw23
    show Run _ _ _ _ [(45, _), (12, _), (10, _), (11, _), (1, _), (2, _), (43, _), (44, _)] _ _
    refine run_seq <| run_region <| rl_v rfl rfl rfl (ov_lss rfl rfl rfl) <| rl_nil <| run_seq ?_
    first | refine run_cond_dec rfl (fun c4 => ?_) (fun c4 => ?_) | refine run_cond rfl (fun c4 => ?_) (fun c4 => ?_)
    ·have hzp := hZW.rng (p := p) (by omega) (by omega)
     have hvz := h2 (Z p) hzp.1 hzp.2
     unfold Lds.Val at hvz
     have hqp := hT.le
     obtain ⟨sa1, sc1, rfl⟩ := Row.val hr1
     obtain ⟨ta, tc, rfl⟩ := Row.val hr2
     obtain ⟨b, hb⟩ : ∃ b, b = Z p := ⟨_, rfl⟩
     rw [← hb] at hzp hvz
     have hmore := hT.can hZW (by omega)
     have hval := hT.valid h2 hZW (by omega)
     rw [← hb] at hmore hval
     refine run_skip <| run_seq <| run_block <| run_seq <| run_region <| rl_v rfl rfl rfl (ov_index1 rfl Tryz.underlying36 (by kernel_rfl) rfl rfl ⟨by omega, by omega⟩ (by rfl)) ?_
     refine rl_v rfl rfl rfl (ov_load rfl Tryz.underlying3 rfl rfl (by exact (hrZ.cellU hOh 2 rfl rfl (i := p) (by omega) (by omega)).trans (congrArg (fun z => some (iv z)) hb.symm))) ?_
     refine rl_v rfl rfl rfl (ov_assign rfl rfl) <| rl_nil <| run_seq <| Run.keep [1, 2, 10, 11, 12, 14, 43, 44, 45] (F' := [(1, _), (2, _), (10, _), (11, _), (12, _), (14, _), (43, _), (44, _), (45, _)]) rfl <| run_join1 (fun (v56 : Value) => [(15, v56)]) [1, 2, 10, 11, 12, 14, 43, 44, 45] (fun (v56 : Value) (w25 : World) => ∃ c56 : Option Blk, SRow v56 58 4 (q + 1) (ldF (l.pick (q + 1) (upd I q b))) c56 ∧ Own w.heap.size w w25 [c56, ca, cb, cZ, some (lch tb 24 [.slice la l.n lc])]) (fun hk26 => ?_) ?_
     ·refine run_held (fun w' => Own w.heap.size w w' ([some (lch tb 24 [.slice la l.n lc])])) mixed ?_
      have hO28 := hOh.drew
      generalize World.drew w23 = w27 at hO28 ⊢
      have hS29 : Own w.heap.size w w27 ([some (lch tb 24 [.slice la l.n lc])]) := by first | exact hO28.sub (.cons _ (.cons _ (.cons _ (.cons_cons _ (List.nil_sublist _))))) | exact hO28.sub (.cons _ (.cons _ (.cons _ (.cons _ (.cons_cons _ (List.nil_sublist _)))))) | exact hO28.sub (.cons _ (.cons _ (.cons _ (.cons _ (.cons _ (.cons_cons _ (List.nil_sublist _)))))))
      refine rh_v 0 rfl (by kernel_rfl) rfl rfl rfl hS29 (fun _ hS => ov_move rfl rfl) ?_
      refine rh_v 2 rfl (by kernel_rfl) rfl rfl rfl hS29 (fun _ hS => ov_load rfl Tryz.underlying24 rfl rfl (by exact hS.cellL 0 rfl (off := 0) rfl)) ?_
      refine rh_v 3 rfl (by kernel_rfl) rfl rfl rfl hS29 (fun _ hS => ov_move rfl rfl) ?_
      refine rh_v 4 rfl (by kernel_rfl) rfl rfl rfl hS29 (fun _ hS => ov_index rfl Tryz.underlying24 (by kernel_rfl) (s := 4) rfl rfl ⟨by omega, by omega⟩ (by exact hla (by omega))) ?_
      refine rh_v 5 rfl (by kernel_rfl) rfl rfl rfl hS29 (fun _ hS => ov_loadE rfl Tryz.underlying58 rfl (by kernel_rfl) rfl ⟨by omega, by omega⟩ rfl (hlr _ hS.below)) ?_
      refine rh_any2 1 6 (by kernel_rfl) ?_ ?_
      ·refine rc_op rfl rfl (ow_call2 callable_33 rfl rfl rfl rfl rfl (cloneLd_any ta q tc (l.pick q I) _ (by omega) (hr2.reads hO28 1 rfl)) (by intro e w' hp; obtain ⟨v50, c50, rfl, hr50, hOi⟩ := hp; exact ⟨_, rfl⟩)) ?_
       rintro _ w32 ⟨_, v30, he33, rfl, hp31⟩
       obtain ⟨v50, c50, rfl, hr50, hOi⟩ := hp31
       injection he33 with he33; subst he33
       have hO34 := hO28.join hOi
       have hS35 : Own w.heap.size w w32 ([some (lch tb 24 [.slice la l.n lc])]) := by first | exact hO34.sub (.cons _ (.cons _ (.cons _ (.cons_cons _ (List.nil_sublist _))))) | exact hO34.sub (.cons _ (.cons _ (.cons _ (.cons _ (.cons_cons _ (List.nil_sublist _)))))) | exact hO34.sub (.cons _ (.cons _ (.cons _ (.cons _ (.cons _ (.cons_cons _ (List.nil_sublist _)))))))
       refine ⟨hS35, ?_⟩
       refine rh_any1 6 (by kernel_rfl) ?_
       refine rc_op rfl rfl (ow_build [_] rfl rfl rfl rfl rfl Tryz.underlying24 info_58 (by decide) hO34 rfl rfl) ?_
       rintro _ w36 ⟨b55, rfl, hO37, hs38⟩
       have hS39 : Own w.heap.size w w36 ([some (lch tb 24 [.slice la l.n lc])]) := by first | exact hO37.sub (.cons _ (.cons _ (.cons _ (.cons_cons _ (List.nil_sublist _))))) | exact hO37.sub (.cons _ (.cons _ (.cons _ (.cons _ (.cons_cons _ (List.nil_sublist _)))))) | exact hO37.sub (.cons _ (.cons _ (.cons _ (.cons _ (.cons _ (.cons_cons _ (List.nil_sublist _)))))))
       refine ⟨hS39, ?_⟩
       refine rh_any1 7 (by kernel_rfl) ?_
       refine rc_op rfl rfl (ow_appR1 rfl rfl rfl Tryz.underlying24 info_58 rfl rfl hO37 0 hr50 rfl rfl rfl rfl rfl ⟨by omega, by omega⟩) ?_
       rintro _ w40 ⟨v56, c56, rfl, hO41, hr56, hs42⟩
       have hS43 : Own w.heap.size w w40 ([some (lch tb 24 [.slice la l.n lc])]) := by first | exact hO41.sub (.cons _ (.cons _ (.cons _ (.cons_cons _ (List.nil_sublist _))))) | exact hO41.sub (.cons _ (.cons _ (.cons _ (.cons _ (.cons_cons _ (List.nil_sublist _)))))) | exact hO41.sub (.cons _ (.cons _ (.cons _ (.cons _ (.cons _ (.cons_cons _ (List.nil_sublist _)))))))
       refine ⟨hS43, ?_⟩
       refine rh_v 8 rfl (by kernel_rfl) rfl rfl rfl hS43 (fun _ hS => ov_assign rfl rfl) ?_
       refine rh_done (by kernel_rfl) ?_
       refine Run.use (hk26 (v56) _ ?_) (And.intro rfl (And.intro rfl (And.intro rfl (And.intro rfl (And.intro rfl (And.intro rfl (And.intro rfl (And.intro rfl (And.intro rfl (And.intro rfl trivial))))))))))
       exact ⟨c56, pick_row hr56 rfl, hO41⟩
      ·refine rc_op rfl rfl (ow_build [_] rfl rfl rfl rfl rfl Tryz.underlying24 info_58 (by decide) hO28 rfl rfl) ?_
       rintro _ w44 ⟨b55, rfl, hO45, hs46⟩
       have hS47 : Own w.heap.size w w44 ([some (lch tb 24 [.slice la l.n lc])]) := by first | exact hO45.sub (.cons _ (.cons _ (.cons _ (.cons_cons _ (List.nil_sublist _))))) | exact hO45.sub (.cons _ (.cons _ (.cons _ (.cons _ (.cons_cons _ (List.nil_sublist _)))))) | exact hO45.sub (.cons _ (.cons _ (.cons _ (.cons _ (.cons _ (.cons_cons _ (List.nil_sublist _)))))))
       refine ⟨hS47, ?_⟩
       refine rh_any1 1 (by kernel_rfl) ?_
       refine rc_op rfl rfl (ow_call2 callable_33 rfl rfl rfl rfl rfl (cloneLd_any ta q tc (l.pick q I) _ (by omega) (hr2.reads hO45 2 rfl)) (by intro e w' hp; obtain ⟨v50, c50, rfl, hr50, hOi⟩ := hp; exact ⟨_, rfl⟩)) ?_
       rintro _ w50 ⟨_, v48, he51, rfl, hp49⟩
       obtain ⟨v50, c50, rfl, hr50, hOi⟩ := hp49
       injection he51 with he51; subst he51
       have hO52 := hO45.join hOi
       have hOp := hO52.perm (List.Perm.swap _ _ _)
       have hS53 : Own w.heap.size w w50 ([some (lch tb 24 [.slice la l.n lc])]) := by first | exact hOp.sub (.cons _ (.cons _ (.cons _ (.cons_cons _ (List.nil_sublist _))))) | exact hOp.sub (.cons _ (.cons _ (.cons _ (.cons _ (.cons_cons _ (List.nil_sublist _)))))) | exact hOp.sub (.cons _ (.cons _ (.cons _ (.cons _ (.cons _ (.cons_cons _ (List.nil_sublist _)))))))
       refine ⟨hS53, ?_⟩
       refine rh_any1 7 (by kernel_rfl) ?_
       refine rc_op rfl rfl (ow_appR1 rfl rfl rfl Tryz.underlying24 info_58 rfl rfl hOp 0 hr50 rfl rfl rfl rfl rfl ⟨by omega, by omega⟩) ?_
       rintro _ w54 ⟨v56, c56, rfl, hO55, hr56, hs56⟩
       have hS57 : Own w.heap.size w w54 ([some (lch tb 24 [.slice la l.n lc])]) := by first | exact hO55.sub (.cons _ (.cons _ (.cons _ (.cons_cons _ (List.nil_sublist _))))) | exact hO55.sub (.cons _ (.cons _ (.cons _ (.cons _ (.cons_cons _ (List.nil_sublist _)))))) | exact hO55.sub (.cons _ (.cons _ (.cons _ (.cons _ (.cons _ (.cons_cons _ (List.nil_sublist _)))))))
       refine ⟨hS57, ?_⟩
       refine rh_v 8 rfl (by kernel_rfl) rfl rfl rfl hS57 (fun _ hS => ov_assign rfl rfl) ?_
       refine rh_done (by kernel_rfl) ?_
       refine Run.use (hk26 (v56) _ ?_) (And.intro rfl (And.intro rfl (And.intro rfl (And.intro rfl (And.intro rfl (And.intro rfl (And.intro rfl (And.intro rfl (And.intro rfl (And.intro rfl trivial))))))))))
       exact ⟨c56, pick_row hr56 rfl, hO55⟩
     ·intro v56 w25 hJw25
      obtain ⟨c56, hr56, hOj⟩ := hJw25
      show Run _ _ _ _ [(15, _), (1, _), (2, _), (10, _), (11, _), (12, _), (14, _), (43, _), (44, _), (45, _)] _ _
      obtain ⟨ma, mc, rfl⟩ := Row.val hr56
      refine run_seq <| run_seq <| run_region <| rl_v rfl rfl rfl (ov_move rfl rfl) <| rl_v rfl rfl rfl (ov_move rfl rfl) ?_
      refine rl_call callable_35 rfl rfl rfl rfl rfl rfl (early_any ma mc (l.pick (q + 1) (upd I q b)) k _ (show q + 1 ≤ 20 by omega) hval h3 (hr56.reads hOj 0 rfl)) (fun e58 w59 hp60 => ?_)
      obtain ⟨oa, on, oc, out, co, rfl, _, _, _, hOk⟩ := hp60
      refine ⟨_, rfl, ?_⟩
      have hO61 := hOj.join hOk
      refine rl_v rfl rfl rfl (ov_move rfl rfl) <| rl_v rfl rfl rfl (ov_extract rfl rfl (by rfl)) ?_
      refine rl_v rfl rfl rfl (ov_extract rfl rfl (by rfl)) ?_
      refine rl_v rfl rfl rfl (ov_assign rfl rfl) <| rl_v rfl rfl rfl (ov_assign rfl rfl) <| rl_nil <| run_seq <| run_region <| rl_v rfl rfl rfl (ov_move rfl rfl) <| rl_v rfl rfl rfl (ov_not rfl rfl) <| rl_nil ?_
      first | refine run_cond_dec rfl (fun c5 => ?_) (fun c5 => ?_) | refine run_cond rfl (fun c5 => ?_) (fun c5 => ?_)
      ·have hno : ¬ CanM l k fun j => grd l k Z p j ∨ j = Z p := by
        rw [← hb, ← hmore]
        simpa using c5
       refine run_exit rfl <| run_region <| rl_v rfl rfl rfl (ov_add rfl rfl rfl (by omega)) ?_
       refine rl_v rfl rfl rfl (ov_move rfl rfl) <| rl_nil ?_
       refine Run.use (ih24 (p + 1) (s) (.slice sa1 q sc1) (.slice ta q tc) _ ?_ ?_) (And.intro (by exact slot_int rfl (by first | omega)) (And.intro (by exact slot_int rfl (by first | omega)) (And.intro rfl (And.intro rfl (And.intro rfl (And.intro rfl (And.intro rfl (And.intro rfl trivial))))))))
       ·first | omega | (dsimp only; omega)
       ·exact ⟨by omega, q, I, ca, cb, hT.no hno, hs, hr1, hr2, hO61.sub (.cons _ (.cons _ (List.Sublist.refl _)))⟩
      ·have hyes : CanM l k fun j => grd l k Z p j ∨ j = Z p := by
        rw [← hb, ← hmore]
        simpa using c5
       have hT2 := hT.yes hZW (by omega) hyes
       rw [← hb] at hT2
       have hs0 : 0 ≤ s := by rw [hs]; exact sm_nonneg fun j j0 j1 => by have a := hT.rng j j0 j1; have := h2 (I j) a.1 a.2; unfold Lds.Val at this; omega
       have hs1 : s ≤ q * 1000000 := by rw [hs]; exact sm_bound _ (by omega) fun j j0 j1 => by have a := hT.rng j j0 j1; have := h2 (I j) a.1 a.2; unfold Lds.Val at this; omega
       have hss : s + l.wo b = sm (fun j => l.wo (upd I q b j)) ((q + 1 : Nat) : Int) := by
        rw [show ((q + 1 : Nat) : Int) = (q : Int) + 1 by omega, sm_succ _ (by omega), upd_same, sm_congr (g := fun j => l.wo (I j)) fun j j0 j1 => by rw [upd_ne _ _ (by omega)], hs]
       refine run_skip <| run_held (fun w' => Own w.heap.size w w' ([some (lch tb 24 [.slice la l.n lc])])) mixed ?_
       have hO63 := hO61.drew
       generalize World.drew w59 = w62 at hO63 ⊢
       have hS64 : Own w.heap.size w w62 ([some (lch tb 24 [.slice la l.n lc])]) := by first | exact hO63.sub (.cons _ (.cons _ (.cons _ (.cons _ (.cons _ (.cons_cons _ (List.nil_sublist _))))))) | exact hO63.sub (.cons _ (.cons _ (.cons _ (.cons _ (.cons _ (.cons _ (.cons_cons _ (List.nil_sublist _))))))))
       refine rh_v 0 rfl (by kernel_rfl) rfl rfl rfl hS64 (fun _ hS => ov_move rfl rfl) ?_
       refine rh_v 1 rfl (by kernel_rfl) rfl rfl rfl hS64 (fun _ hS => ov_move rfl rfl) ?_
       refine rh_v 4 rfl (by kernel_rfl) rfl rfl rfl hS64 (fun _ hS => ov_move rfl rfl) ?_
       refine rh_v 5 rfl (by kernel_rfl) rfl rfl rfl hS64 (fun _ hS => ov_move rfl rfl) ?_
       refine rh_v 6 rfl (by kernel_rfl) rfl rfl rfl hS64 (fun _ hS => ov_load rfl Tryz.underlying24 rfl rfl (by exact hS.cellL 0 rfl (off := 0) rfl)) ?_
       refine rh_v 7 rfl (by kernel_rfl) rfl rfl rfl hS64 (fun _ hS => ov_move rfl rfl) ?_
       refine rh_v 8 rfl (by kernel_rfl) rfl rfl rfl hS64 (fun _ hS => ov_index rfl Tryz.underlying24 (by kernel_rfl) (s := 4) rfl rfl ⟨by omega, by omega⟩ (by exact hla (by omega))) ?_
       refine rh_v 9 rfl (by kernel_rfl) rfl rfl rfl hS64 (fun _ hS => ov_fieldS rfl Tryz.underlying58 rfl (fo := 3) rfl (by kernel_rfl) rfl) ?_
       refine rh_v 10 rfl (by kernel_rfl) rfl rfl rfl hS64 (fun _ hS => ov_load rfl Tryz.underlying3 rfl rfl (by exact hlr _ hS.below b hzp.1 hzp.2 3 (by decide))) ?_
       refine rh_v 11 rfl (by kernel_rfl) rfl rfl rfl hS64 (fun _ hS => ov_add rfl rfl rfl (by omega)) ?_
       refine rh_any1 2 (by kernel_rfl) ?_
       refine rc_op rfl rfl (ow_one rfl rfl rfl Tryz.underlying36 info_3 rfl hO63 rfl rfl) ?_
       rintro _ w65 ⟨b67, rfl, hO66, hs67⟩
       have hS68 : Own w.heap.size w w65 ([some (lch tb 24 [.slice la l.n lc])]) := by first | exact hO66.sub (.cons _ (.cons _ (.cons _ (.cons _ (.cons _ (.cons_cons _ (List.nil_sublist _))))))) | exact hO66.sub (.cons _ (.cons _ (.cons _ (.cons _ (.cons _ (.cons _ (.cons_cons _ (List.nil_sublist _))))))))
       refine ⟨hS68, ?_⟩
       refine rh_any1 3 (by kernel_rfl) ?_
       refine rc_op rfl rfl (ow_app1 rfl rfl rfl Tryz.underlying36 info_3 rfl hO66 2 hr1 rfl rfl rfl rfl ⟨by omega, by omega⟩) ?_
       rintro _ w69 ⟨v68, c68, rfl, hO70, hr68, hs71⟩
       have hS72 : Own w.heap.size w w69 ([some (lch tb 24 [.slice la l.n lc])]) := by first | exact hO70.sub (.cons _ (.cons _ (.cons _ (.cons _ (.cons _ (.cons_cons _ (List.nil_sublist _))))))) | exact hO70.sub (.cons _ (.cons _ (.cons _ (.cons _ (.cons _ (.cons _ (.cons_cons _ (List.nil_sublist _))))))))
       refine ⟨hS72, ?_⟩
       have hr69 : IRow v68 3 (q + 1) (fun j => iv (upd I q b j)) c68 := hr68.congr fun j _ _ => by unfold upd; split <;> rfl
       have hOz := (hO70.sub (.cons _ (.cons_cons _ (.cons_cons _ (.cons _ (List.Sublist.refl _))))) : Own _ _ _ [c56, c68, cZ, some (lch tb 24 [.slice la l.n lc])]).perm (List.Perm.swap _ _ _)
       refine rh_v 12 rfl (by kernel_rfl) rfl rfl rfl hS72 (fun _ hS => ov_assign rfl rfl) ?_
       refine rh_v 13 rfl (by kernel_rfl) rfl rfl rfl hS72 (fun _ hS => ov_assign rfl rfl) ?_
       refine rh_v 14 rfl (by kernel_rfl) rfl rfl rfl hS72 (fun _ hS => ov_assign rfl rfl) ?_
       refine rh_done (by kernel_rfl) ?_
       refine run_inBlock <| run_region <| rl_v rfl rfl rfl (ov_add rfl rfl rfl (by omega)) ?_
       refine rl_v rfl rfl rfl (ov_move rfl rfl) <| rl_nil ?_
       refine Run.use (ih24 (p + 1) (s + l.wo b) (v68) (.slice ma (q + 1) mc) _ ?_ ?_) (And.intro (by exact slot_int rfl (by first | omega)) (And.intro (by exact slot_int rfl (by first | omega)) (And.intro rfl (And.intro rfl (And.intro rfl (And.intro rfl (And.intro rfl (And.intro rfl trivial))))))))
       ·first | omega | (dsimp only; omega)
       ·exact ⟨by omega, q + 1, upd I q b, c68, c56, hT2, hss, hr69, hr56, hOz⟩
    ·have hpn : p = l.n := by omega
     rw [hpn] at hT
     obtain ⟨sa1, sc1, rfl⟩ := Row.val hr1
     have hqn := hT.le
     have hinj : ∀ a b : Int, 0 ≤ a → a < q → 0 ≤ b → b < q → I a = I b → a = b := fun a b a0 a1 b0 b1 e => by
      rcases Int.lt_trichotomy a b with d | d | d
      ·exact absurd e (hT.ne a b a0 d b1)
      ·exact d
      ·exact absurd e.symm (hT.ne b a b0 d a1)
     refine run_exit rfl <| run_seq <| run_region <| rl_v rfl rfl rfl (ov_move rfl rfl) ?_
     refine rl_call callable_38 rfl rfl rfl rfl rfl rfl (sortR_any sa1 sc1 q I ca _ w.heap.size w _ hr1 (by omega) hinj hOh) (fun e73 w74 hp75 => ?_)
     obtain ⟨rfl, Y, cY, hrY, hRi, hmem, hOl⟩ := hp75
     refine ⟨_, rfl, ?_⟩
     have hsum : s = sm (fun i => ind (grd l k Z l.n i) * l.wo i) l.n := by
      rw [hs, sm_img (I := I) (n := l.n) (fun i => l.wo i) q hT.rng hT.ne]
      exact sm_congr fun i _ _ => by rw [ind_congr (hT.mem i)]
     refine rl_nil <| run_seq <| run_region <| rl_v rfl rfl rfl (ov_move rfl rfl) <| rl_v rfl rfl rfl (ov_move rfl rfl) <| rl_v rfl rfl rfl (ov_assign rfl rfl) <| rl_v rfl rfl rfl (ov_assign rfl rfl) <| rl_v rfl rfl rfl (ov_assign rfl rfl) <| rl_nil <| run_ret Tryz.func16 (res3 Tryz.results16 rfl rfl rfl) ?_
     exact ⟨sa1, q, sc1, Y, s, cY, by rw [hE], hrY, fun _ => ⟨Z, hZW, hRi, fun i => (hmem i).trans (hT.mem i), hqn, hsum⟩, fun h => absurd hE h, hOl.sub (.cons_cons _ (List.nil_sublist _))⟩
end Go.Proofs.YtbepolognfdkeaaGreat
