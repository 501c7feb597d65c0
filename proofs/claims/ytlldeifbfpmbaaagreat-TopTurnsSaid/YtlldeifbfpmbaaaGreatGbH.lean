import Derived.Test.YtlldeifbfpmbaaaGreatFcA
import Derived.Test.YtlldeifbfpmbaaaGreatGbD
import Derived.Test.YtlldeifbfpmbaaaGreatGbC
set_option maxRecDepth 100000
namespace Go.Proofs.YtlldeifbfpmbaaaGreat
open Go.RowKit Go.Proofs
theorem Own.nones {B : Nat} {w0 w : World} {H : List (Option Blk)} (h : Own B w0 w H) : ∀ n : Nat, Own B w0 w (List.replicate n none ++ H)
 | 0 => h
 | n + 1 => (h.nones n).nil_cons
theorem OTab.congr2 {v : Value} {T1 T2 : TypeId} {n : Nat} {L L' : Int → Nat} {F G : Int → Int → Value} {H : List (Option Blk)} (h : OTab v T1 T2 n L F H) (hL : ∀ r : Int, 0 ≤ r → r < n → L r = L' r) (e : ∀ r c : Int, 0 ≤ r → r < n → 0 ≤ c → c < L r → F r c = G r c) : OTab v T1 T2 n L' G H := by
 obtain ⟨c, rv, ch, h1, h2, h3⟩ := h
 exact ⟨c, rv, ch, h1, h2, fun r hr => by rw [← hL r (by omega) (by omega)]; exact (h3 r hr).congr (fun i h0 hi => e r i (by omega) (by omega) h0 hi)⟩
theorem OTab.nils (b : Nat) (T1 T2 : TypeId) (n : Nat) (G : Int → Value) (F : Int → Int → Value) (hn : n ≤ maxLen) (hG : ∀ i : Int, 0 ≤ i → i < n → G i = .slice none 0 0) : OTab (.slice (some ⟨b, 0, none⟩) n n) T1 T2 n (fun _ => 0) F (some (vch b T1 n G) :: (List.range n).map fun _ => none) :=
 ⟨_, fun _ => .slice none 0 0, fun _ => none, rfl, IRow.ofV (Nat.le_refl _) hn hG, fun _ _ => IRow.nil _ _⟩
theorem tab_take {B : Nat} {w0 w : World} {v : Value} {T1 T2 : TypeId} {n : Nat} {L : Int → Nat} {F : Int → Int → Value} {H R : List (Option Blk)} {a b : Option Blk} (h : OTab v T1 T2 n L F H) (ho : Own B w0 w (a :: b :: (H ++ R))) (i : Nat) (hi : i < n) :
  ∃ (c : Option Blk) (rv : Int → Value) (ch : Nat → Option Blk), IRow v T1 n rv c ∧ (∀ r : Nat, r < n → IRow (rv r) T2 (L r) (F r) (ch r)) ∧ Own B w0 w (a :: b :: ch i :: c :: (((List.range n).erase i).map ch ++ R)) := by
 obtain ⟨c, rv, ch, rfl, h2, h3⟩ := h
 refine ⟨c, rv, ch, h2, h3, ho.perm (((?_ : List.Perm _ _).cons b).cons a)⟩
 have p := (List.perm_cons_erase (List.mem_range.2 hi)).map ch
 exact ((p.append_right R).cons c).trans (List.Perm.swap _ _ _)
theorem tab_put {B : Nat} {w0 w : World} {v x : Value} {T1 T2 : TypeId} {n m : Nat} {L : Int → Nat} {F : Int → Int → Value} {G : Int → Value} {R : List (Option Blk)} {a b y c cr : Option Blk} {rv : Int → Value} {ch : Nat → Option Blk} (i : Nat) (hi : i < n)
  (hv : IRow v T1 n (upd rv i x) c) (h3 : ∀ r : Nat, r < n → IRow (rv r) T2 (L r) (F r) (ch r)) (hx : IRow x T2 m G cr) (ho : Own B w0 w (cr :: a :: b :: y :: c :: (((List.range n).erase i).map ch ++ R))) :
  ∃ H, OTab v T1 T2 n (upd L i m) (upd F i G) H ∧ Own B w0 w (a :: b :: (H ++ R)) := by
 have ho2 := ho.sub (.cons_cons _ (.cons_cons _ (.cons_cons _ (.cons _ (.refl _)))))
 have p1 : (cr :: a :: b :: c :: (((List.range n).erase i).map ch ++ R)).Perm (cr :: c :: (((List.range n).erase i).map ch ++ (a :: b :: R))) := by
  refine List.Perm.cons _ ?_
  refine List.Perm.trans ?_ (List.perm_middle (l₁ := c :: ((List.range n).erase i).map ch)).symm
  exact ((List.perm_middle (l₁ := c :: ((List.range n).erase i).map ch)).symm).cons a
 obtain ⟨H, hT, hO⟩ := OTab.put9 i hi hv h3 hx (ho2.perm p1)
 exact ⟨H, hT, hO.perm (List.perm_middle.trans ((List.perm_middle).cons a))⟩
theorem tab_put2 {B : Nat} {w0 w : World} {v x : Value} {T1 T2 : TypeId} {n m : Nat} {L : Int → Nat} {F : Int → Int → Value} {G : Int → Value} {R : List (Option Blk)} {a b c cr : Option Blk} {rv : Int → Value} {ch : Nat → Option Blk} (i : Nat) (hi : i < n)
  (hv : IRow v T1 n (upd rv i x) c) (h3 : ∀ r : Nat, r < n → IRow (rv r) T2 (L r) (F r) (ch r)) (hx : IRow x T2 m G cr) (ho : Own B w0 w (a :: b :: cr :: c :: (((List.range n).erase i).map ch ++ R))) :
  ∃ H, OTab v T1 T2 n (upd L i m) (upd F i G) H ∧ Own B w0 w (a :: b :: (H ++ R)) :=
 tab_put (y := none) i hi hv h3 hx (ho.nil_cons.perm (List.Perm.append_right (c :: (((List.range n).erase i).map ch ++ R)) (l₁ := [none, a, b, cr]) (l₂ := [cr, a, b, none])
  ((List.perm_append_comm (l₁ := [none]) (l₂ := [a, b, cr])).trans ((List.perm_append_comm (l₁ := [a, b]) (l₂ := [cr, none])).trans ((List.perm_append_comm (l₁ := [none]) (l₂ := [a, b])).cons cr)))))
end Go.Proofs.YtlldeifbfpmbaaaGreat
set_option maxRecDepth 100000
namespace Go.Proofs.YtlldeifbfpmbaaaGreat
theorem sm_one1 {f : Int → Int} {k a : Int} (a0 : 0 ≤ a) (a1 : a < k) (h : ∀ i : Int, 0 ≤ i → i < k → i ≠ a → f i = 0) : sm f k = f a := by
 have e : sm f k = sm (fun i => if a = i then f a else 0) k := sm_congr fun i i0 i1 => by
  by_cases c : a = i
  ·rw [if_pos c, c]
  ·rw [if_neg c]; exact h i i0 i1 (fun e => c e.symm)
 rw [e, sm_oneG a0 a1]
section
variable {l : Lds} {c : Nat} {X : Int → Int} {kilns : Int} {G : Net} {L : Int → Int} {fl : Int}
end
end Go.Proofs.YtlldeifbfpmbaaaGreat
set_option maxRecDepth 100000
namespace Go.Proofs.YtlldeifbfpmbaaaGreat
section
variable {l : Lds} {c : Nat} {X : Int → Int} {M kilns : Int} {x : Int → Int → Int}
end
def Lds.Can (l : Lds) (k : Int) : Prop := ∃ x, l.Sched 1000000000 k x
namespace Lds
def Val (l : Lds) (i : Int) : Prop := 0 ≤ l.r i ∧ l.r i < l.d i ∧ l.d i ≤ 1000000 ∧ 1 ≤ l.len i ∧ l.len i ≤ l.d i - l.r i ∧ 0 ≤ l.wo i ∧ l.wo i ≤ 1000000
def Valid (l : Lds) : Prop := ∀ i : Int, 0 ≤ i → i < l.n → l.Val i
noncomputable def chk (l : Lds) : Int := if 256 < l.n then 2 else @ite _ l.Valid (Classical.propDecidable _) 0 1
noncomputable def chkK (l : Lds) (k : Int) : Int := if l.chk = 0 then (if 1 ≤ k ∧ k ≤ 64 then 0 else 1) else l.chk
theorem chk_ok {l : Lds} (hn : l.n ≤ 256) (h : l.Valid) : l.chk = 0 := by unfold chk; rw [if_neg (by omega), if_pos h]
theorem chk_bad {l : Lds} (hn : l.n ≤ 256) (h : ¬ l.Valid) : l.chk = 1 := by unfold chk; rw [if_neg (by omega), if_neg h]
theorem chk_long {l : Lds} (hn : 256 < l.n) : l.chk = 2 := by unfold chk; rw [if_pos hn]
theorem of_chk {l : Lds} (h : l.chk = 0) : l.n ≤ 256 ∧ l.Valid := by
 unfold chk at h
 by_cases c : 256 < l.n
 ·rw [if_pos c] at h; omega
 ·rw [if_neg c] at h
  by_cases c2 : l.Valid
  ·exact ⟨by omega, c2⟩
  ·rw [if_neg c2] at h; omega
theorem of_chkK {l : Lds} {k : Int} (h : l.chkK k = 0) : l.n ≤ 256 ∧ l.Valid ∧ 1 ≤ k ∧ k ≤ 64 := by
 unfold chkK at h
 by_cases c : l.chk = 0
 ·rw [if_pos c] at h
  obtain ⟨h1, h2⟩ := of_chk c
  by_cases c2 : 1 ≤ k ∧ k ≤ 64
  ·exact ⟨h1, h2, c2⟩
  ·rw [if_neg c2] at h; omega
 ·rw [if_neg c] at h; exact absurd h c
theorem chkK_ok {l : Lds} {k : Int} (hn : l.n ≤ 256) (h : l.Valid) (hk : 1 ≤ k ∧ k ≤ 64) : l.chkK k = 0 := by
 unfold chkK; rw [if_pos (chk_ok hn h), if_pos hk]
theorem Valid.fit {l : Lds} (h : l.Valid) : l.Fit 1000000 :=
 ⟨fun i a b => (h i a b).1, fun i a b => (h i a b).2.1, fun i a b => (h i a b).2.2.1, fun i a b => (h i a b).2.2.2.1, fun i a b => (h i a b).2.2.2.2.1⟩
structure I64 (l : Lds) : Prop where
 r : ∀ i : Int, 0 ≤ i → i < l.n → -9223372036854775808 ≤ l.r i ∧ l.r i ≤ 9223372036854775807
 d : ∀ i : Int, 0 ≤ i → i < l.n → -9223372036854775808 ≤ l.d i ∧ l.d i ≤ 9223372036854775807
 len : ∀ i : Int, 0 ≤ i → i < l.n → -9223372036854775808 ≤ l.len i ∧ l.len i ≤ 9223372036854775807
 wo : ∀ i : Int, 0 ≤ i → i < l.n → -9223372036854775808 ≤ l.wo i ∧ l.wo i ≤ 9223372036854775807
end Lds
end Go.Proofs.YtlldeifbfpmbaaaGreat
set_option maxRecDepth 100000
namespace Go.Proofs.YtlldeifbfpmbaaaGreat
open Go.RowKit Go.Proofs Go.MapKept
noncomputable instance (l : Lds) (k : Int) : Decidable (l.Can k) := Classical.propDecidable _
end Go.Proofs.YtlldeifbfpmbaaaGreat
set_option maxRecDepth 100000
namespace Go.Proofs.YtlldeifbfpmbaaaGreat
open Go.RowKit Go.Proofs Go.MapKept
theorem check7_any (la : Option Addr) (lc : Nat) (l : Lds) (w : World) (hn : l.n ≤ 100000) (hI : l.I64) (hl : SAt w.heap.size w la 4 l.n (ldF l)) :
  Calls Tryz.prog 117 #[.slice la l.n lc] w fun e w' => e = .returned (iv l.chk) ∧ Own w.heap.size w w' [] := by
 obtain ⟨lb, lo, hla, hlr⟩ := hl.open (by decide)
 refine calls_of_run (F := [(0, _)]) Tryz.func117 rfl Tryz.ntmps117 rfl rfl ?_
 have hO0 := Own.init w
 refine run_seq <| run_region <| rl_v rfl rfl rfl (ov_assign rfl rfl) <| rl_nil <| run_seq <| run_seq <| run_region <| rl_v rfl rfl rfl (ov_move rfl rfl) <| rl_v rfl rfl rfl (ov_len rfl Tryz.underlying105 rfl) <| rl_v rfl rfl rfl (ov_gtr rfl rfl rfl) <| rl_nil ?_
 first | refine run_cond_dec rfl (fun c0 => ?_) (fun c0 => ?_) | refine run_cond rfl (fun c0 => ?_) (fun c0 => ?_)
 ·rw [Lds.chk_long (by omega)]
  refine run_seq <| run_region <| rl_v rfl rfl rfl (ov_assign rfl rfl) <| rl_nil <| run_ret Tryz.func117 (res1 Tryz.results117 rfl) ?_
  exact ⟨rfl, hO0⟩
 ·refine run_skip <| run_seq <| run_seq <| run_region <| rl_v rfl rfl rfl (ov_move rfl rfl) <| rl_v rfl rfl rfl (ov_len rfl Tryz.underlying105 rfl) <| rl_v rfl rfl rfl (ov_move rfl rfl) <| rl_nil <| run_block <| Run.keep [8, 9, 10] (F' := [(8, _), (9, _), (10, _)]) rfl <| run_loop1 (fun (i : Nat) => [(10, .int .i64 (i : Int))]) [8, 9] (fun (i : Nat) (w1 : World) => i ≤ l.n ∧ (∀ j : Int, 0 ≤ j → j < i → l.Val j) ∧ Own w.heap.size w w1 []) (fun (i : Nat) => l.n - i) (0) ?_ (And.intro (by exact slot_int rfl (by first | omega)) (And.intro rfl (And.intro rfl trivial))) ?_
  ·exact ⟨Nat.zero_le _, fun j a b => by omega, hO0⟩
  intro i w1 hIw1 ih2
  obtain ⟨hi, hv, hO1⟩ := hIw1
  show Run _ _ _ _ [(10, _), (8, _), (9, _)] _ _
  refine run_seq <| run_region <| rl_v rfl rfl rfl (ov_lss rfl rfl rfl) <| rl_nil <| run_seq ?_
  first | refine run_cond_dec rfl (fun c1 => ?_) (fun c1 => ?_) | refine run_cond rfl (fun c1 => ?_) (fun c1 => ?_)
  ·have h1 := hI.r i (by omega) c1
   have h2 := hI.d i (by omega) c1
   have h3 := hI.len i (by omega) c1
   have h4 := hI.wo i (by omega) c1
   refine run_skip <| run_seq <| run_block <| run_seq <| run_region <| rl_v rfl rfl rfl (ov_index rfl Tryz.underlying105 (by kernel_rfl) (s := 4) rfl rfl ⟨by omega, by omega⟩ (by exact hla (by omega))) ?_
   refine rl_v rfl rfl rfl (ov_loadE rfl Tryz.underlying104 rfl (by kernel_rfl) rfl ⟨by omega, by omega⟩ rfl (hlr _ hO1.below)) ?_
   refine rl_ow rfl (ow_alloc _ rfl rfl rfl zero_104 rfl hO1) ?_
   rintro _ w3 ⟨b5, rfl, hO4, hs5⟩
   refine rl_ow rfl (ow_storeW rfl rfl (by kernel_rfl) hO4 0 rfl rfl (by rfl) rfl (by rfl)) ?_
   rintro _ w6 ⟨rfl, hO7, hs8⟩
   refine rl_nil <| run_seq <| run_region_join 53 (.bool (decide (¬ (0 ≤ l.r i ∧ l.r i < l.d i ∧ l.d i ≤ 1000000 ∧ 1 ≤ l.len i ∧ l.len i ≤ l.d i - l.r i ∧ 0 ≤ l.wo i ∧ l.wo i ≤ 1000000)))) [8, 9, 10] (fun hk9 => ?_) ?_
   ·refine rl_v rfl rfl rfl (ov_fieldS rfl Tryz.underlying104 rfl (fo := 0) rfl (by kernel_rfl) rfl) ?_
    refine rl_v rfl rfl rfl (ov_load rfl Tryz.underlying3 rfl rfl (by exact hO7.cellL 0 rfl (off := 0) rfl)) ?_
    refine rl_v rfl rfl rfl (ov_lss rfl rfl rfl) <| rl_v rfl rfl rfl (ov_move rfl rfl) ?_
    first | refine rl_split_dec 17 rfl (fun hg10 => ?_) (fun hg10 => ?_) | refine rl_split 17 rfl (fun hg10 => ?_) (fun hg10 => ?_)
    ·refine rl_gskip rfl rfl rfl rfl rfl rfl <| rl_gskip rfl rfl rfl rfl rfl rfl <| rl_gskip rfl rfl rfl rfl rfl rfl <| rl_gskip rfl rfl rfl rfl rfl rfl <| rl_gskip rfl rfl rfl rfl rfl rfl <| rl_v rfl rfl rfl (ov_pick_t rfl rfl rfl) <| rl_v rfl rfl rfl (ov_move rfl rfl) <| rl_gskip rfl rfl rfl rfl rfl rfl <| rl_gskip rfl rfl rfl rfl rfl rfl <| rl_gskip rfl rfl rfl rfl rfl rfl <| rl_v rfl rfl rfl (ov_pick_t rfl rfl rfl) <| rl_v rfl rfl rfl (ov_move rfl rfl) <| rl_gskip rfl rfl rfl rfl rfl rfl <| rl_gskip rfl rfl rfl rfl rfl rfl <| rl_gskip rfl rfl rfl rfl rfl rfl <| rl_v rfl rfl rfl (ov_pick_t rfl rfl rfl) <| rl_v rfl rfl rfl (ov_move rfl rfl) <| rl_gskip rfl rfl rfl rfl rfl rfl <| rl_gskip rfl rfl rfl rfl rfl rfl <| rl_gskip rfl rfl rfl rfl rfl rfl <| rl_gskip rfl rfl rfl rfl rfl rfl <| rl_gskip rfl rfl rfl rfl rfl rfl <| rl_gskip rfl rfl rfl rfl rfl rfl <| rl_gskip rfl rfl rfl rfl rfl rfl ?_
     refine rl_gskip rfl rfl rfl rfl rfl rfl <| rl_v rfl rfl rfl (ov_pick_t rfl rfl rfl) <| rl_v rfl rfl rfl (ov_move rfl rfl) <| rl_gskip rfl rfl rfl rfl rfl rfl <| rl_gskip rfl rfl rfl rfl rfl rfl <| rl_gskip rfl rfl rfl rfl rfl rfl <| rl_v rfl rfl rfl (ov_pick_t rfl rfl rfl) <| rl_v rfl rfl rfl (ov_move rfl rfl) <| rl_gskip rfl rfl rfl rfl rfl rfl <| rl_gskip rfl rfl rfl rfl rfl rfl <| rl_gskip rfl rfl rfl rfl rfl rfl <| rl_v rfl rfl rfl (ov_pick_t rfl rfl rfl) ?_
     refine rl_nil (hk9 _ (jbt rfl (by omega)) (And.intro rfl (And.intro rfl (And.intro rfl trivial))))
    ·refine rl_gv rfl rfl rfl rfl rfl (ov_fieldS rfl Tryz.underlying104 rfl (fo := 1) rfl (by kernel_rfl) rfl) ?_
     refine rl_gv rfl rfl rfl rfl rfl (ov_load rfl Tryz.underlying3 rfl rfl (by exact hO7.cellL 0 rfl (off := 1) rfl)) ?_
     refine rl_gv rfl rfl rfl rfl rfl (ov_fieldS rfl Tryz.underlying104 rfl (fo := 0) rfl (by kernel_rfl) rfl) ?_
     refine rl_gv rfl rfl rfl rfl rfl (ov_load rfl Tryz.underlying3 rfl rfl (by exact hO7.cellL 0 rfl (off := 0) rfl)) ?_
     refine rl_gv rfl rfl rfl rfl rfl (ov_leq rfl rfl rfl) <| rl_v rfl rfl rfl (ov_pick_f rfl rfl rfl) <| rl_v rfl rfl rfl (ov_move rfl rfl) ?_
     first | refine rl_split_dec 24 rfl (fun hg11 => ?_) (fun hg11 => ?_) | refine rl_split 24 rfl (fun hg11 => ?_) (fun hg11 => ?_)
     ·refine rl_gskip rfl rfl rfl rfl rfl rfl <| rl_gskip rfl rfl rfl rfl rfl rfl <| rl_gskip rfl rfl rfl rfl rfl rfl <| rl_v rfl rfl rfl (ov_pick_t rfl rfl rfl) <| rl_v rfl rfl rfl (ov_move rfl rfl) <| rl_gskip rfl rfl rfl rfl rfl rfl <| rl_gskip rfl rfl rfl rfl rfl rfl <| rl_gskip rfl rfl rfl rfl rfl rfl <| rl_v rfl rfl rfl (ov_pick_t rfl rfl rfl) <| rl_v rfl rfl rfl (ov_move rfl rfl) <| rl_gskip rfl rfl rfl rfl rfl rfl <| rl_gskip rfl rfl rfl rfl rfl rfl <| rl_gskip rfl rfl rfl rfl rfl rfl <| rl_gskip rfl rfl rfl rfl rfl rfl <| rl_gskip rfl rfl rfl rfl rfl rfl <| rl_gskip rfl rfl rfl rfl rfl rfl <| rl_gskip rfl rfl rfl rfl rfl rfl <| rl_gskip rfl rfl rfl rfl rfl rfl <| rl_v rfl rfl rfl (ov_pick_t rfl rfl rfl) <| rl_v rfl rfl rfl (ov_move rfl rfl) <| rl_gskip rfl rfl rfl rfl rfl rfl <| rl_gskip rfl rfl rfl rfl rfl rfl <| rl_gskip rfl rfl rfl rfl rfl rfl <| rl_v rfl rfl rfl (ov_pick_t rfl rfl rfl) ?_
      refine rl_v rfl rfl rfl (ov_move rfl rfl) <| rl_gskip rfl rfl rfl rfl rfl rfl <| rl_gskip rfl rfl rfl rfl rfl rfl <| rl_gskip rfl rfl rfl rfl rfl rfl <| rl_v rfl rfl rfl (ov_pick_t rfl rfl rfl) ?_
      refine rl_nil (hk9 _ (jbt rfl (by omega)) (And.intro rfl (And.intro rfl (And.intro rfl trivial))))
     ·refine rl_gv rfl rfl rfl rfl rfl (ov_fieldS rfl Tryz.underlying104 rfl (fo := 1) rfl (by kernel_rfl) rfl) ?_
      refine rl_gv rfl rfl rfl rfl rfl (ov_load rfl Tryz.underlying3 rfl rfl (by exact hO7.cellL 0 rfl (off := 1) rfl)) ?_
      refine rl_gv rfl rfl rfl rfl rfl (ov_gtr rfl rfl rfl) <| rl_v rfl rfl rfl (ov_pick_f rfl rfl rfl) <| rl_v rfl rfl rfl (ov_move rfl rfl) ?_
      first | refine rl_split_dec 29 rfl (fun hg12 => ?_) (fun hg12 => ?_) | refine rl_split 29 rfl (fun hg12 => ?_) (fun hg12 => ?_)
      ·refine rl_gskip rfl rfl rfl rfl rfl rfl <| rl_gskip rfl rfl rfl rfl rfl rfl <| rl_gskip rfl rfl rfl rfl rfl rfl <| rl_v rfl rfl rfl (ov_pick_t rfl rfl rfl) <| rl_v rfl rfl rfl (ov_move rfl rfl) <| rl_gskip rfl rfl rfl rfl rfl rfl <| rl_gskip rfl rfl rfl rfl rfl rfl <| rl_gskip rfl rfl rfl rfl rfl rfl <| rl_gskip rfl rfl rfl rfl rfl rfl <| rl_gskip rfl rfl rfl rfl rfl rfl <| rl_gskip rfl rfl rfl rfl rfl rfl <| rl_gskip rfl rfl rfl rfl rfl rfl <| rl_gskip rfl rfl rfl rfl rfl rfl <| rl_v rfl rfl rfl (ov_pick_t rfl rfl rfl) <| rl_v rfl rfl rfl (ov_move rfl rfl) <| rl_gskip rfl rfl rfl rfl rfl rfl <| rl_gskip rfl rfl rfl rfl rfl rfl <| rl_gskip rfl rfl rfl rfl rfl rfl <| rl_v rfl rfl rfl (ov_pick_t rfl rfl rfl) <| rl_v rfl rfl rfl (ov_move rfl rfl) <| rl_gskip rfl rfl rfl rfl rfl rfl <| rl_gskip rfl rfl rfl rfl rfl rfl <| rl_gskip rfl rfl rfl rfl rfl rfl <| rl_v rfl rfl rfl (ov_pick_t rfl rfl rfl) ?_
       refine rl_nil (hk9 _ (jbt rfl (by omega)) (And.intro rfl (And.intro rfl (And.intro rfl trivial))))
      ·refine rl_gv rfl rfl rfl rfl rfl (ov_fieldS rfl Tryz.underlying104 rfl (fo := 2) rfl (by kernel_rfl) rfl) ?_
       refine rl_gv rfl rfl rfl rfl rfl (ov_load rfl Tryz.underlying3 rfl rfl (by exact hO7.cellL 0 rfl (off := 2) rfl)) ?_
       refine rl_gv rfl rfl rfl rfl rfl (ov_lss rfl rfl rfl) <| rl_v rfl rfl rfl (ov_pick_f rfl rfl rfl) <| rl_v rfl rfl rfl (ov_move rfl rfl) ?_
       first | refine rl_split_dec 34 rfl (fun hg13 => ?_) (fun hg13 => ?_) | refine rl_split 34 rfl (fun hg13 => ?_) (fun hg13 => ?_)
       ·refine rl_gskip rfl rfl rfl rfl rfl rfl <| rl_gskip rfl rfl rfl rfl rfl rfl <| rl_gskip rfl rfl rfl rfl rfl rfl <| rl_gskip rfl rfl rfl rfl rfl rfl <| rl_gskip rfl rfl rfl rfl rfl rfl <| rl_gskip rfl rfl rfl rfl rfl rfl <| rl_gskip rfl rfl rfl rfl rfl rfl <| rl_gskip rfl rfl rfl rfl rfl rfl <| rl_v rfl rfl rfl (ov_pick_t rfl rfl rfl) <| rl_v rfl rfl rfl (ov_move rfl rfl) <| rl_gskip rfl rfl rfl rfl rfl rfl <| rl_gskip rfl rfl rfl rfl rfl rfl <| rl_gskip rfl rfl rfl rfl rfl rfl <| rl_v rfl rfl rfl (ov_pick_t rfl rfl rfl) <| rl_v rfl rfl rfl (ov_move rfl rfl) <| rl_gskip rfl rfl rfl rfl rfl rfl <| rl_gskip rfl rfl rfl rfl rfl rfl <| rl_gskip rfl rfl rfl rfl rfl rfl <| rl_v rfl rfl rfl (ov_pick_t rfl rfl rfl) ?_
        refine rl_nil (hk9 _ (jbt rfl (by omega)) (And.intro rfl (And.intro rfl (And.intro rfl trivial))))
       ·refine rl_gv rfl rfl rfl rfl rfl (ov_fieldS rfl Tryz.underlying104 rfl (fo := 2) rfl (by kernel_rfl) rfl) ?_
        refine rl_gv rfl rfl rfl rfl rfl (ov_load rfl Tryz.underlying3 rfl rfl (by exact hO7.cellL 0 rfl (off := 2) rfl)) ?_
        refine rl_gv rfl rfl rfl rfl rfl (ov_fieldS rfl Tryz.underlying104 rfl (fo := 1) rfl (by kernel_rfl) rfl) ?_
        refine rl_gv rfl rfl rfl rfl rfl (ov_load rfl Tryz.underlying3 rfl rfl (by exact hO7.cellL 0 rfl (off := 1) rfl)) ?_
        refine rl_gv rfl rfl rfl rfl rfl (ov_fieldS rfl Tryz.underlying104 rfl (fo := 0) rfl (by kernel_rfl) rfl) ?_
        refine rl_gv rfl rfl rfl rfl rfl (ov_load rfl Tryz.underlying3 rfl rfl (by exact hO7.cellL 0 rfl (off := 0) rfl)) ?_
        refine rl_gv rfl rfl rfl rfl rfl (ov_sub rfl rfl rfl (by omega)) ?_
        refine rl_gv rfl rfl rfl rfl rfl (ov_gtr rfl rfl rfl) <| rl_v rfl rfl rfl (ov_pick_f rfl rfl rfl) <| rl_v rfl rfl rfl (ov_move rfl rfl) ?_
        first | refine rl_split_dec 44 rfl (fun hg14 => ?_) (fun hg14 => ?_) | refine rl_split 44 rfl (fun hg14 => ?_) (fun hg14 => ?_)
        ·refine rl_gskip rfl rfl rfl rfl rfl rfl <| rl_gskip rfl rfl rfl rfl rfl rfl <| rl_gskip rfl rfl rfl rfl rfl rfl <| rl_v rfl rfl rfl (ov_pick_t rfl rfl rfl) <| rl_v rfl rfl rfl (ov_move rfl rfl) <| rl_gskip rfl rfl rfl rfl rfl rfl <| rl_gskip rfl rfl rfl rfl rfl rfl <| rl_gskip rfl rfl rfl rfl rfl rfl <| rl_v rfl rfl rfl (ov_pick_t rfl rfl rfl) ?_
         refine rl_nil (hk9 _ (jbt rfl (by omega)) (And.intro rfl (And.intro rfl (And.intro rfl trivial))))
        ·refine rl_gv rfl rfl rfl rfl rfl (ov_fieldS rfl Tryz.underlying104 rfl (fo := 3) rfl (by kernel_rfl) rfl) ?_
         refine rl_gv rfl rfl rfl rfl rfl (ov_load rfl Tryz.underlying3 rfl rfl (by exact hO7.cellL 0 rfl (off := 3) rfl)) ?_
         refine rl_gv rfl rfl rfl rfl rfl (ov_lss rfl rfl rfl) <| rl_v rfl rfl rfl (ov_pick_f rfl rfl rfl) <| rl_v rfl rfl rfl (ov_move rfl rfl) ?_
         first | refine rl_split_dec 49 rfl (fun hg15 => ?_) (fun hg15 => ?_) | refine rl_split 49 rfl (fun hg15 => ?_) (fun hg15 => ?_)
         ·refine rl_gskip rfl rfl rfl rfl rfl rfl <| rl_gskip rfl rfl rfl rfl rfl rfl <| rl_gskip rfl rfl rfl rfl rfl rfl <| rl_v rfl rfl rfl (ov_pick_t rfl rfl rfl) ?_
          refine rl_nil (hk9 _ (jbt rfl (by omega)) (And.intro rfl (And.intro rfl (And.intro rfl trivial))))
         ·refine rl_gv rfl rfl rfl rfl rfl (ov_fieldS rfl Tryz.underlying104 rfl (fo := 3) rfl (by kernel_rfl) rfl) ?_
          refine rl_gv rfl rfl rfl rfl rfl (ov_load rfl Tryz.underlying3 rfl rfl (by exact hO7.cellL 0 rfl (off := 3) rfl)) ?_
          refine rl_gv rfl rfl rfl rfl rfl (ov_gtr rfl rfl rfl) <| rl_v rfl rfl rfl (ov_pick_f rfl rfl rfl) ?_
          refine rl_nil (hk9 _ (jbd rfl (by omega)) (And.intro rfl (And.intro rfl (And.intro rfl trivial))))
   ·show Run _ _ _ _ [(53, _), (8, _), (9, _), (10, _)] _ _
    first | refine run_cond_dec rfl (fun c2 => ?_) (fun c2 => ?_) | refine run_cond rfl (fun c2 => ?_) (fun c2 => ?_)
    ·rw [Lds.chk_bad (by omega) fun h => c2 (h i (by omega) c1)]
     refine run_seq <| run_region <| rl_v rfl rfl rfl (ov_assign rfl rfl) <| rl_nil <| run_ret Tryz.func117 (res1 Tryz.results117 rfl) ?_
     exact ⟨rfl, hO7.sub (List.nil_sublist _)⟩
    ·have hv2 : ∀ j : Int, 0 ≤ j → j < ((i + 1 : Nat) : Int) → l.Val j := fun j j0 j1 => by
      by_cases e : j = i
      ·rw [e]; exact Classical.not_not.1 c2
      ·exact hv j j0 (by omega)
     refine run_skip <| run_inBlock <| run_region <| rl_v rfl rfl rfl (ov_add rfl rfl rfl (by omega)) ?_
     refine rl_v rfl rfl rfl (ov_move rfl rfl) <| rl_nil ?_
     refine Run.use (ih2 (i + 1) _ ?_ ?_) (And.intro (by exact slot_int rfl (by first | omega)) (And.intro rfl (And.intro rfl trivial)))
     ·first | omega | (dsimp only; omega)
     ·exact ⟨by omega, hv2, hO7.tail⟩
  ·rw [Lds.chk_ok (by omega) fun j j0 j1 => hv j j0 (by omega)]
   refine run_exit rfl <| run_seq <| run_region <| rl_v rfl rfl rfl (ov_assign rfl rfl) <| rl_nil <| run_ret Tryz.func117 (res1 Tryz.results117 rfl) ?_
   exact ⟨rfl, hO1⟩
theorem checkKilns_any (la : Option Addr) (lc : Nat) (l : Lds) (k : Int) (w : World) (hn : l.n ≤ 100000) (hI : l.I64) (hl : SAt w.heap.size w la 4 l.n (ldF l)) :
  Calls Tryz.prog 91 #[.slice la l.n lc, iv k] w fun e w' => e = .returned (iv (l.chkK k)) ∧ Own w.heap.size w w' [] := by
 refine calls_of_run (F := [(0, _), (1, _)]) Tryz.func91 rfl Tryz.ntmps91 rfl rfl ?_
 have hO0 := Own.init w
 refine run_seq <| run_region <| rl_v rfl rfl rfl (ov_assign rfl rfl) <| rl_nil <| run_seq <| run_seq <| run_region <| rl_v rfl rfl rfl (ov_move rfl rfl) ?_
 refine rl_call callable_117 rfl rfl rfl rfl rfl rfl (check7_any la lc l _ hn hI (hO0.satU hl)) (fun e1 w2 hp3 => ?_)
 obtain ⟨rfl, hO1⟩ := hp3
 refine ⟨_, rfl, ?_⟩
 have hO4 := hO0.join hO1
 refine rl_v rfl rfl rfl (ov_assign rfl rfl) <| rl_nil <| run_seq <| run_region <| rl_v rfl rfl rfl (ov_move rfl rfl) <| rl_v rfl rfl rfl (ov_neq rfl rfl rfl) <| rl_nil ?_
 first | refine run_cond_dec rfl (fun c1 => ?_) (fun c1 => ?_) | refine run_cond rfl (fun c1 => ?_) (fun c1 => ?_)
 ·rw [show l.chkK k = l.chk by unfold Lds.chkK; rw [if_neg c1]]
  refine run_seq <| run_region <| rl_v rfl rfl rfl (ov_move rfl rfl) <| rl_v rfl rfl rfl (ov_assign rfl rfl) <| rl_nil <| run_ret Tryz.func91 (res1 Tryz.results91 rfl) ?_
  exact ⟨rfl, hO4⟩
 ·have c1' : l.chk = 0 := Classical.not_not.1 c1
  refine run_skip <| run_seq <| run_seq <| run_region_join 16 (.bool (decide (k < 1 ∨ 64 < k))) [] (fun hk5 => ?_) ?_
  ·refine rl_v rfl rfl rfl (ov_move rfl rfl) <| rl_v rfl rfl rfl (ov_lss rfl rfl rfl) <| rl_v rfl rfl rfl (ov_move rfl rfl) ?_
   first | refine rl_split_dec 13 rfl (fun hg6 => ?_) (fun hg6 => ?_) | refine rl_split 13 rfl (fun hg6 => ?_) (fun hg6 => ?_)
   ·refine rl_gskip rfl rfl rfl rfl rfl rfl <| rl_gskip rfl rfl rfl rfl rfl rfl <| rl_v rfl rfl rfl (ov_pick_t rfl rfl rfl) ?_
    refine rl_nil (hk5 _ (jbt rfl (by omega)) trivial)
   ·refine rl_gv rfl rfl rfl rfl rfl (ov_move rfl rfl) <| rl_gv rfl rfl rfl rfl rfl (ov_gtr rfl rfl rfl) <| rl_v rfl rfl rfl (ov_pick_f rfl rfl rfl) ?_
    refine rl_nil (hk5 _ (jbd rfl (by omega)) trivial)
  ·show Run _ _ _ _ [(16, _)] _ _
   first | refine run_cond_dec rfl (fun c2 => ?_) (fun c2 => ?_) | refine run_cond rfl (fun c2 => ?_) (fun c2 => ?_)
   ·rw [show l.chkK k = 1 by unfold Lds.chkK; rw [if_pos c1', if_neg (by omega)]]
    refine run_seq <| run_region <| rl_v rfl rfl rfl (ov_assign rfl rfl) <| rl_nil <| run_ret Tryz.func91 (res1 Tryz.results91 rfl) ?_
    exact ⟨rfl, hO4⟩
   ·rw [show l.chkK k = 0 by unfold Lds.chkK; rw [if_pos c1', if_pos (by omega)]]
    refine run_skip <| run_seq <| run_region <| rl_v rfl rfl rfl (ov_assign rfl rfl) <| rl_nil <| run_ret Tryz.func91 (res1 Tryz.results91 rfl) ?_
    exact ⟨rfl, hO4⟩
theorem Lds.chkK_ne {l : Lds} {k : Int} (h : l.chkK k = 0) : l.n ≤ 256 ∧ l.Valid ∧ (1 ≤ k ∧ k ≤ 64) ∧ l.Fit 1000000000 :=
 have h' := Lds.of_chkK h
 ⟨h'.1, h'.2.1, h'.2.2, h'.2.1.fit.mono (by decide)⟩
theorem cloneLd_any (ao : Option Addr) (n c : Nat) (l : Lds) (w : World) (hn : n ≤ 100000) (h : SAt w.heap.size w ao 4 n (ldF l)) :
  Calls Tryz.prog 95 #[.slice ao n c] w fun e w' => ∃ v c', e = .returned v ∧ SRow v 104 4 n (ldF l) c' ∧ Own w.heap.size w w' [c'] := by
 obtain ⟨gb, go, hga, hrow⟩ := h.open (by decide)
 refine calls_of_run (F := [(0, _)]) Tryz.func95 rfl Tryz.ntmps95 rfl rfl ?_
 have hO0 := Own.init w
 refine run_seq <| run_region <| rl_v rfl rfl rfl (ov_assign rfl rfl) <| rl_nil <| run_seq <| run_seq <| run_region <| rl_v rfl rfl rfl (ov_move rfl rfl) <| rl_v rfl rfl rfl (ov_isnil rfl Tryz.underlying105 rfl) <| rl_nil ?_
 first | refine run_cond_dec rfl (fun g1 => ?_) (fun g1n => ?_) | refine run_cond rfl (fun g1 => ?_) (fun g1n => ?_)
 ·have hm0 : n = 0 := by
   rcases Nat.eq_zero_or_pos n with h | h
   ·exact h
   ·rw [hga h] at g1
    exact absurd g1 Bool.noConfusion
  subst hm0
  refine run_seq <| run_region <| rl_v rfl rfl rfl (ov_assign rfl rfl) <| rl_nil <| run_ret Tryz.func95 (res1 Tryz.results95 rfl) ?_
  exact ⟨_, none, rfl, SRow.nil _ _ _, hO0.nil_cons⟩
 ·refine run_skip <| run_seq <| run_region <| rl_ow rfl (ow_empty rfl rfl rfl Tryz.underlying105 info_104 hO0) ?_
  rintro _ w1 ⟨v5, c5, rfl, hO2, hR5, hs3⟩
  refine rl_v rfl rfl rfl (ov_move rfl rfl) <| rl_ow rfl (ow_appSR (G := fun _ => []) rfl rfl rfl Tryz.underlying105 info_104 rfl rfl hO2 0 (hR5 _) rfl rfl rfl (hO2.satU h) (fun _ _ _ => ⟨rfl, rfl⟩) ⟨by omega, by omega⟩) ?_
  rintro _ w4 ⟨v7, c7, rfl, hO5, hr7, hs6⟩
  refine rl_v rfl rfl rfl (ov_assign rfl rfl) <| rl_nil <| run_ret Tryz.func95 (res1 Tryz.results95 rfl) ?_
  exact ⟨v7, c7, rfl, by rw [Nat.zero_add] at hr7; exact hr7.congr fun i h0 h1 => by unfold joinF; rw [if_neg (by omega)]; exact congrArg (fun j => ldF l j) (by omega), hO5⟩
end Go.Proofs.YtlldeifbfpmbaaaGreat
