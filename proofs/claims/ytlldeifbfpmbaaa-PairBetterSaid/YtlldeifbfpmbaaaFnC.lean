import Derived.Test.YtlldeifbfpmbaaaFnB
import Derived.Test.YtlldeifbfpmbaaaFkA
import Derived.Test.YtlldeifbfpmbaaaQta
import Derived.Test.YtlldeifbfpmbaaaFjA
set_option maxRecDepth 100000
namespace Go.Proofs.Ytlldeifbfpmbaaa
open Go.RowKit Go.Proofs Go.MapKept
theorem BSq.of_otab {va : Option Addr} {n vc : Nat} {T1 T2 : TypeId} {op : Int → Int → Bool} {H : List (Option Blk)} (h : OTab (.slice va n vc) T1 T2 n (fun _ => n) (fun r k => .bool (op r k)) H) : BSq H va n op := by
 obtain ⟨c, rv, ch, rfl, h2, h3⟩ := h
 obtain ⟨ob, hob⟩ := h2.addr
 have hv : ∀ r : Int, ∃ p : Nat × Nat × (Int → Value), 0 ≤ r → r < n → rv r = .slice (some ⟨p.1, 0, none⟩) n p.2.1 ∧ n ≤ p.2.1 ∧ ch r.toNat = some (vch p.1 T2 p.2.1 p.2.2) ∧ ∀ i : Int, 0 ≤ i → i < n → p.2.2 i = .bool (op r i) := fun r => by
  by_cases hr : 0 ≤ r ∧ r < n
  ·obtain ⟨q, rfl⟩ := Int.eq_ofNat_of_zero_le hr.1
   have h := h3 q (by omega)
   obtain ⟨a, cp, e⟩ := Row.val h
   rw [e] at h
   obtain ⟨b, G, rfl, h5, _, h7, h8⟩ := h.asV (by show 1 ≤ n; omega)
   exact ⟨(b, cp, G), fun _ _ => ⟨e, h5, h7, h8⟩⟩
  ·exact ⟨(0, 0, fun _ => undef), fun a b => absurd ⟨a, b⟩ hr⟩
 refine ⟨fun r => (Classical.choose (hv r)).1, fun r => (Classical.choose (hv r)).2.1, ob, hob, fun {B w0 w} hO => ⟨fun i i0 i1 => ?_, fun i k i0 i1 k0 k1 => ?_⟩⟩
 ·obtain ⟨e, _, _, _⟩ := Classical.choose_spec (hv i) i0 i1
  rw [IRow.cellA h2 hO 0 rfl (hob (by omega)) i0 i1, e]
 ·obtain ⟨e, e2, e3, e4⟩ := Classical.choose_spec (hv i) i0 i1
  have hk : (c :: (List.range n).map ch)[i.toNat + 1]? = some (ch i.toNat) := by
   have : i.toNat < n := by omega
   simp [this]
  rw [e3] at hk
  have := hO.cellI (i.toNat + 1) hk k k0 (by omega)
  rw [e4 k k0 k1] at this
  exact this
def InI (M : Int → Int) (i x : Int) : Prop := ∃ j : Int, (0 ≤ j ∧ j < i) ∧ M j = x
def op5 (lk : Int → Int → Int) (l : Int → Int) (I : Int → Prop) (w x k : Int) : Prop := I x ∧ I k ∧ (lk x k < lk x (l x) ∨ x ≠ w ∧ lk x k = lk x (l x))
def CoalW (lk : Int → Int → Int) (l : Int → Int) (I : Int → Prop) (w : Int) : Prop := ∃ σ : Int → Int, (∀ x : Int, I x → op5 lk l I w x (σ x)) ∧ ∀ x y : Int, I x → I y → σ x = σ y → x = y
def Coal (lk : Int → Int → Int) (l : Int → Int) (I : Int → Prop) : Prop := ∃ w : Int, I w ∧ CoalW lk l I w
structure Memb (n mn : Nat) (M : Int → Int) : Prop where
 rng : ∀ j : Int, 0 ≤ j → j < mn → 0 ≤ M j ∧ M j < n
 inc : ∀ j : Int, 0 ≤ j → j + 1 < mn → M j < M (j + 1)
theorem Memb.lt {n mn : Nat} {M : Int → Int} (h : Memb n mn M) {a b : Int} (a0 : 0 ≤ a) (hab : a < b) (b1 : b < mn) : M a < M b := by
 obtain ⟨d, rfl⟩ : ∃ d : Nat, b = a + 1 + d := ⟨(b - a - 1).toNat, by omega⟩
 clear hab
 induction d with
 | zero => rw [show a + 1 + ((0 : Nat) : Int) = a + 1 by omega] at b1 ⊢; exact h.inc a a0 b1
 | succ d ih =>
  have h1 := ih (by omega)
  have h2 := h.inc (a + 1 + d) (by omega) (by omega)
  rw [show a + 1 + ((d + 1 : Nat) : Int) = a + 1 + d + 1 by omega]
  omega
theorem Memb.inj {n mn : Nat} {M : Int → Int} (h : Memb n mn M) {a b : Int} (a0 : 0 ≤ a) (a1 : a < mn) (b0 : 0 ≤ b) (b1 : b < mn) (e : M a = M b) : a = b := by
 rcases Int.lt_trichotomy a b with c | c | c
 ·have := h.lt a0 c b1; omega
 ·exact c
 ·have := h.lt b0 c a1; omega
theorem Memb.short {n mn : Nat} {M : Int → Int} (h : Memb n mn M) : mn ≤ n := pigeon (e := M) h.rng fun _ _ a0 a1 b0 b1 e => h.inj a0 a1 b0 b1 e
theorem Memb.in_rng {n mn : Nat} {M : Int → Int} (h : Memb n mn M) {x : Int} (hx : InI M mn x) : 0 ≤ x ∧ x < n := by
 obtain ⟨j, ⟨j0, j1⟩, e⟩ := hx
 rw [← e]
 exact h.rng j j0 j1
theorem InI.snoc {M : Int → Int} {i x : Int} (i0 : 0 ≤ i) : InI M (i + 1) x ↔ InI M i x ∨ x = M i := by
 constructor
 ·rintro ⟨j, ⟨j0, j1⟩, e⟩
  by_cases c : j = i
  ·right; rw [← e, c]
  ·exact .inl ⟨j, ⟨j0, by omega⟩, e⟩
 ·rintro (⟨j, ⟨j0, j1⟩, e⟩ | e)
  ·exact ⟨j, ⟨j0, by omega⟩, e⟩
  ·exact ⟨i, ⟨i0, by omega⟩, e.symm⟩
theorem KD.coal {n mn : Nat} {M : Int → Int} {lk : Int → Int → Int} {l of : Int → Int} {w : Int} (hM : Memb n mn M) {op : Int → Int → Prop} (hop : ∀ x k : Int, op x k → op5 lk l (InI M mn) w x k) (h : KD n op (InI M mn) of) : CoalW lk l (InI M mn) w := by
 obtain ⟨σ, h1, h2⟩ := h.share
 exact ⟨σ, fun x hx => hop _ _ (h1 x (hM.in_rng hx).1 hx).2, fun x y hx hy e => h2 x y (hM.in_rng hx).1 hx (hM.in_rng hy).1 hy e⟩
theorem KD.noCoal {n mn : Nat} {M : Int → Int} {lk : Int → Int → Int} {l of : Int → Int} {w i : Int} {s : Int → Bool} (hM : Memb n mn M) {op : Int → Int → Prop} (hop : ∀ x k : Int, op5 lk l (InI M mn) w x k → op x k) (i0 : 0 ≤ i) (i1 : i < mn) (h : KD n op (InI M i) of) (hF : KF n op (M i) of (fun _ => false) s) : ¬ CoalW lk l (InI M mn) w := by
 rintro ⟨σ, h1, h2⟩
 have hI : ∀ x : Int, InI M i x ∨ x = M i → InI M mn x := fun x hx => by
  obtain ⟨j, ⟨j0, j1⟩, e⟩ := (InI.snoc i0).2 hx
  exact ⟨j, ⟨j0, by omega⟩, e⟩
 refine KD.fail (by omega) (hM.rng i i0 i1).1 h (fun ⟨j, ⟨j0, j1⟩, e⟩ => ?_) hF ⟨σ, fun x _ hx => ?_, fun x y _ hx _ hy e => h2 x y (hI x hx) (hI y hy) e⟩
 ·have := hM.inj j0 (by omega) i0 i1 e
  omega
 ·have h5 := h1 x (hI x hx)
  exact ⟨hM.in_rng h5.2.1, hop _ _ h5⟩
set_option maxHeartbeats 8000000 in
theorem refBetter5_any (ga la ma : Option Addr) (n gc lc mn mc : Nat) (L : Int → Nat) (E : Int → Int → Int) (l M : Int → Int) (w : World) (hn : n ≤ 64) (hL : ∀ r : Int, 0 ≤ r → r < n → L r ≤ 1000000) (h : ITab w.heap.size w ga n L (fun r c => iv (E r c))) (hl : IAt w.heap.size w la n (fun i => iv (l i))) (hm : IAt w.heap.size w ma mn (fun i => iv (M i))) (hM : Memb n mn M) :
  Calls Try.prog 29 #[.agg #[.slice ga n gc], .slice la n lc, .slice ma mn mc] w fun e w' => e = .returned (.bool (dB (Coal (lik5 L E) l (InI M mn)))) ∧ Below w.heap.size w w' := by
 have hmn := hM.short
 obtain ⟨mb, mo, hma, hmrow⟩ := hm.open
 obtain ⟨lb, lo, hla, hlrow⟩ := hl.open
 refine calls_of_run (F := [(0, _), (1, _), (2, _)]) Try.func29 rfl Try.ntmps29 rfl rfl ?_
 have hO0 := Own.init w
 refine run_seq <| run_region <| rl_ow rfl (ow_box _ rfl rfl rfl rfl rfl hO0) ?_
 rintro _ w1 ⟨b3, rfl, hO2, hs3⟩
 refine rl_v rfl rfl rfl (ov_assign rfl rfl) <| rl_nil <| run_seq <| run_region <| rl_v rfl rfl rfl (ov_fieldS rfl Try.underlying47 rfl (fo := 0) rfl (by kernel_rfl) rfl) ?_
 refine rl_v rfl rfl rfl (ov_load rfl Try.underlying22 rfl rfl (by exact hO2.cellL 0 rfl (off := 0) rfl)) ?_
 refine rl_v rfl rfl rfl (ov_len rfl Try.underlying22 rfl) <| rl_v rfl rfl rfl (ov_assign rfl rfl) <| rl_nil <| run_seq <| run_region <| rl_v rfl rfl rfl (ov_move rfl rfl) ?_
 refine rl_make (n) rfl rfl rfl rfl Try.underlying92 info_4 rfl hO2 rfl rfl (by rfl) (by rfl) ⟨by omega, by omega⟩ (fun ib w4 hO5 hs6 => ?_)
 refine rl_v rfl rfl rfl (ov_assign rfl rfl) <| rl_nil <| run_seq <| run_seq <| run_region <| rl_v rfl rfl rfl (ov_assign rfl rfl) <| rl_nil <| run_block <| Run.keep [1, 2, 3, 7, 8, 9] (F' := [(1, _), (2, _), (3, _), (7, _), (8, _), (9, _)]) rfl <| run_loop2 (fun (i : Int) (inn : Int → Bool) => [(9, .int .i64 i)]) [1, 2, 3, 7, 8] (fun (i : Int) (inn : Int → Bool) (w7 : World) => 0 ≤ i ∧ i ≤ mn ∧ (∀ x : Int, inn x = true ↔ InI M i x) ∧ Own w.heap.size w w7 [some (vch ib 4 n (fun x => .bool (inn x))), some (lch b3 47 [.slice ga n gc])]) (fun (i : Int) (inn : Int → Bool) => ((mn : Int) - i).toNat) (0) (fun _ => false) ?_ (And.intro (by exact slot_int rfl (by first | omega)) (And.intro rfl (And.intro rfl (And.intro rfl (And.intro rfl (And.intro rfl trivial)))))) ?_
 ·exact ⟨by omega, by omega, fun x => ⟨fun h => Bool.noConfusion h, fun ⟨j, hj, _⟩ => by omega⟩, hO5⟩
 intro i inn w7 hIw7 ih8
 obtain ⟨hi0, hi1, hin, hO⟩ := hIw7
 show Run _ _ _ _ [(9, _), (1, _), (2, _), (3, _), (7, _), (8, _)] _ _
 refine run_seq <| run_seq <| run_region <| rl_v rfl rfl rfl (ov_move rfl rfl) <| rl_v rfl rfl rfl (ov_move rfl rfl) <| rl_v rfl rfl rfl (ov_len rfl Try.underlying23 rfl) <| rl_v rfl rfl rfl (ov_lss rfl rfl rfl) <| rl_nil ?_
 first | refine run_cond_dec rfl (fun c1 => ?_) (fun c1 => ?_) | refine run_cond rfl (fun c1 => ?_) (fun c1 => ?_)
 ·have hMi := hM.rng i hi0 c1
  refine run_skip <| run_seq <| run_block <| run_seq <| run_seq <| run_class (Cl5 w.heap.size w [some (vch ib 4 n (fun x => .bool (inn x))), some (lch b3 47 [.slice ga n gc])]) (⟨hO.drew⟩) mixed (by kernel_rfl) ?_
  refine rk_v rfl rfl rfl (fun wq hQ => ov_move rfl rfl) ?_
  refine rk_v rfl rfl rfl (fun wq hQ => ov_move rfl rfl) ?_
  refine rk_v rfl rfl rfl (fun wq hQ => ov_index1 rfl Try.underlying23 (by kernel_rfl) rfl rfl ⟨by omega, by omega⟩ (by exact hma (by omega))) ?_
  refine rk_v rfl rfl rfl (fun wq hQ => ov_load rfl Try.underlying3 rfl rfl (by exact hmrow _ (hQ.own).below _ (by omega) (by omega))) ?_
  refine rk_v rfl rfl rfl (fun wq hQ => ov_lss rfl rfl rfl) ?_
  refine rk_v rfl rfl rfl (fun wq hQ => ov_move rfl rfl) ?_
  first | refine rk_noD 34 rfl ((by omega)) ?_ | refine rk_no 34 rfl ((by omega)) ?_
  refine rk_gv rfl rfl rfl rfl rfl (fun wq hQ => ov_move rfl rfl) ?_
  refine rk_gv rfl rfl rfl rfl rfl (fun wq hQ => ov_move rfl rfl) ?_
  refine rk_gv rfl rfl rfl rfl rfl (fun wq hQ => ov_index1 rfl Try.underlying23 (by kernel_rfl) rfl rfl ⟨by omega, by omega⟩ (by exact hma (by omega))) ?_
  refine rk_gv rfl rfl rfl rfl rfl (fun wq hQ => ov_load rfl Try.underlying3 rfl rfl (by exact hmrow _ (hQ.own).below _ (by omega) (by omega))) ?_
  refine rk_gv rfl rfl rfl rfl rfl (fun wq hQ => ov_move rfl rfl) ?_
  refine rk_gv rfl rfl rfl rfl rfl (fun wq hQ => ov_geq rfl rfl rfl) ?_
  refine rk_v rfl rfl rfl (fun wq hQ => ov_pick_f rfl rfl rfl) ?_
  refine rk_v rfl rfl rfl (fun wq hQ => ov_move rfl rfl) ?_
  first | refine rk_noD 42 rfl ((by omega)) ?_ | refine rk_no 42 rfl ((by omega)) ?_
  refine rk_gv rfl rfl rfl rfl rfl (fun wq hQ => ov_move rfl rfl) ?_
  refine rk_gv rfl rfl rfl rfl rfl (fun wq hQ => ov_gtr rfl rfl rfl) ?_
  refine rk_gv rfl rfl rfl rfl rfl (fun wq hQ => ov_move rfl rfl) ?_
  first | refine rk_split_dec 45 rfl (fun g1 => ?_) (fun g1 => ?_) | refine rk_split 45 rfl (fun g1 => ?_) (fun g1 => ?_)
  ·refine rk_gv rfl rfl rfl rfl rfl (fun wq hQ => ov_move rfl rfl) ?_
   refine rk_gv rfl rfl rfl rfl rfl (fun wq hQ => ov_move rfl rfl) ?_
   refine rk_gv rfl rfl rfl rfl rfl (fun wq hQ => ov_sub rfl rfl rfl (by omega)) ?_
   refine rk_gv rfl rfl rfl rfl rfl (fun wq hQ => ov_index1 rfl Try.underlying23 (by kernel_rfl) rfl rfl ⟨by omega, by omega⟩ (by exact hma (by omega))) ?_
   refine rk_gv rfl rfl rfl rfl rfl (fun wq hQ => ov_load rfl Try.underlying3 rfl rfl (by exact hmrow _ (hQ.own).below _ (by omega) (by omega))) ?_
   refine rk_gv rfl rfl rfl rfl rfl (fun wq hQ => ov_move rfl rfl) ?_
   refine rk_gv rfl rfl rfl rfl rfl (fun wq hQ => ov_move rfl rfl) ?_
   refine rk_gv rfl rfl rfl rfl rfl (fun wq hQ => ov_index1 rfl Try.underlying23 (by kernel_rfl) rfl rfl ⟨by omega, by omega⟩ (by exact hma (by omega))) ?_
   refine rk_gv rfl rfl rfl rfl rfl (fun wq hQ => ov_load rfl Try.underlying3 rfl rfl (by exact hmrow _ (hQ.own).below _ (by omega) (by omega))) ?_
   refine rk_gv rfl rfl rfl rfl rfl (fun wq hQ => ov_geq rfl rfl rfl) ?_
   refine rk_gv rfl rfl rfl rfl rfl (fun wq hQ => ov_pick_t rfl rfl rfl) ?_
   refine rk_v rfl rfl rfl (fun wq hQ => ov_pick_f rfl rfl rfl) ?_
   refine rk_nil (fun w10 hQ0 => ?_)
   first | refine run_cond_dec rfl (fun bad => ?_) (fun bad => ?_) | refine run_cond rfl (fun bad => ?_) (fun bad => ?_)
   ·exfalso; have := hM.inc (i - 1) (by omega) (by omega); rw [show i - 1 + 1 = i by omega] at this; omega
   ·refine run_skip <| run_region <| rl_v rfl rfl rfl (ov_move rfl rfl) <| rl_v rfl rfl rfl (ov_move rfl rfl) <| rl_v rfl rfl rfl (ov_move rfl rfl) <| rl_v rfl rfl rfl (ov_index1 rfl Try.underlying23 (by kernel_rfl) rfl rfl ⟨by omega, by omega⟩ (by exact hma (by omega))) ?_
    refine rl_v rfl rfl rfl (ov_load rfl Try.underlying3 rfl rfl (by exact hmrow _ (hQ0.own).below _ (by omega) (by omega))) ?_
    refine rl_v rfl rfl rfl (ov_index1 rfl Try.underlying92 (by kernel_rfl) rfl rfl ⟨by omega, by omega⟩ (by rfl)) ?_
    refine rl_ow rfl (ow_store rfl rfl (by kernel_rfl) (hQ0.own) 0 rfl rfl ⟨by omega, by omega⟩ rfl rfl) ?_
    rintro _ w11 ⟨rfl, hO12, hs13⟩
    have hin2 : ∀ x : Int, upd inn (M i) true x = true ↔ InI M (i + 1) x := fun x => by
     rw [InI.snoc hi0]
     by_cases c : x = M i
     ·rw [c, upd_same]; exact ⟨fun _ => .inr rfl, fun _ => rfl⟩
     ·rw [upd_ne _ _ c, hin x]; exact ⟨.inl, fun h => h.elim id fun e => absurd e c⟩
    refine rl_nil <| run_inBlock <| run_region <| rl_v rfl rfl rfl (ov_move rfl rfl) <| rl_v rfl rfl rfl (ov_add rfl rfl rfl (by omega)) ?_
    refine rl_v rfl rfl rfl (ov_assign rfl rfl) <| rl_nil ?_
    refine Run.use (ih8 (i + 1) (upd inn (M i) true) _ ?_ ?_) (And.intro (by exact slot_int rfl (by first | omega)) (And.intro rfl (And.intro rfl (And.intro rfl (And.intro rfl (And.intro rfl trivial))))))
    ·first | omega | (dsimp only; omega)
    ·exact ⟨by omega, by omega, hin2, hO12.congrI 0 rfl fun x x0 x1 => by unfold upd; split <;> rfl⟩
  ·refine rk_gskip rfl rfl rfl rfl rfl rfl <| rk_gskip rfl rfl rfl rfl rfl rfl <| rk_gskip rfl rfl rfl rfl rfl rfl <| rk_gskip rfl rfl rfl rfl rfl rfl <| rk_gskip rfl rfl rfl rfl rfl rfl <| rk_gskip rfl rfl rfl rfl rfl rfl <| rk_gskip rfl rfl rfl rfl rfl rfl <| rk_gskip rfl rfl rfl rfl rfl rfl <| rk_gskip rfl rfl rfl rfl rfl rfl <| rk_gskip rfl rfl rfl rfl rfl rfl <| rk_gv rfl rfl rfl rfl rfl (fun wq hQ => ov_pick_f rfl rfl rfl) ?_
   refine rk_v rfl rfl rfl (fun wq hQ => ov_pick_f rfl rfl rfl) ?_
   refine rk_nil (fun w14 hQ0 => ?_)
   refine run_cond_f rfl <| run_skip <| run_region <| rl_v rfl rfl rfl (ov_move rfl rfl) <| rl_v rfl rfl rfl (ov_move rfl rfl) <| rl_v rfl rfl rfl (ov_move rfl rfl) <| rl_v rfl rfl rfl (ov_index1 rfl Try.underlying23 (by kernel_rfl) rfl rfl ⟨by omega, by omega⟩ (by exact hma (by omega))) ?_
   refine rl_v rfl rfl rfl (ov_load rfl Try.underlying3 rfl rfl (by exact hmrow _ (hQ0.own).below _ (by omega) (by omega))) ?_
   refine rl_v rfl rfl rfl (ov_index1 rfl Try.underlying92 (by kernel_rfl) rfl rfl ⟨by omega, by omega⟩ (by rfl)) ?_
   refine rl_ow rfl (ow_store rfl rfl (by kernel_rfl) (hQ0.own) 0 rfl rfl ⟨by omega, by omega⟩ rfl rfl) ?_
   rintro _ w15 ⟨rfl, hO16, hs17⟩
   have hin2 : ∀ x : Int, upd inn (M i) true x = true ↔ InI M (i + 1) x := fun x => by
    rw [InI.snoc hi0]
    by_cases c : x = M i
    ·rw [c, upd_same]; exact ⟨fun _ => .inr rfl, fun _ => rfl⟩
    ·rw [upd_ne _ _ c, hin x]; exact ⟨.inl, fun h => h.elim id fun e => absurd e c⟩
   refine rl_nil <| run_inBlock <| run_region <| rl_v rfl rfl rfl (ov_move rfl rfl) <| rl_v rfl rfl rfl (ov_add rfl rfl rfl (by omega)) ?_
   refine rl_v rfl rfl rfl (ov_assign rfl rfl) <| rl_nil ?_
   refine Run.use (ih8 (i + 1) (upd inn (M i) true) _ ?_ ?_) (And.intro (by exact slot_int rfl (by first | omega)) (And.intro rfl (And.intro rfl (And.intro rfl (And.intro rfl (And.intro rfl trivial))))))
   ·first | omega | (dsimp only; omega)
   ·exact ⟨by omega, by omega, hin2, hO16.congrI 0 rfl fun x x0 x1 => by unfold upd; split <;> rfl⟩
 ·obtain rfl : i = mn := by omega
  refine run_exit rfl <| run_seq <| run_seq <| run_region <| rl_v rfl rfl rfl (ov_assign rfl rfl) <| rl_nil <| run_block <| Run.keep [1, 2, 3, 7, 8, 10] (F' := [(1, _), (2, _), (3, _), (7, _), (8, _), (10, _)]) rfl <| run_loop1 (fun (wi : Int) => [(10, .int .i64 wi)]) [1, 2, 3, 7, 8] (fun (wi : Int) (w18 : World) => 0 ≤ wi ∧ wi ≤ mn ∧ (∀ j : Int, 0 ≤ j → j < wi → ¬ CoalW (lik5 L E) l (InI M mn) (M j)) ∧ Own w.heap.size w w18 [some (vch ib 4 n (fun x => .bool (inn x))), some (lch b3 47 [.slice ga n gc])]) (fun (wi : Int) => ((mn : Int) - wi).toNat) (0) ?_ (And.intro (by exact slot_int rfl (by first | omega)) (And.intro rfl (And.intro rfl (And.intro rfl (And.intro rfl (And.intro rfl trivial)))))) ?_
  ·exact ⟨by omega, by omega, fun j j0 j1 => by omega, hO⟩
  intro wi w18 hIw18 ih19
  obtain ⟨hw0, hw1, hnoc, hO⟩ := hIw18
  show Run _ _ _ _ [(10, _), (1, _), (2, _), (3, _), (7, _), (8, _)] _ _
  refine run_seq <| run_seq <| run_region <| rl_v rfl rfl rfl (ov_move rfl rfl) <| rl_v rfl rfl rfl (ov_move rfl rfl) <| rl_v rfl rfl rfl (ov_len rfl Try.underlying23 rfl) <| rl_v rfl rfl rfl (ov_lss rfl rfl rfl) <| rl_nil ?_
  first | refine run_cond_dec rfl (fun c2 => ?_) (fun c2 => ?_) | refine run_cond rfl (fun c2 => ?_) (fun c2 => ?_)
  ·obtain ⟨op, hop⟩ : ∃ op : Int → Int → Bool, op = fun x k => dB (op5 (lik5 L E) l (InI M mn) (M wi) x k) := ⟨_, rfl⟩
   have hopt : ∀ x k : Int, op x k = true ↔ op5 (lik5 L E) l (InI M mn) (M wi) x k := fun x k => by rw [hop]; exact dB_iff
   refine run_skip <| run_seq <| run_block <| run_seq <| run_region <| rl_v rfl rfl rfl (ov_assign rfl rfl) <| rl_nil <| run_seq <| run_region <| rl_v rfl rfl rfl (ov_move rfl rfl) ?_
   refine rl_make (n) rfl rfl rfl rfl Try.underlying23 info_3 rfl hO rfl rfl (by rfl) (by rfl) ⟨by omega, by omega⟩ (fun fb w20 hO21 hs22 => ?_)
   have hOt := hO21.nil_cons.perm (List.perm_append_comm (l₁ := [none]))
   refine rl_v rfl rfl rfl (ov_assign rfl rfl) <| rl_nil <| run_seq <| run_seq <| run_region <| rl_v rfl rfl rfl (ov_assign rfl rfl) <| rl_nil <| run_block <| Run.keep [1, 2, 3, 7, 8, 10, 11, 12, 13] (F' := [(1, _), (2, _), (3, _), (7, _), (8, _), (10, _), (11, _), (12, _), (13, _)]) rfl <| run_loop4 (fun (i : Nat) (va : Option Addr) (vc : Nat) (of : Int → Int) => [(13, .int .i64 (i : Int)), (11, .slice va i vc)]) [1, 2, 3, 7, 8, 10, 12] (fun (i : Nat) (va : Option Addr) (vc : Nat) (of : Int → Int) (w23 : World) => i ≤ n ∧ (∀ k : Int, 0 ≤ k → k < i → of k = -1) ∧ ∃ H : List (Option Blk), OTab (.slice va i vc) 92 4 i (fun _ => n) (fun r k => .bool (op r k)) H ∧ Own w.heap.size w w23 (some (vch fb 3 n (fun k => iv (of k))) :: some (vch ib 4 n (fun x => .bool (inn x))) :: some (lch b3 47 [.slice ga n gc]) :: H)) (fun (i : Nat) (va : Option Addr) (vc : Nat) (of : Int → Int) => n - i) (0) (none) (0) (fun _ => 0) ?_ (And.intro (by exact slot_int rfl (by first | omega)) (And.intro rfl (And.intro rfl (And.intro rfl (And.intro rfl (And.intro rfl (And.intro rfl (And.intro rfl (And.intro rfl trivial))))))))) ?_
   ·exact ⟨Nat.zero_le _, fun k k0 k1 => by omega, [none], OTab.nil _ _ _ _, hOt⟩
   intro i va vc of w23 hIw23 ih24
   obtain ⟨hi, hof, H, hTb, hO⟩ := hIw23
   show Run _ _ _ _ [(13, _), (11, _), (1, _), (2, _), (3, _), (7, _), (8, _), (10, _), (12, _)] _ _
   refine run_seq <| run_seq <| run_region <| rl_v rfl rfl rfl (ov_move rfl rfl) <| rl_v rfl rfl rfl (ov_move rfl rfl) <| rl_v rfl rfl rfl (ov_lss rfl rfl rfl) <| rl_nil ?_
   first | refine run_cond_dec rfl (fun c3 => ?_) (fun c3 => ?_) | refine run_cond rfl (fun c3 => ?_) (fun c3 => ?_)
   ·refine run_skip <| run_seq <| run_block <| run_seq <| run_region <| rl_v rfl rfl rfl (ov_move rfl rfl) <| rl_v rfl rfl rfl (ov_move rfl rfl) <| rl_v rfl rfl rfl (ov_index1 rfl Try.underlying23 (by kernel_rfl) rfl rfl ⟨by omega, by omega⟩ (by rfl)) ?_
    refine rl_ow rfl (ow_storeI rfl rfl (by kernel_rfl) hO 0 rfl rfl ⟨by omega, by omega⟩ rfl) ?_
    rintro _ w25 ⟨rfl, hO26, hs27⟩
    refine rl_nil <| run_seq <| run_region <| rl_v rfl rfl rfl (ov_move rfl rfl) ?_
    refine rl_make (n) rfl rfl rfl rfl Try.underlying92 info_4 rfl hO26 rfl rfl (by rfl) (by rfl) ⟨by omega, by omega⟩ (fun rb w28 hO29 hs30 => ?_)
    refine rl_v rfl rfl rfl (ov_assign rfl rfl) <| rl_nil <| run_seq <| run_seq <| run_region <| rl_v rfl rfl rfl (ov_assign rfl rfl) <| rl_nil <| run_block <| Run.keep [1, 2, 3, 7, 8, 10, 11, 12, 13, 14, 15] (F' := [(1, _), (2, _), (3, _), (7, _), (8, _), (10, _), (11, _), (12, _), (13, _), (14, _), (15, _)]) rfl <| run_loop2 (fun (k : Int) (ro : Int → Bool) => [(15, .int .i64 k)]) [1, 2, 3, 7, 8, 10, 11, 12, 13, 14] (fun (k : Int) (ro : Int → Bool) (w31 : World) => 0 ≤ k ∧ k ≤ n ∧ (∀ j : Int, 0 ≤ j → j < k → ro j = op i j) ∧ Own w.heap.size w w31 (some (vch rb 4 n (fun x => .bool (ro x))) :: some (vch fb 3 n (fun k => iv (upd of i (-1) k))) :: some (vch ib 4 n (fun x => .bool (inn x))) :: some (lch b3 47 [.slice ga n gc]) :: H)) (fun (k : Int) (ro : Int → Bool) => ((n : Int) - k).toNat) (0) (fun _ => false) ?_ (And.intro (by exact slot_int rfl (by first | omega)) (And.intro rfl (And.intro rfl (And.intro rfl (And.intro rfl (And.intro rfl (And.intro rfl (And.intro rfl (And.intro rfl (And.intro rfl (And.intro rfl trivial))))))))))) ?_
    ·exact ⟨by omega, by omega, fun j j0 j1 => by omega, hO29⟩
    intro k ro w31 hIw31 ih32
    obtain ⟨hk0, hk1, hro, hO⟩ := hIw31
    show Run _ _ _ _ [(15, _), (1, _), (2, _), (3, _), (7, _), (8, _), (10, _), (11, _), (12, _), (13, _), (14, _)] _ _
    refine run_seq <| run_seq <| run_region <| rl_v rfl rfl rfl (ov_move rfl rfl) <| rl_v rfl rfl rfl (ov_move rfl rfl) <| rl_v rfl rfl rfl (ov_lss rfl rfl rfl) <| rl_nil ?_
    first | refine run_cond_dec rfl (fun c4 => ?_) (fun c4 => ?_) | refine run_cond rfl (fun c4 => ?_) (fun c4 => ?_)
    ·have hrow : ∀ {y : Bool}, (y = true ↔ op5 (lik5 L E) l (InI M mn) (M wi) i k) → ∀ j : Int, 0 ≤ j → j < k + 1 → upd ro k y j = op i j := fun {y} hy j j0 j1 => by
      by_cases c : j = k
      ·rw [c, upd_same]
       have h2 := hopt i k
       cases y
       ·cases e : op i k
        ·rfl
        ·exact hy.2 (h2.1 e)
       ·exact (h2.2 (hy.1 rfl)).symm
      ·rw [upd_ne _ _ c]; exact hro j j0 (by omega)
     refine run_skip <| run_seq <| run_block <| run_ctail (Cl5 w.heap.size w (some (vch rb 4 n (fun x => .bool (ro x))) :: some (vch fb 3 n (fun k => iv (upd of i (-1) k))) :: some (vch ib 4 n (fun x => .bool (inn x))) :: some (lch b3 47 [.slice ga n gc]) :: H)) (⟨hO.drew⟩) 48 mixed (by kernel_rfl) ?_
     refine rg_v rfl rfl rfl (fun wq hQ => ov_move rfl rfl) ?_
     refine rg_v rfl rfl rfl (fun wq hQ => ov_move rfl rfl) ?_
     refine rg_v rfl rfl rfl (fun wq hQ => ov_move rfl rfl) ?_
     refine rg_v rfl rfl rfl (fun wq hQ => ov_move rfl rfl) ?_
     refine rg_v rfl rfl rfl (fun wq hQ => ov_index1 rfl Try.underlying92 (by kernel_rfl) rfl rfl ⟨by omega, by omega⟩ (by rfl)) ?_
     refine rg_v rfl rfl rfl (fun wq hQ => ov_load rfl Try.underlying4 rfl rfl (by exact (hQ.own).cellI 2 rfl (i : Int) (by omega) (by omega))) ?_
     refine rg_v rfl rfl rfl (fun wq hQ => ov_move rfl rfl) ?_
     first | refine rg_split_dec 93 rfl (fun a1 => ?_) (fun a1 => ?_) | refine rg_split 93 rfl (fun a1 => ?_) (fun a1 => ?_)
     ·refine rg_gv rfl rfl rfl rfl rfl (fun wq hQ => ov_move rfl rfl) ?_
      refine rg_gv rfl rfl rfl rfl rfl (fun wq hQ => ov_move rfl rfl) ?_
      refine rg_gv rfl rfl rfl rfl rfl (fun wq hQ => ov_index1 rfl Try.underlying92 (by kernel_rfl) rfl rfl ⟨by omega, by omega⟩ (by rfl)) ?_
      refine rg_gv rfl rfl rfl rfl rfl (fun wq hQ => ov_load rfl Try.underlying4 rfl rfl (by exact (hQ.own).cellI 2 rfl k (by omega) (by omega))) ?_
      refine rg_v rfl rfl rfl (fun wq hQ => ov_pick_t rfl rfl rfl) ?_
      refine rg_v rfl rfl rfl (fun wq hQ => ov_move rfl rfl) ?_
      first | refine rg_split_dec 99 rfl (fun a2 => ?_) (fun a2 => ?_) | refine rg_split 99 rfl (fun a2 => ?_) (fun a2 => ?_)
      ·refine rg_gv rfl rfl rfl rfl rfl (fun wq hQ => ov_loadW rfl Try.underlying47 rfl (by kernel_rfl) rfl (hQ.own) 3 rfl) ?_
       refine rg_gv rfl rfl rfl rfl rfl (fun wq hQ => ov_move rfl rfl) ?_
       refine rg_gv rfl rfl rfl rfl rfl (fun wq hQ => ov_move rfl rfl) ?_
       refine rg_gcall callable_33 rfl rfl rfl rfl rfl rfl rfl rfl (fun wq hQ => (refLikes_any ga n gc L E i k _ hL ((h.below (hQ.own).below).mono (hQ.own).size) (by omega) (by omega)).mono fun _ _ h => ⟨h.1, ⟨(hQ.own).past h.2⟩⟩) ?_
       refine rg_gv rfl rfl rfl rfl rfl (fun wq hQ => ov_loadW rfl Try.underlying47 rfl (by kernel_rfl) rfl (hQ.own) 3 rfl) ?_
       refine rg_gv rfl rfl rfl rfl rfl (fun wq hQ => ov_move rfl rfl) ?_
       refine rg_gv rfl rfl rfl rfl rfl (fun wq hQ => ov_move rfl rfl) ?_
       refine rg_gv rfl rfl rfl rfl rfl (fun wq hQ => ov_move rfl rfl) ?_
       refine rg_gv rfl rfl rfl rfl rfl (fun wq hQ => ov_index1 rfl Try.underlying23 (by kernel_rfl) rfl rfl ⟨by omega, by omega⟩ (by exact hla (by omega))) ?_
       refine rg_gv rfl rfl rfl rfl rfl (fun wq hQ => ov_load rfl Try.underlying3 rfl rfl (by exact hlrow _ (hQ.own).below _ (by omega) (by omega))) ?_
       refine rg_gcall callable_33 rfl rfl rfl rfl rfl rfl rfl rfl (fun wq hQ => (refLikes_any ga n gc L E i (l i) _ hL ((h.below (hQ.own).below).mono (hQ.own).size) (by omega) (by omega)).mono fun _ _ h => ⟨h.1, ⟨(hQ.own).past h.2⟩⟩) ?_
       refine rg_gv rfl rfl rfl rfl rfl (fun wq hQ => ov_lss rfl rfl rfl) ?_
       refine rg_gv rfl rfl rfl rfl rfl (fun wq hQ => ov_move rfl rfl) ?_
       first | refine rg_split_dec 112 rfl (fun a3 => ?_) (fun a3 => ?_) | refine rg_split 112 rfl (fun a3 => ?_) (fun a3 => ?_)
       ·refine rg_gskip rfl rfl rfl rfl rfl rfl <| rg_gskip rfl rfl rfl rfl rfl rfl <| rg_gskip rfl rfl rfl rfl rfl rfl <| rg_gskip rfl rfl rfl rfl rfl rfl <| rg_gskip rfl rfl rfl rfl rfl rfl <| rg_gskip rfl rfl rfl rfl rfl rfl <| rg_gskip rfl rfl rfl rfl rfl rfl <| rg_gundef rfl rfl rfl rfl rfl <| rg_gundef rfl rfl rfl rfl rfl <| rg_gundef rfl rfl rfl rfl rfl <| rg_gundef rfl rfl rfl rfl rfl <| rg_gundef rfl rfl rfl rfl rfl <| rg_gundef rfl rfl rfl rfl rfl <| rg_gundef rfl rfl rfl rfl rfl <| rg_gundef rfl rfl rfl rfl rfl <| rg_gundef rfl rfl rfl rfl rfl <| rg_gundef rfl rfl rfl rfl rfl <| rg_gundef rfl rfl rfl rfl rfl <| rg_gundef rfl rfl rfl rfl rfl <| rg_gskip rfl rfl rfl rfl rfl rfl <| rg_gv rfl rfl rfl rfl rfl (fun wq hQ => ov_pick_t rfl rfl rfl) ?_
        refine rg_v rfl rfl rfl (fun wq hQ => ov_pick_t rfl rfl rfl) ?_
        refine rg_nil (fun w42 hQ => ?_)
        have hO43 := hQ.own
        refine rl_v rfl rfl rfl (ov_index1 rfl Try.underlying92 (by kernel_rfl) rfl rfl ⟨by omega, by omega⟩ (by rfl)) ?_
        refine rl_ow rfl (ow_store rfl rfl (by kernel_rfl) hO43 0 rfl rfl ⟨by omega, by omega⟩ rfl rfl) ?_
        rintro _ w44 ⟨rfl, hO45, hs46⟩
        refine rl_nil <| run_inBlock <| run_region <| rl_v rfl rfl rfl (ov_move rfl rfl) <| rl_v rfl rfl rfl (ov_add rfl rfl rfl (by omega)) ?_
        refine rl_v rfl rfl rfl (ov_assign rfl rfl) <| rl_nil ?_
        refine Run.use (ih32 (k + 1) (upd ro k true) _ ?_ ?_) (And.intro (by exact slot_int rfl (by first | omega)) (And.intro rfl (And.intro rfl (And.intro rfl (And.intro rfl (And.intro rfl (And.intro rfl (And.intro rfl (And.intro rfl (And.intro rfl (And.intro rfl trivial)))))))))))
        ·first | omega | (dsimp only; omega)
        ·exact ⟨by omega, by omega, hrow ⟨fun _ => ⟨(hin i).1 a1, (hin k).1 a2, .inl a3⟩, fun _ => rfl⟩, hO45.congrI 0 rfl fun j j0 j1 => by unfold upd; split <;> rfl⟩
       ·refine rg_gv rfl rfl rfl rfl rfl (fun wq hQ => ov_move rfl rfl) ?_
        refine rg_gv rfl rfl rfl rfl rfl (fun wq hQ => ov_move rfl rfl) ?_
        refine rg_gv rfl rfl rfl rfl rfl (fun wq hQ => ov_move rfl rfl) ?_
        refine rg_gv rfl rfl rfl rfl rfl (fun wq hQ => ov_index1 rfl Try.underlying23 (by kernel_rfl) rfl rfl ⟨by omega, by omega⟩ (by exact hma (by omega))) ?_
        refine rg_gv rfl rfl rfl rfl rfl (fun wq hQ => ov_load rfl Try.underlying3 rfl rfl (by exact hmrow _ (hQ.own).below _ (by omega) (by omega))) ?_
        refine rg_gv rfl rfl rfl rfl rfl (fun wq hQ => ov_neq rfl rfl rfl) ?_
        refine rg_gv rfl rfl rfl rfl rfl (fun wq hQ => ov_move rfl rfl) ?_
        first | refine rg_split_dec 119 rfl (fun a4 => ?_) (fun a4 => ?_) | refine rg_split 119 rfl (fun a4 => ?_) (fun a4 => ?_)
        ·refine rg_gv rfl rfl rfl rfl rfl (fun wq hQ => ov_loadW rfl Try.underlying47 rfl (by kernel_rfl) rfl (hQ.own) 3 rfl) ?_
         refine rg_gv rfl rfl rfl rfl rfl (fun wq hQ => ov_move rfl rfl) ?_
         refine rg_gv rfl rfl rfl rfl rfl (fun wq hQ => ov_move rfl rfl) ?_
         refine rg_gcall callable_33 rfl rfl rfl rfl rfl rfl rfl rfl (fun wq hQ => (refLikes_any ga n gc L E i k _ hL ((h.below (hQ.own).below).mono (hQ.own).size) (by omega) (by omega)).mono fun _ _ h => ⟨h.1, ⟨(hQ.own).past h.2⟩⟩) ?_
         refine rg_gv rfl rfl rfl rfl rfl (fun wq hQ => ov_loadW rfl Try.underlying47 rfl (by kernel_rfl) rfl (hQ.own) 3 rfl) ?_
         refine rg_gv rfl rfl rfl rfl rfl (fun wq hQ => ov_move rfl rfl) ?_
         refine rg_gv rfl rfl rfl rfl rfl (fun wq hQ => ov_move rfl rfl) ?_
         refine rg_gv rfl rfl rfl rfl rfl (fun wq hQ => ov_move rfl rfl) ?_
         refine rg_gv rfl rfl rfl rfl rfl (fun wq hQ => ov_index1 rfl Try.underlying23 (by kernel_rfl) rfl rfl ⟨by omega, by omega⟩ (by exact hla (by omega))) ?_
         refine rg_gv rfl rfl rfl rfl rfl (fun wq hQ => ov_load rfl Try.underlying3 rfl rfl (by exact hlrow _ (hQ.own).below _ (by omega) (by omega))) ?_
         refine rg_gcall callable_33 rfl rfl rfl rfl rfl rfl rfl rfl (fun wq hQ => (refLikes_any ga n gc L E i (l i) _ hL ((h.below (hQ.own).below).mono (hQ.own).size) (by omega) (by omega)).mono fun _ _ h => ⟨h.1, ⟨(hQ.own).past h.2⟩⟩) ?_
         refine rg_gv rfl rfl rfl rfl rfl (fun wq hQ => ov_eql rfl rfl rfl) ?_
         refine rg_gv rfl rfl rfl rfl rfl (fun wq hQ => ov_pick_t rfl rfl rfl) ?_
         refine rg_gv rfl rfl rfl rfl rfl (fun wq hQ => ov_pick_f rfl rfl rfl) ?_
         refine rg_v rfl rfl rfl (fun wq hQ => ov_pick_t rfl rfl rfl) ?_
         refine rg_nil (fun w54 hQ => ?_)
         have hO55 := hQ.own
         refine rl_v rfl rfl rfl (ov_index1 rfl Try.underlying92 (by kernel_rfl) rfl rfl ⟨by omega, by omega⟩ (by rfl)) ?_
         refine rl_ow rfl (ow_store rfl rfl (by kernel_rfl) hO55 0 rfl rfl ⟨by omega, by omega⟩ rfl rfl) ?_
         rintro _ w56 ⟨rfl, hO57, hs58⟩
         refine rl_nil <| run_inBlock <| run_region <| rl_v rfl rfl rfl (ov_move rfl rfl) <| rl_v rfl rfl rfl (ov_add rfl rfl rfl (by omega)) ?_
         refine rl_v rfl rfl rfl (ov_assign rfl rfl) <| rl_nil ?_
         refine Run.use (ih32 (k + 1) (upd ro k (decide (lik5 L E i k = lik5 L E i (l i)))) _ ?_ ?_) (And.intro (by exact slot_int rfl (by first | omega)) (And.intro rfl (And.intro rfl (And.intro rfl (And.intro rfl (And.intro rfl (And.intro rfl (And.intro rfl (And.intro rfl (And.intro rfl (And.intro rfl trivial)))))))))))
         ·first | omega | (dsimp only; omega)
         ·exact ⟨by omega, by omega, hrow ⟨fun h => ⟨(hin i).1 a1, (hin k).1 a2, .inr ⟨a4, of_decide_eq_true h⟩⟩, fun h => decide_eq_true (h.2.2.elim (fun h => absurd h a3) And.right)⟩, hO57.congrI 0 rfl fun j j0 j1 => by unfold upd; split <;> rfl⟩
        ·refine rg_gskip rfl rfl rfl rfl rfl rfl <| rg_gskip rfl rfl rfl rfl rfl rfl <| rg_gskip rfl rfl rfl rfl rfl rfl <| rg_gskip rfl rfl rfl rfl rfl rfl <| rg_gskip rfl rfl rfl rfl rfl rfl <| rg_gskip rfl rfl rfl rfl rfl rfl <| rg_gskip rfl rfl rfl rfl rfl rfl <| rg_gskip rfl rfl rfl rfl rfl rfl <| rg_gskip rfl rfl rfl rfl rfl rfl <| rg_gskip rfl rfl rfl rfl rfl rfl <| rg_gskip rfl rfl rfl rfl rfl rfl <| rg_gskip rfl rfl rfl rfl rfl rfl <| rg_gv rfl rfl rfl rfl rfl (fun wq hQ => ov_pick_f rfl rfl rfl) ?_
         refine rg_gv rfl rfl rfl rfl rfl (fun wq hQ => ov_pick_f rfl rfl rfl) ?_
         refine rg_v rfl rfl rfl (fun wq hQ => ov_pick_t rfl rfl rfl) ?_
         refine rg_nil (fun w59 hQ => ?_)
         have hO60 := hQ.own
         refine rl_v rfl rfl rfl (ov_index1 rfl Try.underlying92 (by kernel_rfl) rfl rfl ⟨by omega, by omega⟩ (by rfl)) ?_
         refine rl_ow rfl (ow_store rfl rfl (by kernel_rfl) hO60 0 rfl rfl ⟨by omega, by omega⟩ rfl rfl) ?_
         rintro _ w61 ⟨rfl, hO62, hs63⟩
         refine rl_nil <| run_inBlock <| run_region <| rl_v rfl rfl rfl (ov_move rfl rfl) <| rl_v rfl rfl rfl (ov_add rfl rfl rfl (by omega)) ?_
         refine rl_v rfl rfl rfl (ov_assign rfl rfl) <| rl_nil ?_
         refine Run.use (ih32 (k + 1) (upd ro k false) _ ?_ ?_) (And.intro (by exact slot_int rfl (by first | omega)) (And.intro rfl (And.intro rfl (And.intro rfl (And.intro rfl (And.intro rfl (And.intro rfl (And.intro rfl (And.intro rfl (And.intro rfl (And.intro rfl trivial)))))))))))
         ·first | omega | (dsimp only; omega)
         ·exact ⟨by omega, by omega, hrow ⟨fun h => Bool.noConfusion h, fun h => False.elim (h.2.2.elim (fun h => a3 h) fun h => a4 h.1)⟩, hO62.congrI 0 rfl fun j j0 j1 => by unfold upd; split <;> rfl⟩
      ·refine rg_gskip rfl rfl rfl rfl rfl rfl <| rg_gskip rfl rfl rfl rfl rfl rfl <| rg_gskip rfl rfl rfl rfl rfl rfl <| rg_gskip rfl rfl rfl rfl rfl rfl <| rg_gskip rfl rfl rfl rfl rfl rfl <| rg_gskip rfl rfl rfl rfl rfl rfl <| rg_gskip rfl rfl rfl rfl rfl rfl <| rg_gskip rfl rfl rfl rfl rfl rfl <| rg_gskip rfl rfl rfl rfl rfl rfl <| rg_gskip rfl rfl rfl rfl rfl rfl <| rg_gskip rfl rfl rfl rfl rfl rfl <| rg_gskip rfl rfl rfl rfl rfl rfl <| rg_gskip rfl rfl rfl rfl rfl rfl <| rg_gundef rfl rfl rfl rfl rfl <| rg_gundef rfl rfl rfl rfl rfl <| rg_gundef rfl rfl rfl rfl rfl <| rg_gundef rfl rfl rfl rfl rfl <| rg_gundef rfl rfl rfl rfl rfl <| rg_gundef rfl rfl rfl rfl rfl <| rg_gundef rfl rfl rfl rfl rfl <| rg_gundef rfl rfl rfl rfl rfl <| rg_gundef rfl rfl rfl rfl rfl <| rg_gundef rfl rfl rfl rfl rfl <| rg_gundef rfl rfl rfl rfl rfl <| rg_gundef rfl rfl rfl rfl rfl <| rg_gundef rfl rfl rfl rfl rfl ?_
       refine rg_gundef rfl rfl rfl rfl rfl <| rg_gundef rfl rfl rfl rfl rfl <| rg_gundef rfl rfl rfl rfl rfl <| rg_gundef rfl rfl rfl rfl rfl <| rg_gundef rfl rfl rfl rfl rfl <| rg_gundef rfl rfl rfl rfl rfl <| rg_gundef rfl rfl rfl rfl rfl <| rg_gskip rfl rfl rfl rfl rfl rfl <| rg_v rfl rfl rfl (fun wq hQ => ov_pick_f rfl rfl rfl) ?_
       refine rg_nil (fun w64 hQ => ?_)
       have hO65 := hQ.own
       refine rl_v rfl rfl rfl (ov_index1 rfl Try.underlying92 (by kernel_rfl) rfl rfl ⟨by omega, by omega⟩ (by rfl)) ?_
       refine rl_ow rfl (ow_store rfl rfl (by kernel_rfl) hO65 0 rfl rfl ⟨by omega, by omega⟩ rfl rfl) ?_
       rintro _ w66 ⟨rfl, hO67, hs68⟩
       refine rl_nil <| run_inBlock <| run_region <| rl_v rfl rfl rfl (ov_move rfl rfl) <| rl_v rfl rfl rfl (ov_add rfl rfl rfl (by omega)) ?_
       refine rl_v rfl rfl rfl (ov_assign rfl rfl) <| rl_nil ?_
       refine Run.use (ih32 (k + 1) (upd ro k false) _ ?_ ?_) (And.intro (by exact slot_int rfl (by first | omega)) (And.intro rfl (And.intro rfl (And.intro rfl (And.intro rfl (And.intro rfl (And.intro rfl (And.intro rfl (And.intro rfl (And.intro rfl (And.intro rfl trivial)))))))))))
       ·first | omega | (dsimp only; omega)
       ·exact ⟨by omega, by omega, hrow ⟨fun h => Bool.noConfusion h, fun h => by have := (hin k).2 h.2.1; rw [a2] at this; exact Bool.noConfusion this⟩, hO67.congrI 0 rfl fun j j0 j1 => by unfold upd; split <;> rfl⟩
     ·refine rg_gskip rfl rfl rfl rfl rfl rfl <| rg_gskip rfl rfl rfl rfl rfl rfl <| rg_gskip rfl rfl rfl rfl rfl rfl <| rg_gskip rfl rfl rfl rfl rfl rfl <| rg_v rfl rfl rfl (fun wq hQ => ov_pick_f rfl rfl rfl) ?_
      refine rg_v rfl rfl rfl (fun wq hQ => ov_move rfl rfl) ?_
      refine rg_gskip rfl rfl rfl rfl rfl rfl <| rg_gskip rfl rfl rfl rfl rfl rfl <| rg_gskip rfl rfl rfl rfl rfl rfl <| rg_gskip rfl rfl rfl rfl rfl rfl <| rg_gskip rfl rfl rfl rfl rfl rfl <| rg_gskip rfl rfl rfl rfl rfl rfl <| rg_gskip rfl rfl rfl rfl rfl rfl <| rg_gskip rfl rfl rfl rfl rfl rfl <| rg_gskip rfl rfl rfl rfl rfl rfl <| rg_gskip rfl rfl rfl rfl rfl rfl <| rg_gskip rfl rfl rfl rfl rfl rfl <| rg_gskip rfl rfl rfl rfl rfl rfl <| rg_gskip rfl rfl rfl rfl rfl rfl <| rg_gundef rfl rfl rfl rfl rfl <| rg_gundef rfl rfl rfl rfl rfl <| rg_gundef rfl rfl rfl rfl rfl <| rg_gundef rfl rfl rfl rfl rfl <| rg_gundef rfl rfl rfl rfl rfl <| rg_gundef rfl rfl rfl rfl rfl <| rg_gundef rfl rfl rfl rfl rfl <| rg_gundef rfl rfl rfl rfl rfl <| rg_gundef rfl rfl rfl rfl rfl <| rg_gundef rfl rfl rfl rfl rfl <| rg_gundef rfl rfl rfl rfl rfl <| rg_gundef rfl rfl rfl rfl rfl <| rg_gundef rfl rfl rfl rfl rfl ?_
      refine rg_gundef rfl rfl rfl rfl rfl <| rg_gundef rfl rfl rfl rfl rfl <| rg_gundef rfl rfl rfl rfl rfl <| rg_gundef rfl rfl rfl rfl rfl <| rg_gundef rfl rfl rfl rfl rfl <| rg_gundef rfl rfl rfl rfl rfl <| rg_gundef rfl rfl rfl rfl rfl <| rg_gskip rfl rfl rfl rfl rfl rfl <| rg_v rfl rfl rfl (fun wq hQ => ov_pick_f rfl rfl rfl) ?_
      refine rg_nil (fun w69 hQ => ?_)
      have hO70 := hQ.own
      refine rl_v rfl rfl rfl (ov_index1 rfl Try.underlying92 (by kernel_rfl) rfl rfl ⟨by omega, by omega⟩ (by rfl)) ?_
      refine rl_ow rfl (ow_store rfl rfl (by kernel_rfl) hO70 0 rfl rfl ⟨by omega, by omega⟩ rfl rfl) ?_
      rintro _ w71 ⟨rfl, hO72, hs73⟩
      refine rl_nil <| run_inBlock <| run_region <| rl_v rfl rfl rfl (ov_move rfl rfl) <| rl_v rfl rfl rfl (ov_add rfl rfl rfl (by omega)) ?_
      refine rl_v rfl rfl rfl (ov_assign rfl rfl) <| rl_nil ?_
      refine Run.use (ih32 (k + 1) (upd ro k false) _ ?_ ?_) (And.intro (by exact slot_int rfl (by first | omega)) (And.intro rfl (And.intro rfl (And.intro rfl (And.intro rfl (And.intro rfl (And.intro rfl (And.intro rfl (And.intro rfl (And.intro rfl (And.intro rfl trivial)))))))))))
      ·first | omega | (dsimp only; omega)
      ·exact ⟨by omega, by omega, hrow ⟨fun h => Bool.noConfusion h, fun h => by have := (hin i).2 h.1; rw [a1] at this; exact Bool.noConfusion this⟩, hO72.congrI 0 rfl fun j j0 j1 => by unfold upd; split <;> rfl⟩
    ·obtain ⟨co, rv, ch, rfl, hv, h3t⟩ := hTb
     refine run_exit rfl <| run_region <| rl_v rfl rfl rfl (ov_move rfl rfl) <| rl_v rfl rfl rfl (ov_move rfl rfl) ?_
     refine rl_appV rfl rfl rfl rfl rfl rfl rfl rfl Try.underlying93 info_92 rfl hO 4 hv rfl rfl rfl rfl ⟨by omega, by omega⟩ (fun v139 c139 w74 hO75 hv139 hs76 => ?_)
     obtain ⟨a139, cp139, rfl⟩ := Row.val hv139
     have hO5 : Own w.heap.size w w74 (some (vch rb 4 n (fun x => .bool (ro x))) :: c139 :: ((List.range i).map ch ++ [some (vch fb 3 n (fun k => iv (upd of i (-1) k))), some (vch ib 4 n (fun x => .bool (inn x))), some (lch b3 47 [.slice ga n gc])])) := hO75.perm (.cons _ (List.perm_append_comm (l₁ := [some (vch fb 3 n (fun k => iv (upd of i (-1) k))), some (vch ib 4 n (fun x => .bool (inn x))), some (lch b3 47 [.slice ga n gc])]) (l₂ := c139 :: (List.range i).map ch)))
     obtain ⟨H', hT', hO8⟩ := OTab.snoc (L := fun _ => n) (F := fun r k => .bool (op r k)) (G := fun k => .bool (op i k)) h3t (IRow.ofV (Nat.le_refl _) (by show n ≤ 9223372036854775807; omega) fun j j0 j1 => congrArg Value.bool (hro j j0 (by omega))) hv139 hO5 rfl (fun j _ _ => rfl)
     have hof2 : ∀ k : Int, 0 ≤ k → k < ((i + 1 : Nat) : Int) → upd of i (-1) k = -1 := fun k k0 k1 => by
      by_cases c : k = i
      ·rw [c, upd_same]
      ·rw [upd_ne _ _ c]; exact hof k k0 (by omega)
     refine rl_v rfl rfl rfl (ov_assign rfl rfl) <| rl_nil <| run_inBlock <| run_region <| rl_v rfl rfl rfl (ov_move rfl rfl) <| rl_v rfl rfl rfl (ov_add rfl rfl rfl (by omega)) ?_
     refine rl_v rfl rfl rfl (ov_assign rfl rfl) <| rl_nil ?_
     refine Run.use (ih24 (i + 1) (a139) (cp139) (upd of i (-1)) _ ?_ ?_) (And.intro (by exact slot_int rfl (by first | omega)) (And.intro rfl (And.intro rfl (And.intro rfl (And.intro rfl (And.intro rfl (And.intro rfl (And.intro rfl (And.intro rfl trivial)))))))))
     ·first | omega | (dsimp only; omega)
     ·exact ⟨by omega, hof2, H', hT', hO8.perm List.perm_append_comm⟩
   ·have hin1 : i = n := by omega
    subst hin1
    have hBS := (BSq.of_otab hTb).sub (M := some (vch ib 4 i (fun x => .bool (inn x))) :: some (lch b3 47 [.slice ga i gc]) :: H) (.cons _ (.cons _ (.refl _)))
    have hkd0 : KD i (fun x k => op x k = true) (InI M 0) of := by
     have h := KD.init i (fun x k => op x k = true) of fun k k0 k1 => by rw [hof k k0 k1]; decide
     exact ⟨h.ok, fun x x0 ⟨j, hj, _⟩ => by omega, fun x x0 _ => h.none x x0 id⟩
    refine run_exit rfl <| run_seq <| run_region <| rl_v rfl rfl rfl (ov_assign rfl rfl) <| rl_nil <| run_seq <| run_seq <| run_region <| rl_v rfl rfl rfl (ov_assign rfl rfl) <| rl_nil <| run_block <| Run.keep [1, 2, 3, 7, 8, 10, 11, 12, 16, 17] (F' := [(1, _), (2, _), (3, _), (7, _), (8, _), (10, _), (11, _), (12, _), (16, _), (17, _)]) rfl <| run_loop3 (fun (j : Int) (okv : Bool) (of : Int → Int) => [(17, .int .i64 j), (16, .bool okv)]) [1, 2, 3, 7, 8, 10, 11, 12] (fun (j : Int) (okv : Bool) (of : Int → Int) (w77 : World) => 0 ≤ j ∧ j ≤ mn ∧ (∀ k : Int, 0 ≤ k → k < i → -1 ≤ of k ∧ of k < i) ∧ (okv = true → KD i (fun x k => op x k = true) (InI M j) of) ∧ (okv = false → ¬ CoalW (lik5 L E) l (InI M mn) (M wi)) ∧ Own w.heap.size w w77 (some (vch fb 3 i (fun k => iv (of k))) :: some (vch ib 4 i (fun x => .bool (inn x))) :: some (lch b3 47 [.slice ga i gc]) :: H)) (fun (j : Int) (okv : Bool) (of : Int → Int) => ((mn : Int) - j).toNat) (0) (true) (of) ?_ (And.intro (by exact slot_int rfl (by first | omega)) (And.intro (by rfl) (And.intro rfl (And.intro rfl (And.intro rfl (And.intro rfl (And.intro rfl (And.intro rfl (And.intro rfl (And.intro rfl trivial)))))))))) ?_
    ·exact ⟨by omega, by omega, fun k k0 k1 => by rw [hof k k0 k1]; omega, fun _ => hkd0, fun h => Bool.noConfusion h, hO⟩
    intro j okv of w77 hIw77 ih78
    obtain ⟨hj0, hj1, hofr, hkt, hkf, hO⟩ := hIw77
    show Run _ _ _ _ [(17, _), (16, _), (1, _), (2, _), (3, _), (7, _), (8, _), (10, _), (11, _), (12, _)] _ _
    refine run_seq <| run_seq <| run_region <| rl_v rfl rfl rfl (ov_move rfl rfl) <| rl_v rfl rfl rfl (ov_move rfl rfl) <| rl_v rfl rfl rfl (ov_len rfl Try.underlying23 rfl) <| rl_v rfl rfl rfl (ov_lss rfl rfl rfl) <| rl_v rfl rfl rfl (ov_move rfl rfl) ?_
    first | refine rl_split_dec 144 rfl (fun g1 => ?_) (fun g1 => ?_) | refine rl_split 144 rfl (fun g1 => ?_) (fun g1 => ?_)
    ·refine rl_gv rfl rfl rfl rfl rfl (ov_move rfl rfl) <| rl_v rfl rfl rfl (ov_pick_t rfl rfl rfl) <| rl_nil ?_
     first | refine run_cond_dec rfl (fun g2 => ?_) (fun g2 => ?_) | refine run_cond rfl (fun g2 => ?_) (fun g2 => ?_)
     ·have hkd := hkt g2
      have hMj := hM.rng j hj0 g1
      refine run_skip <| run_seq <| run_block <| run_held (fun w' => Own w.heap.size w w' (some (vch ib 4 i (fun x => .bool (inn x))) :: some (lch b3 47 [.slice ga i gc]) :: H)) mixed ?_
      have hO81 := hO.drew
      generalize World.drew w77 = w80 at hO81 ⊢
      have hS82 : Own w.heap.size w w80 (some (vch ib 4 i (fun x => .bool (inn x))) :: some (lch b3 47 [.slice ga i gc]) :: H) := by first | exact hO81.tail | exact hO81.tail.tail
      refine rh_v 0 rfl (by kernel_rfl) rfl rfl rfl hS82 (fun _ hS => ov_move rfl rfl) ?_
      refine rh_v 1 rfl (by kernel_rfl) rfl rfl rfl hS82 (fun _ hS => ov_move rfl rfl) ?_
      refine rh_v 2 rfl (by kernel_rfl) rfl rfl rfl hS82 (fun _ hS => ov_move rfl rfl) ?_
      refine rh_v 3 rfl (by kernel_rfl) rfl rfl rfl hS82 (fun _ hS => ov_index1 rfl Try.underlying23 (by kernel_rfl) rfl rfl ⟨by omega, by omega⟩ (by exact hma (by omega))) ?_
      refine rh_v 4 rfl (by kernel_rfl) rfl rfl rfl hS82 (fun _ hS => ov_load rfl Try.underlying3 rfl rfl (by exact hmrow _ hS.below _ (by omega) (by omega))) ?_
      refine rh_v 5 rfl (by kernel_rfl) rfl rfl rfl hS82 (fun _ hS => ov_move rfl rfl) ?_
      refine rh_v 6 rfl (by kernel_rfl) rfl rfl rfl hS82 (fun _ hS => ov_move rfl rfl) ?_
      refine rh_any1 7 (by kernel_rfl) ?_
      refine rc_op rfl rfl (ow_make (i) rfl rfl rfl Try.underlying92 info_4 rfl hO81 rfl rfl (by rfl) (by rfl) ⟨by omega, by omega⟩) ?_
      rintro _ w83 ⟨sb2, rfl, hO84, hs85⟩
      have hS86 : Own w.heap.size w w83 (some (vch ib 4 i (fun x => .bool (inn x))) :: some (lch b3 47 [.slice ga i gc]) :: H) := by first | exact hO84.tail | exact hO84.tail.tail
      refine ⟨hS86, ?_⟩
      have hOs := hO84.swap
      refine rh_any1 8 (by kernel_rfl) ?_
      refine rc_op rfl rfl (ow_call2 callable_61 rfl rfl rfl rfl rfl (refMatch_any i vc va op fb sb2 w.heap.size (some (vch ib 4 i (fun x => .bool (inn x))) :: some (lch b3 47 [.slice ga i gc]) :: H) w hn hBS (uns (fun _ => false) i).toNat (M j) of (fun _ => false) w83 (by have := uns_nonneg (fun _ => false) i; omega) hMj.1 hMj.2 hofr hkd.ok hOs) (by intro e w' hp; obtain ⟨b, of1, s1, rfl, hO9, hS, hF⟩ := hp; exact ⟨_, rfl⟩)) ?_
      rintro _ w89 ⟨_, v87, he90, rfl, hp88⟩
      obtain ⟨b, of1, s1, rfl, hO9, hS, hF⟩ := hp88
      injection he90 with he90; subst he90
      have hS91 : Own w.heap.size w w89 (some (vch ib 4 i (fun x => .bool (inn x))) :: some (lch b3 47 [.slice ga i gc]) :: H) := by first | exact hO9.tail | exact hO9.tail.tail
      refine ⟨hS91, ?_⟩
      have hnPj : ¬ InI M j (M j) := fun ⟨y, ⟨y0, y1⟩, e⟩ => by have := hM.inj y0 (by omega) hj0 g1 e; omega
      have hkt2 : b = true → KD i (fun x k => op x k = true) (InI M (j + 1)) of1 := fun hb => hkd.step hnPj (hS hb).1 fun x x0 => InI.snoc hj0
      have hkf2 : b = false → ¬ CoalW (lik5 L E) l (InI M mn) (M wi) := fun hb => KD.noCoal hM (fun x k h => (hopt x k).2 h) hj0 g1 hkd (hF hb).2
      have hofr2 : ∀ k : Int, 0 ≤ k → k < i → -1 ≤ of1 k ∧ of1 k < i := fun k k0 k1 => by
       cases hb : b
       ·rw [(hF hb).1]; exact hofr k k0 k1
       ·exact ⟨(hS hb).1.rng k k0 k1 (hofr k k0 k1).1, (hS hb).2 k k0 k1⟩
      refine rh_v 9 rfl (by kernel_rfl) rfl rfl rfl hS91 (fun _ hS => ov_assign rfl rfl) ?_
      refine rh_done (by kernel_rfl) ?_
      refine run_inBlock <| run_region <| rl_v rfl rfl rfl (ov_move rfl rfl) <| rl_v rfl rfl rfl (ov_add rfl rfl rfl (by omega)) ?_
      refine rl_v rfl rfl rfl (ov_assign rfl rfl) <| rl_nil ?_
      refine Run.use (ih78 (j + 1) (b) (of1) _ ?_ ?_) (And.intro (by exact slot_int rfl (by first | omega)) (And.intro (by rfl) (And.intro rfl (And.intro rfl (And.intro rfl (And.intro rfl (And.intro rfl (And.intro rfl (And.intro rfl (And.intro rfl trivial))))))))))
      ·first | omega | (dsimp only; omega)
      ·exact ⟨by omega, by omega, hofr2, hkt2, hkf2, hO9.sub (.cons_cons _ (.cons _ (.refl _)))⟩
     ·have hokf : okv = false := by cases okv; rfl; exact Bool.noConfusion g2
      have hncw := hkf hokf
      refine run_exit rfl <| run_seq <| run_region <| rl_v rfl rfl rfl (ov_move rfl rfl) <| rl_nil ?_
      first | refine run_cond_dec rfl (fun c6 => ?_) (fun c6 => ?_) | refine run_cond rfl (fun c6 => ?_) (fun c6 => ?_)
      ·exfalso; rw [hokf] at c6; exact Bool.noConfusion c6
      ·refine run_skip <| run_inBlock <| run_region <| rl_v rfl rfl rfl (ov_move rfl rfl) <| rl_v rfl rfl rfl (ov_add rfl rfl rfl (by omega)) ?_
       refine rl_v rfl rfl rfl (ov_assign rfl rfl) <| rl_nil ?_
       refine Run.use (ih19 (wi + 1) _ ?_ ?_) (And.intro (by exact slot_int rfl (by first | omega)) (And.intro rfl (And.intro rfl (And.intro rfl (And.intro rfl (And.intro rfl trivial))))))
       ·first | omega | (dsimp only; omega)
       ·exact ⟨by omega, by omega, fun y y0 y1 => by by_cases e : y = wi; (rw [e]; exact hncw); (exact hnoc y y0 (by omega)), hO.sub (.cons _ (.cons_cons _ (.cons_cons _ (List.nil_sublist _))))⟩
    ·refine rl_gskip rfl rfl rfl rfl rfl rfl <| rl_v rfl rfl rfl (ov_pick_f rfl rfl rfl) <| rl_nil <| run_cond_f rfl <| run_exit rfl <| run_seq <| run_region <| rl_v rfl rfl rfl (ov_move rfl rfl) <| rl_nil ?_
     first | refine run_cond_dec rfl (fun c6 => ?_) (fun c6 => ?_) | refine run_cond rfl (fun c6 => ?_) (fun c6 => ?_)
     ·have hjm : j = mn := by omega
      have hcw : CoalW (lik5 L E) l (InI M mn) (M wi) := KD.coal hM (fun x k h => (hopt x k).1 h) (hjm ▸ hkt c6)
      refine run_seq <| run_region <| rl_v rfl rfl rfl (ov_assign rfl rfl) <| rl_nil <| run_ret Try.func29 (res1 Try.results29 rfl) ?_
      exact ⟨congrArg (fun x => Ending.returned (.bool x)) (dB_iff.2 ⟨M wi, ⟨wi, ⟨hw0, c2⟩, rfl⟩, hcw⟩).symm, hO.below⟩
     ·have hokf : okv = false := by cases okv; rfl; exact Bool.noConfusion c6
      have hncw := hkf hokf
      refine run_skip <| run_inBlock <| run_region <| rl_v rfl rfl rfl (ov_move rfl rfl) <| rl_v rfl rfl rfl (ov_add rfl rfl rfl (by omega)) ?_
      refine rl_v rfl rfl rfl (ov_assign rfl rfl) <| rl_nil ?_
      refine Run.use (ih19 (wi + 1) _ ?_ ?_) (And.intro (by exact slot_int rfl (by first | omega)) (And.intro rfl (And.intro rfl (And.intro rfl (And.intro rfl (And.intro rfl trivial))))))
      ·first | omega | (dsimp only; omega)
      ·exact ⟨by omega, by omega, fun y y0 y1 => by by_cases e : y = wi; (rw [e]; exact hncw); (exact hnoc y y0 (by omega)), hO.sub (.cons _ (.cons_cons _ (.cons_cons _ (List.nil_sublist _))))⟩
  ·have hno : dB (Coal (lik5 L E) l (InI M mn)) = false := by
    cases e : dB (Coal (lik5 L E) l (InI M mn))
    ·rfl
    ·obtain ⟨x, ⟨y, ⟨y0, y1⟩, rfl⟩, hc⟩ := dB_iff.1 e
     exact absurd hc (hnoc y y0 (by omega))
   refine run_exit rfl <| run_seq <| run_region <| rl_v rfl rfl rfl (ov_assign rfl rfl) <| rl_nil <| run_ret Try.func29 (res1 Try.results29 rfl) ?_
   exact ⟨congrArg (fun x => Ending.returned (.bool x)) hno.symm, hO.below⟩
end Go.Proofs.Ytlldeifbfpmbaaa
