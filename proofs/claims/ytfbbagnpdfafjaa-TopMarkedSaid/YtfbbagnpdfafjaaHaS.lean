import Derived.Test.YtfbbagnpdfafjaaHaR
set_option maxRecDepth 100000
namespace Go.Proofs.Ytfbbagnpdfafjaa
open Go.RowKit Go.Proofs
def TSrc (H : List (Option Blk)) (ao : Option Addr) (n : Nat) (L : Int → Nat) (F : Int → Int → Int) : Prop :=
 ∃ (A : Int → Option Addr) (C : Int → Nat), (∀ (B : Nat) (w0 w : World), Own B w0 w H → IAt w.heap.size w ao n (fun r => .slice (A r) (L r) (C r))) ∧ (∀ r : Int, 0 ≤ r → r < n → SrcI H (A r) (L r) (F r)) ∧ ∀ r : Int, 0 ≤ r → r < n → L r ≤ C r
theorem SrcI.sub {N M : List (Option Blk)} {ao : Option Addr} {n : Nat} {g : Int → Int} (h : SrcI N ao n g) (hs : N.Sublist M) : SrcI M ao n g := fun B w0 w hO => h B w0 w (hO.sub hs)
theorem TSrc.sub {N M : List (Option Blk)} {ao : Option Addr} {n : Nat} {L : Int → Nat} {F : Int → Int → Int} (h : TSrc N ao n L F) (hs : N.Sublist M) : TSrc M ao n L F := by
 obtain ⟨A, C, h1, h2, h3⟩ := h
 exact ⟨A, C, fun B w0 w hO => h1 B w0 w (hO.sub hs), fun r r0 r1 => (h2 r r0 r1).sub hs, h3⟩
def cfL (mem mon : Int) (pa : Option Addr) (pn pc : Nat) (ma : Option Addr) (mn mc : Nat) (rate cap : Int) : List Value := [iv mem, iv mon, .slice pa pn pc, .slice ma mn mc, iv rate, iv cap]
theorem new1_any (a : Option Addr) (n c b1 B k : Nat) (mem mon : Int) (pa : Option Addr) (pn pc : Nat) (ma : Option Addr) (mn mc : Nat) (rate cap : Int) (H : List (Option Blk)) (w0 w : World) (hO : Own B w0 w H) (hk : H[k]? = some (some (lch b1 40 (cfL mem mon pa pn pc ma mn mc rate cap)))) :
  Calls Try.prog 56 #[.slice a n c, ptr b1] w fun e w' => e = .returned (.bool (decide ((n : Int) ≠ mon))) ∧ w' = w := by
 refine calls_of_run (F := [(0, _), (1, _)]) Try.func56 rfl Try.ntmps56 rfl rfl <| run_seq <| run_region <| rl_v rfl rfl rfl (ov_assign rfl rfl) <| rl_nil <| run_seq <| run_region <| rl_v rfl rfl rfl (ov_move rfl rfl) <| rl_v rfl rfl rfl (ov_len rfl Try.underlying22 rfl) <| rl_v rfl rfl rfl (ov_fieldS rfl Try.underlying40 rfl (fo := 1) rfl (by kernel_rfl) rfl) ?_
 refine rl_v rfl rfl rfl (ov_load rfl Try.underlying3 rfl rfl (by exact (show _ = some (iv mon) from hO.cellL k hk (off := 1) rfl))) ?_
 refine rl_v rfl rfl rfl (ov_neq rfl rfl rfl) <| rl_v rfl rfl rfl (ov_assign rfl rfl) <| rl_nil <| run_ret Try.func56 (res1 Try.results56 rfl) ?_
 exact ⟨rfl, rfl⟩
theorem rowsIx_any (ao : Option Addr) (n c : Nat) (L : Int → Nat) (F : Int → Int → Int) (b1 B k : Nat) (mem mon : Int) (pa : Option Addr) (pn pc : Nat) (ma : Option Addr) (mn mc : Nat) (rate cap : Int) (H : List (Option Blk)) (w0 w : World) (hO : Own B w0 w H) (hk : H[k]? = some (some (lch b1 40 (cfL mem mon pa pn pc ma mn mc rate cap)))) (hT : TSrc H ao n L F) (hn : n ≤ 1000000) :
  Calls Try.prog 108 #[.slice ao n c, .func (.func 56) #[] #[ptr b1]] w fun e w' => ∃ r : Int, e = .returned (iv r) ∧ (0 ≤ r ↔ ∃ i : Int, 0 ≤ i ∧ i < n ∧ (L i : Int) ≠ mon) ∧ w' = w := by
 obtain ⟨A, C, hT1, hT2⟩ := hT
 obtain ⟨gb, go, hga, hrow⟩ := (hT1 B w0 w hO).open
 refine calls_of_run (F := [(0, _), (1, _)]) Try.func108 rfl Try.ntmps108 rfl rfl <| run_seq <| run_region <| rl_v rfl rfl rfl (ov_assign rfl rfl) <| rl_nil <| run_seq <| run_seq <| run_region <| rl_v rfl rfl rfl (ov_move rfl rfl) <| rl_v rfl rfl rfl (ov_len rfl Try.underlying23 rfl) <| rl_v rfl rfl rfl (ov_move rfl rfl) <| rl_nil <| run_block <| Run.keep [0, 1, 7, 8] (F' := [(0, _), (1, _), (7, _), (8, _)]) rfl <| run_loop1 (fun (j : Int) => [(8, .int .i64 j)]) [0, 1, 7] (fun (j : Int) (w1 : World) => (0 ≤ j ∧ j ≤ n) ∧ (∀ i : Int, 0 ≤ i → i < j → (L i : Int) = mon) ∧ w1 = w) (fun (j : Int) => ((n : Int) - j).toNat) (0) ?_ (And.intro (by exact slot_int rfl (by first | omega)) (And.intro rfl (And.intro rfl (And.intro rfl trivial)))) ?_
 ·exact ⟨by omega, fun i i0 i1 => by omega, rfl⟩
 intro j w1 hIw1 ih2
 obtain ⟨hj, hall, hw⟩ := hIw1
 show Run _ _ _ _ [(8, _), (0, _), (1, _), (7, _)] _ _
 subst hw
 refine run_seq <| run_region <| rl_v rfl rfl rfl (ov_lss rfl rfl rfl) <| rl_nil <| run_seq ?_
 first | refine run_cond_dec rfl (fun h1 => ?_) (fun h1 => ?_) | refine run_cond rfl (fun h1 => ?_) (fun h1 => ?_)
 ·refine run_skip <| run_seq <| run_block <| run_seq <| run_region <| rl_v rfl rfl rfl (ov_move rfl rfl) <| rl_v rfl rfl rfl (ov_assign rfl rfl) <| rl_nil <| run_seq <| run_region <| rl_v rfl rfl rfl (ov_move rfl rfl) <| rl_v rfl rfl rfl (ov_move rfl rfl) <| rl_v rfl rfl rfl (ov_move rfl rfl) <| rl_v rfl rfl rfl (ov_index1 rfl Try.underlying23 (by kernel_rfl) rfl rfl ⟨by omega, by omega⟩ (by exact (hga (by omega)))) ?_
  refine rl_v rfl rfl rfl (ov_load rfl Try.underlying22 rfl rfl (by exact hrow _ (Below.refl _ _) j (by omega) (by omega))) ?_
  refine rl_call callable_56 rfl rfl rfl rfl rfl rfl (new1_any (A j) (L j) (C j) b1 B k mem mon pa pn pc ma mn mc rate cap H w0 w1 hO hk) (fun e3 w4 hp5 => ?_)
  obtain ⟨rfl, hw2⟩ := hp5
  refine ⟨_, rfl, ?_⟩
  subst hw2
  refine rl_nil ?_
  first | refine run_cond_dec rfl (fun h2 => ?_) (fun h2 => ?_) | refine run_cond rfl (fun h2 => ?_) (fun h2 => ?_)
  ·refine run_seq <| run_region <| rl_v rfl rfl rfl (ov_move rfl rfl) <| rl_v rfl rfl rfl (ov_assign rfl rfl) <| rl_nil <| run_ret Try.func108 (res1 Try.results108 rfl) ?_
   exact ⟨j, rfl, ⟨fun _ => ⟨j, hj.1, h1, h2⟩, fun _ => hj.1⟩, rfl⟩
  ·refine run_skip <| run_inBlock <| run_region <| rl_v rfl rfl rfl (ov_add rfl rfl rfl (by omega)) ?_
   refine rl_v rfl rfl rfl (ov_move rfl rfl) <| rl_nil ?_
   refine Run.use (ih2 (j + 1) _ ?_ ?_) (And.intro (by exact slot_int rfl (by first | omega)) (And.intro rfl (And.intro rfl (And.intro rfl trivial))))
   ·first | omega | (dsimp only; omega)
   ·exact ⟨by omega, fun i i0 i1 => (by rcases Int.lt_or_eq_of_le (show i ≤ j by omega) with h | rfl; exact hall i i0 h; exact Classical.byContradiction fun h => h2 h), rfl⟩
 ·refine run_exit rfl <| run_seq <| run_region <| rl_v rfl rfl rfl (ov_assign rfl rfl) <| rl_nil <| run_ret Try.func108 (res1 Try.results108 rfl) ?_
  exact ⟨-1, rfl, ⟨fun h => by omega, fun ⟨i, i0, i1, h⟩ => absurd (hall i i0 (by omega)) h⟩, rfl⟩
theorem rowsIs_any (ao : Option Addr) (n c : Nat) (L : Int → Nat) (F : Int → Int → Int) (b1 B k : Nat) (mem mon : Int) (pa : Option Addr) (pn pc : Nat) (ma : Option Addr) (mn mc : Nat) (rate cap : Int) (H : List (Option Blk)) (w0 w : World) (hO : Own B w0 w H) (hk : H[k]? = some (some (lch b1 40 (cfL mem mon pa pn pc ma mn mc rate cap)))) (hT : TSrc H ao n L F) (hn : n ≤ 1000000) :
  Calls Try.prog 55 #[.slice ao n c, .func (.func 56) #[] #[ptr b1]] w fun e w' => ∃ r : Bool, e = .returned (.bool r) ∧ (r = true ↔ ∃ i : Int, 0 ≤ i ∧ i < n ∧ (L i : Int) ≠ mon) ∧ w' = w := by
 refine calls_of_run (F := [(0, _), (1, _)]) Try.func55 rfl Try.ntmps55 rfl rfl ?_
 have hO0 := Own.init w
 refine run_seq <| run_region <| rl_v rfl rfl rfl (ov_assign rfl rfl) <| rl_nil <| run_seq <| run_region <| rl_v rfl rfl rfl (ov_move rfl rfl) <| rl_v rfl rfl rfl (ov_move rfl rfl) ?_
 refine rl_call callable_108 rfl rfl rfl rfl rfl rfl (rowsIx_any ao n c L F b1 B k mem mon pa pn pc ma mn mc rate cap H w0 w hO hk hT hn) (fun e1 w2 hp3 => ?_)
 obtain ⟨r, rfl, hr, hw2⟩ := hp3
 refine ⟨_, rfl, ?_⟩
 refine rl_v rfl rfl rfl (ov_geq rfl rfl rfl) <| rl_v rfl rfl rfl (ov_assign rfl rfl) <| rl_nil <| run_ret Try.func55 (res1 Try.results55 rfl) ?_
 exact ⟨_, rfl, by rw [decide_eq_true_iff]; exact hr, hw2⟩
theorem new2_any (x : Int) (w : World) : Calls Try.prog 58 #[iv x] w fun e w' => e = .returned (.bool (!decide (1 ≤ x ∧ x ≤ 1000000))) ∧ w' = w := by
 refine calls_of_run (F := [(0, _)]) Try.func58 rfl Try.ntmps58 rfl rfl ?_
 have hO0 := Own.init w
 refine run_seq <| run_region <| rl_v rfl rfl rfl (ov_assign rfl rfl) <| rl_nil <| run_seq <| run_region <| rl_v rfl rfl rfl (ov_move rfl rfl) ?_
 refine rl_call callable_54 rfl rfl rfl rfl rfl rfl (in_any x 1 1000000 w) (fun e1 w2 hp3 => ?_)
 obtain ⟨rfl, hw⟩ := hp3
 refine ⟨_, rfl, ?_⟩
 subst hw
 refine rl_v rfl rfl rfl (ov_not rfl rfl) <| rl_v rfl rfl rfl (ov_assign rfl rfl) <| rl_nil <| run_ret Try.func58 (res1 Try.results58 rfl) ?_
 exact ⟨rfl, rfl⟩
theorem new3_any (x : Int) (w : World) : Calls Try.prog 60 #[iv x] w fun e w' => e = .returned (.bool (!decide (-1000000 ≤ x ∧ x ≤ 1000000))) ∧ w' = w := by
 refine calls_of_run (F := [(0, _)]) Try.func60 rfl Try.ntmps60 rfl rfl ?_
 have hO0 := Own.init w
 refine run_seq <| run_region <| rl_v rfl rfl rfl (ov_assign rfl rfl) <| rl_nil <| run_seq <| run_region <| rl_v rfl rfl rfl (ov_move rfl rfl) ?_
 refine rl_call callable_54 rfl rfl rfl rfl rfl rfl (in_any x (-1000000) 1000000 w) (fun e1 w2 hp3 => ?_)
 obtain ⟨rfl, hw⟩ := hp3
 refine ⟨_, rfl, ?_⟩
 subst hw
 refine rl_v rfl rfl rfl (ov_not rfl rfl) <| rl_v rfl rfl rfl (ov_assign rfl rfl) <| rl_nil <| run_ret Try.func60 (res1 Try.results60 rfl) ?_
 exact ⟨rfl, rfl⟩
theorem colIx_any (f : FuncId) (lo hi : Int) (hcl : Callable Try.prog f) (hf : ∀ x w, Calls Try.prog f #[iv x] w fun e w' => e = .returned (.bool (!decide (lo ≤ x ∧ x ≤ hi))) ∧ w' = w) (ao : Option Addr) (n c B : Nat) (g : Int → Int) (H : List (Option Blk)) (w0 w : World) (hO : Own B w0 w H) (hs : SrcI H ao n g) (hn : n ≤ 4000000000000) :
  Calls Try.prog 109 #[.slice ao n c, .func (.func f) #[] #[]] w fun e w' => ∃ r : Int, e = .returned (iv r) ∧ (0 ≤ r ↔ ∃ i : Int, 0 ≤ i ∧ i < n ∧ ¬ (lo ≤ g i ∧ g i ≤ hi)) ∧ w' = w := by
 obtain ⟨gb, go, hga, hrow⟩ := (hs B w0 w hO).open
 refine calls_of_run (F := [(0, _), (1, _)]) Try.func109 rfl Try.ntmps109 rfl rfl ?_
 have hO0 := Own.init w
 refine run_seq <| run_region <| rl_v rfl rfl rfl (ov_assign rfl rfl) <| rl_nil <| run_seq <| run_seq <| run_region <| rl_v rfl rfl rfl (ov_move rfl rfl) <| rl_v rfl rfl rfl (ov_len rfl Try.underlying22 rfl) <| rl_v rfl rfl rfl (ov_move rfl rfl) <| rl_nil <| run_block <| Run.keep [0, 1, 7, 8] (F' := [(0, _), (1, _), (7, _), (8, _)]) rfl <| run_loop1 (fun (j : Int) => [(8, .int .i64 j)]) [0, 1, 7] (fun (j : Int) (w1 : World) => (0 ≤ j ∧ j ≤ n) ∧ (∀ i : Int, 0 ≤ i → i < j → lo ≤ g i ∧ g i ≤ hi) ∧ w1 = w) (fun (j : Int) => ((n : Int) - j).toNat) (0) ?_ (And.intro (by exact slot_int rfl (by first | omega)) (And.intro rfl (And.intro rfl (And.intro rfl trivial)))) ?_
 ·exact ⟨by omega, fun i i0 i1 => by omega, rfl⟩
 intro j w1 hIw1 ih2
 obtain ⟨hj, hall, hw⟩ := hIw1
 show Run _ _ _ _ [(8, _), (0, _), (1, _), (7, _)] _ _
 subst hw
 refine run_seq <| run_region <| rl_v rfl rfl rfl (ov_lss rfl rfl rfl) <| rl_nil <| run_seq ?_
 first | refine run_cond_dec rfl (fun h1 => ?_) (fun h1 => ?_) | refine run_cond rfl (fun h1 => ?_) (fun h1 => ?_)
 ·refine run_skip <| run_seq <| run_block <| run_seq <| run_region <| rl_v rfl rfl rfl (ov_move rfl rfl) <| rl_v rfl rfl rfl (ov_assign rfl rfl) <| rl_nil <| run_seq <| run_region <| rl_v rfl rfl rfl (ov_move rfl rfl) <| rl_v rfl rfl rfl (ov_move rfl rfl) <| rl_v rfl rfl rfl (ov_move rfl rfl) <| rl_v rfl rfl rfl (ov_index1 rfl Try.underlying22 (by kernel_rfl) rfl rfl ⟨by omega, by omega⟩ (by exact (hga (by omega)))) ?_
  refine rl_v rfl rfl rfl (ov_load rfl Try.underlying2 rfl rfl (by exact hrow _ (Below.refl _ _) j (by omega) (by omega))) ?_
  refine rl_call hcl rfl rfl rfl rfl rfl rfl (hf (g j) w1) (fun e3 w4 hp5 => ?_)
  obtain ⟨rfl, hw2⟩ := hp5
  refine ⟨_, rfl, ?_⟩
  subst hw2
  refine rl_nil ?_
  first | refine run_cond_dec rfl (fun h2 => ?_) (fun h2 => ?_) | refine run_cond rfl (fun h2 => ?_) (fun h2 => ?_)
  ·refine run_seq <| run_region <| rl_v rfl rfl rfl (ov_move rfl rfl) <| rl_v rfl rfl rfl (ov_assign rfl rfl) <| rl_nil <| run_ret Try.func109 (res1 Try.results109 rfl) ?_
   exact ⟨j, rfl, ⟨fun _ => ⟨j, hj.1, h1, ndt h2⟩, fun _ => hj.1⟩, rfl⟩
  ·refine run_skip <| run_inBlock <| run_region <| rl_v rfl rfl rfl (ov_add rfl rfl rfl (by omega)) ?_
   refine rl_v rfl rfl rfl (ov_move rfl rfl) <| rl_nil ?_
   refine Run.use (ih2 (j + 1) _ ?_ ?_) (And.intro (by exact slot_int rfl (by first | omega)) (And.intro rfl (And.intro rfl (And.intro rfl trivial))))
   ·first | omega | (dsimp only; omega)
   ·exact ⟨by omega, fun i i0 i1 => (by rcases Int.lt_or_eq_of_le (show i ≤ j by omega) with h | rfl; exact hall i i0 h; exact ndf h2), rfl⟩
 ·refine run_exit rfl <| run_seq <| run_region <| rl_v rfl rfl rfl (ov_assign rfl rfl) <| rl_nil <| run_ret Try.func109 (res1 Try.results109 rfl) ?_
  exact ⟨-1, rfl, ⟨fun h => by omega, fun ⟨i, i0, i1, h⟩ => absurd (hall i i0 (by omega)) h⟩, rfl⟩
theorem colIs_any (f : FuncId) (lo hi : Int) (hcl : Callable Try.prog f) (hf : ∀ x w, Calls Try.prog f #[iv x] w fun e w' => e = .returned (.bool (!decide (lo ≤ x ∧ x ≤ hi))) ∧ w' = w) (ao : Option Addr) (n c B : Nat) (g : Int → Int) (H : List (Option Blk)) (w0 w : World) (hO : Own B w0 w H) (hs : SrcI H ao n g) (hn : n ≤ 4000000000000) :
  Calls Try.prog 57 #[.slice ao n c, .func (.func f) #[] #[]] w fun e w' => ∃ r : Bool, e = .returned (.bool r) ∧ (r = true ↔ ∃ i : Int, 0 ≤ i ∧ i < n ∧ ¬ (lo ≤ g i ∧ g i ≤ hi)) ∧ w' = w := by
 refine calls_of_run (F := [(0, _), (1, _)]) Try.func57 rfl Try.ntmps57 rfl rfl ?_
 have hO0 := Own.init w
 refine run_seq <| run_region <| rl_v rfl rfl rfl (ov_assign rfl rfl) <| rl_nil <| run_seq <| run_region <| rl_v rfl rfl rfl (ov_move rfl rfl) <| rl_v rfl rfl rfl (ov_move rfl rfl) ?_
 refine rl_call callable_109 rfl rfl rfl rfl rfl rfl (colIx_any f lo hi hcl hf ao n c B g H w0 w hO hs hn) (fun e1 w2 hp3 => ?_)
 obtain ⟨r, rfl, hr, hw2⟩ := hp3
 refine ⟨_, rfl, ?_⟩
 refine rl_v rfl rfl rfl (ov_geq rfl rfl rfl) <| rl_v rfl rfl rfl (ov_assign rfl rfl) <| rl_nil <| run_ret Try.func57 (res1 Try.results57 rfl) ?_
 exact ⟨_, rfl, by rw [decide_eq_true_iff]; exact hr, hw2⟩
def cutM (n : Int) (g : Int → Int) (m : Int) : Int := if m < n then g m else 0
theorem months_any (ao : Option Addr) (n c B : Nat) (g : Int → Int) (H : List (Option Blk)) (w0 w : World) (hO : Own B w0 w H) (hs : SrcI H ao n g) (hn : 1 ≤ n ∧ n ≤ 12) :
  Calls Try.prog 59 #[.slice ao n c] w fun e w' => e = .returned (.agg (monL (cutM n g)).toArray) ∧ Own B w0 w' H := by
 obtain ⟨gb, go, hga, hrow⟩ := (hs B w0 w hO).open
 have hb : ao = some ⟨gb, go, none⟩ := hga (by omega)
 subst hb
 refine calls_of_run (F := [(0, _)]) Try.func59 rfl Try.ntmps59 rfl rfl <| run_seq <| run_region <| rl_ow rfl (ow_allocA 12 rfl rfl rfl zero_118 rfl hO) ?_
 rintro _ w1 ⟨b2, rfl, hO2, hs3⟩
 refine rl_nil <| run_seq <| run_region <| rl_ow rfl (ow_allocA 12 rfl rfl rfl zero_118 rfl hO2) ?_
 rintro _ w4 ⟨b3, rfl, hO5, hs6⟩
 refine rl_nil <| run_seq <| run_region <| rl_v rfl rfl rfl (ov_sliceAF (s := 1) rfl Try.underlying118 (by kernel_rfl) rfl) ?_
 refine rl_v rfl rfl rfl (ov_move rfl rfl) <| rl_ow rfl (ow_copy (n) rfl rfl rfl Try.underlying22 (by kernel_rfl) hO5 0 rfl rfl rfl (by omega) (by omega) (fun i h0 hi => by { obtain ⟨gb', go', e1, e2⟩ := (hs B w0 w4 hO5.tail.tail).open; cases e1 (by omega); exact e2 _ (Below.refl _ _) i h0 (by omega) }) (fun _ => rfl)) ?_
 rintro _ w7 ⟨rfl, hO8, hs9⟩
 refine rl_nil <| run_seq <| run_region <| rl_v rfl rfl rfl (ov_loadA rfl Try.underlying118 rfl (by kernel_rfl) rfl hO8 0 rfl) ?_
 refine rl_ow rfl (ow_storeA rfl rfl (by kernel_rfl) hO8 1 rfl rfl rfl (fun _ => by split <;> rfl)) ?_
 rintro _ w10 ⟨rfl, hO11, hs12⟩
 refine rl_nil <| run_ret Try.func59 (resA Try.results59 rfl Try.underlying118 rfl (by kernel_rfl) hO11 1 rfl) ?_
 exact ⟨congrArg (fun l : List Value => Ending.returned (.agg l.toArray)) (List.map_congr_left fun j hj => by have := List.mem_range.1 hj; dsimp only; unfold cutM; split <;> (rename_i hc; first | (rw [if_pos (by omega)]; exact congrArg (fun x => iv (g x)) (by omega)) | (rw [if_neg (by omega)]))), hO11.tail.tail⟩
theorem fill_house (mon : Int) (p : Int → Int) (rate cap : Int) (a : Option Addr) (n c : Nat) : Try.prog.built 124 [(0, iv mon), (1, .agg (monL p).toArray), (3, iv rate), (4, iv cap), (6, .slice a n c)] = some (HR.l ⟨mon, p, none, 0, 0, rate, cap, 0, a, n, c, none, 0, 0⟩).toArray := by kernel_rfl
theorem ov_buildHR {N : Nat} {o : Oper} {F : Fr} {w : World} {x0 x1 x3 x4 x6 : Operand} {mon : Int} {p : Int → Int} {rate cap : Int} {a : Option Addr} {n c : Nat} (ho : o.op = .build 124 #[(0, x0), (1, x1), (3, x3), (4, x4), (6, x6)]) (h0 : Fr.ev F x0 = some (iv mon)) (h1 : Fr.ev F x1 = some (.agg (monL p).toArray)) (h3 : Fr.ev F x3 = some (iv rate)) (h4 : Fr.ev F x4 = some (iv cap)) (h6 : Fr.ev F x6 = some (.slice a n c)) :
  OpV Try.prog N o F w (.agg (HR.l ⟨mon, p, none, 0, 0, rate, cap, 0, a, n, c, none, 0, 0⟩).toArray) := by
 intro st ha
 have := run_build (P := Try.prog) w 124 #[(0, st.eval x0), (1, st.eval x1), (3, st.eval x3), (4, st.eval x4), (6, st.eval x6)] _ (by rw [ha.ev h0, ha.ev h1, ha.ev h3, ha.ev h4, ha.ev h6]; exact fill_house mon p rate cap a n c)
 unfold execOp
 rw [ho]
 simp [this, Result.andThen]
end Go.Proofs.Ytfbbagnpdfafjaa
