import Derived.Test.YtbepolognfdkeaaGbP
import Derived.Test.YtbepolognfdkeaaGaM
set_option maxRecDepth 100000
namespace Go.Proofs.Ytbepolognfdkeaa
open Go.RowKit Go.Proofs Go.MapKept
theorem ldF_upd (l : Lds) (j : Nat) (n : Nat) : ∀ i : Int, 0 ≤ i → i < n → upd (ldF l) j (ldF l j) i = ldF l i := fun i _ _ => by
 by_cases c : i = j
 ·rw [c, upd_same]
 ·rw [upd_ne _ _ c]
theorem give7_any (la : Option Addr) (lc : Nat) (l : Lds) (w : World) (hn : l.n ≤ 100000) (hl : SAt w.heap.size w la 4 l.n (ldF l)) :
  Calls Try.prog 15 #[.slice la l.n lc] w fun e w' => ∃ (va : Option Addr) (vc : Nat) (c : Option Blk), e = .returned (.slice va l.n vc) ∧ SRow (.slice va l.n vc) 84 4 l.n (ldF l) c ∧ Own w.heap.size w w' [c] := by
 obtain ⟨lb, lo, hla, hlr⟩ := hl.open (by decide)
 refine calls_of_run (F := [(0, _)]) Try.func15 rfl Try.ntmps15 rfl rfl ?_
 have hO0 := Own.init w
 have hOn := hO0.nil_cons
 refine run_seq <| run_region <| rl_v rfl rfl rfl (ov_assign rfl rfl) <| rl_nil <| run_seq <| run_region <| rl_v rfl rfl rfl (ov_assign rfl rfl) <| rl_nil <| run_seq <| run_seq <| run_region <| rl_v rfl rfl rfl (ov_assign rfl rfl) <| rl_nil <| run_block <| Run.keep [0, 3, 4] (F' := [(0, _), (3, _), (4, _)]) rfl <| run_loop2 (fun (j : Nat) (v : Value) => [(4, .int .i64 (j : Int)), (3, v)]) [0] (fun (j : Nat) (v : Value) (w1 : World) => j ≤ l.n ∧ ∃ c : Option Blk, SRow v 84 4 j (ldF l) c ∧ Own w.heap.size w w1 [c]) (fun (j : Nat) (v : Value) => l.n - j) (0) (.slice none 0 0) ?_ (And.intro (by exact slot_int rfl (by first | omega)) (And.intro rfl (And.intro rfl trivial))) ?_
 ·exact ⟨Nat.zero_le _, none, SRow.nil _ _ _, hOn⟩
 intro j v w1 hIw1 ih2
 obtain ⟨hj, c, hr, hO1⟩ := hIw1
 show Run _ _ _ _ [(4, _), (3, _), (0, _)] _ _
 refine run_seq <| run_seq <| run_region <| rl_v rfl rfl rfl (ov_move rfl rfl) <| rl_v rfl rfl rfl (ov_move rfl rfl) <| rl_v rfl rfl rfl (ov_len rfl Try.underlying22 rfl) <| rl_v rfl rfl rfl (ov_lss rfl rfl rfl) <| rl_nil ?_
 first | refine run_cond_dec rfl (fun c1 => ?_) (fun c1 => ?_) | refine run_cond rfl (fun c1 => ?_) (fun c1 => ?_)
 ·refine run_skip <| run_seq <| run_block <| run_region <| rl_v rfl rfl rfl (ov_move rfl rfl) <| rl_v rfl rfl rfl (ov_move rfl rfl) <| rl_v rfl rfl rfl (ov_move rfl rfl) <| rl_v rfl rfl rfl (ov_index rfl Try.underlying22 (by kernel_rfl) (s := 4) rfl rfl ⟨by omega, by omega⟩ (by exact hla (by omega))) ?_
  refine rl_v rfl rfl rfl (ov_loadE rfl Try.underlying72 rfl (by kernel_rfl) rfl ⟨by omega, by omega⟩ rfl (hlr _ hO1.below)) ?_
  refine rl_ow rfl (ow_build [_] rfl rfl rfl rfl rfl Try.underlying27 info_84 (by decide) hO1 rfl rfl) ?_
  rintro _ w3 ⟨b16, rfl, hO4, hs5⟩
  refine rl_ow rfl (ow_appR1 rfl rfl rfl Try.underlying27 info_84 rfl rfl hO4 0 hr rfl rfl rfl rfl rfl ⟨by omega, by omega⟩) ?_
  rintro _ w6 ⟨v2, c2, rfl, hO7, hr2, hs8⟩
  refine rl_v rfl rfl rfl (ov_assign rfl rfl) <| rl_nil <| run_inBlock <| run_region <| rl_v rfl rfl rfl (ov_move rfl rfl) <| rl_v rfl rfl rfl (ov_add rfl rfl rfl (by omega)) ?_
  refine rl_v rfl rfl rfl (ov_assign rfl rfl) <| rl_nil ?_
  refine Run.use (ih2 (j + 1) (v2) _ ?_ ?_) (And.intro (by exact slot_int rfl (by first | omega)) (And.intro rfl (And.intro rfl trivial)))
  ·first | omega | (dsimp only; omega)
  ·exact ⟨by omega, c2, hr2.congr (ldF_upd l j (j + 1)), hO7⟩
 ·obtain ⟨va, vc, rfl⟩ := Row.val hr
  have hjn : j = l.n := by omega
  subst hjn
  refine run_exit rfl <| run_seq <| run_region <| rl_v rfl rfl rfl (ov_move rfl rfl) <| rl_v rfl rfl rfl (ov_assign rfl rfl) <| rl_nil <| run_ret Try.func15 (res1 Try.results15 rfl) ?_
  exact ⟨va, vc, c, rfl, hr, hO1⟩
theorem trF_upd (T : List Trn) (j n : Nat) : ∀ i : Int, 0 ≤ i → i < n → upd (trF T) j (trF T j) i = trF T i := fun i _ _ => by
 by_cases c : i = j
 ·rw [c, upd_same]
 ·rw [upd_ne _ _ c]
end Go.Proofs.Ytbepolognfdkeaa
set_option maxRecDepth 100000
namespace Go.Proofs.Ytbepolognfdkeaa
open Go.RowKit Go.Proofs Go.MapKept
theorem SAt.congr7 {B : Nat} {w : World} {ao : Option Addr} {s n : Nat} {G G' : Int → List Value} (h : SAt B w ao s n G) (e : ∀ i : Int, 0 ≤ i → i < n → G i = G' i) : SAt B w ao s n G' := by
 obtain ⟨b, off, h1, h2, h3⟩ := h
 refine ⟨b, off, h1, h2, fun k hk => (h3 k hk).trans (congrArg some ?_)⟩
 have : k / s < n := Nat.div_lt_of_lt_mul (by rw [Nat.mul_comm]; exact hk)
 show (G ((k / s : Nat) : Int)).getD (k % s) undef = (G' ((k / s : Nat) : Int)).getD (k % s) undef
 rw [e _ (Int.natCast_nonneg _) (Int.ofNat_lt.2 this)]
theorem PlanOk.many {l : Lds} {k : Int} {T : List Trn} (h : PlanOk l k T) (hV : l.Valid) : l.n ≤ T.length := by
 have hex : ∀ i : Int, 0 ≤ i → i < l.n → ∃ t ∈ T, t.1 = i := fun i i0 i1 => Classical.byContradiction fun hn => by
  have h1 := h.sum i i0 i1
  have h2 := (hV i i0 i1).2.2.2.1
  rw [sL_cg (ψ := fun _ => 0) fun t ht => by rw [ind_f fun e => hn ⟨t, ht, e⟩, Int.zero_mul], sL_zero] at h1
  omega
 have hix : ∀ i : Int, ∃ j : Int, 0 ≤ i → i < l.n → (0 ≤ j ∧ j < T.length) ∧ (T.getD j.toNat (0, 0, 0)).1 = i := fun i => by
  by_cases c : 0 ≤ i ∧ i < l.n
  ·obtain ⟨t, ht, e⟩ := hex i c.1 c.2
   obtain ⟨q, hq, eq⟩ := List.mem_iff_getElem.1 ht
   exact ⟨q, fun _ _ => ⟨by omega, by rw [Int.toNat_natCast, List.getD_eq_getElem?_getD, List.getElem?_eq_getElem hq, eq]; exact e⟩⟩
  ·exact ⟨0, fun a b => absurd ⟨a, b⟩ c⟩
 refine pigeonG (e := fun i => Classical.choose (hix i)) (fun i i0 i1 => (Classical.choose_spec (hix i) i0 i1).1) (fun a b a0 a1 b0 b1 e => ?_)
 have h1 := (Classical.choose_spec (hix a) a0 a1).2
 have h2 := (Classical.choose_spec (hix b) b0 b1).2
 have e' : Classical.choose (hix a) = Classical.choose (hix b) := e
 rw [e'] at h1
 exact h1.symm.trans h2
theorem Prv.some {l : Lds} {kilns : Int} {xn : Nat} {Y : Int → Int} {hn : Nat} {A B : Int → Int} (h : Prv l kilns xn Y hn A B) (hk : 0 ≤ kilns) : 0 < xn := by
 refine Nat.pos_of_ne_zero fun e => ?_
 have h1 := h.big
 have h2 : 0 ≤ sm (fun k => B k - A k) hn := sm_nonneg fun k k0 k1 => by have := h.hrs k k0 k1; omega
 have h3 := Int.mul_nonneg h2 hk
 rw [e, show ((0 : Nat) : Int) = 0 from rfl, sm_zero] at h1
 omega
theorem KiO.val {l : Lds} {n m : Int} (h : KiO l n) (hc : l.chk = 0) (hm : 0 ≤ m) (h1 : l.Can m) (h2 : m = 0 ∨ ¬ l.Can (m - 1)) : n = m := by
 obtain ⟨a, b, c⟩ := h.yes hc
 rcases Int.lt_trichotomy n m with d | d | d
 ·rcases h2 with e | e
  ·omega
  ·exact absurd (b.mono (show n ≤ m - 1 by omega)) e
 ·exact d
 ·rcases c with e | e
  ·omega
  ·exact absurd (h1.mono (show m ≤ n - 1 by omega)) e
set_option maxHeartbeats 2000000 in
theorem awake7_any (w : World) : Calls Try.prog 17 #[] w fun e w' => e = .returned (.bool true) ∧ Own w.heap.size w w' [] := by
 have hI : lAw.I64 := ⟨fun _ _ _ => (by decide : (-9223372036854775808 : Int) ≤ 0 ∧ (0 : Int) ≤ 9223372036854775807), fun _ _ _ => (by decide : (-9223372036854775808 : Int) ≤ 2 ∧ (2 : Int) ≤ 9223372036854775807), fun i _ _ => by show _ ≤ (if i = 0 then (2 : Int) else 1) ∧ (if i = 0 then (2 : Int) else 1) ≤ _; split <;> decide, fun _ _ _ => (by decide : (-9223372036854775808 : Int) ≤ 0 ∧ (0 : Int) ≤ 9223372036854775807)⟩
 have hk2 : lAw.chkK 2 = 0 := Lds.chkK_ok (by decide) lAw_valid (by decide)
 have hk1 : lAw.chkK 1 = 0 := Lds.chkK_ok (by decide) lAw_valid (by decide)
 have hk0 : lAw.chk = 0 := Lds.chk_ok (by decide) lAw_valid
 have hE := Lds.planE_ok hk2 lAw_two
 refine calls_of_run (F := []) Try.func17 rfl Try.ntmps17 rfl rfl ?_
 have hO0 := Own.init w
 refine run_seq <| run_region <| rl_v rfl rfl rfl (ov_assign rfl rfl) <| rl_nil <| run_seq <| run_region <| rl_v rfl rfl rfl (ov_buildL rfl lay_84 rfl (us := [_, _, _, _]) rfl) <| rl_v rfl rfl rfl (ov_buildL rfl lay_84 rfl (us := [_, _, _, _]) rfl) <| rl_v rfl rfl rfl (ov_buildL rfl lay_84 rfl (us := [_, _, _, _]) rfl) <| rl_ow rfl (ow_build [_, _, _] rfl rfl rfl rfl rfl Try.underlying27 info_84 (by decide) hO0 rfl rfl) ?_
 rintro _ w1 ⟨b11, rfl, hO2, hs3⟩
 have hsA : ∀ {B : Nat} {w0 w' : World} {H : List (Option Blk)}, Own B w0 w' (some ⟨b11, 84, 3 * 4, fun j => ([[iv 0, iv 2, iv 2, iv 0], [iv 0, iv 2, iv 1, iv 0], [iv 0, iv 2, iv 1, iv 0]].getD (j / 4) []).getD (j % 4) undef, none⟩ :: H) → SAt w'.heap.size w' (some ⟨b11, 0, none⟩) 4 3 (ldF lAw) := fun {B w0 w' H} hO => by
  have h : SAt w'.heap.size w' (some ⟨b11, 0, none⟩) 4 3 (fun i => [[iv 0, iv 2, iv 2, iv 0], [iv 0, iv 2, iv 1, iv 0], [iv 0, iv 2, iv 1, iv 0]].getD i.toNat []) := hO.reads 0 rfl (3 * 4) (Nat.le_refl _)
  refine h.congr7 fun i i0 i1 => ?_
  rcases i3 i0 i1 with rfl | rfl | rfl <;> rfl
 have hs1 := hsA hO2
 refine rl_v rfl rfl rfl (ov_assign rfl rfl) <| rl_nil <| run_seq <| run_region <| rl_v rfl rfl rfl (ov_move rfl rfl) ?_
 refine rl_call callable_28 rfl rfl rfl rfl rfl rfl (Plan_any (some ⟨b11, 0, none⟩) 3 lAw 2 _ (by decide) hI hs1) (fun e4 w5 hp6 => ?_)
 obtain ⟨ta, tc, T, ct, rfl, hP, hOa⟩ := hp6
 refine ⟨_, rfl, ?_⟩
 have hO7 := hO2.join hOa
 rw [hE]
 obtain ⟨hpl, _, _⟩ := hP.yes hE
 have hT3 : 3 ≤ T.length := hpl.many lAw_valid
 have hOp := hO7.perm (List.perm_append_comm (l₁ := [ct]))
 refine rl_v rfl rfl rfl (ov_move rfl rfl) <| rl_v rfl rfl rfl (ov_extract rfl rfl (by rfl)) ?_
 refine rl_v rfl rfl rfl (ov_extract rfl rfl (by rfl)) ?_
 refine rl_v rfl rfl rfl (ov_assign rfl rfl) <| rl_v rfl rfl rfl (ov_assign rfl rfl) <| rl_nil <| run_seq <| run_region <| rl_v rfl rfl rfl (ov_move rfl rfl) ?_
 refine rl_call callable_29 rfl rfl rfl rfl rfl rfl (Proof_any (some ⟨b11, 0, none⟩) 3 lAw 1 _ (by decide) hI (hsA hOp)) (fun e8 w9 hp10 => ?_)
 obtain ⟨xa, xn, xc, ha, hn, hc, Y, A, Bh, cx, ch, rfl, hC, hOb⟩ := hp10
 refine ⟨_, rfl, ?_⟩
 have hO11 := hOp.join hOb
 obtain ⟨_, hpr⟩ := hC.yes hk1 lAw_one
 have hxn := hpr.some (by decide)
 have hOp := hO11.perm (List.perm_append_comm (l₁ := [cx, ch]))
 refine rl_v rfl rfl rfl (ov_move rfl rfl) <| rl_v rfl rfl rfl (ov_extract rfl rfl (by rfl)) ?_
 refine rl_v rfl rfl rfl (ov_extract rfl rfl (by rfl)) ?_
 refine rl_ow rfl (ow_alloc _ rfl rfl rfl zero_58 rfl hOp) ?_
 rintro _ w12 ⟨b4, rfl, hO13, hs14⟩
 refine rl_ow rfl (ow_storeW rfl rfl (by kernel_rfl) hO13 0 rfl rfl (by rfl) rfl (by rfl)) ?_
 rintro _ w15 ⟨rfl, hO16, hs17⟩
 have hOp := hO16.perm (List.Perm.swap _ _ _)
 refine rl_v rfl rfl rfl (ov_assign rfl rfl) <| rl_nil <| run_seq <| run_region <| rl_v rfl rfl rfl (ov_move rfl rfl) ?_
 refine rl_call callable_14 rfl rfl rfl rfl rfl rfl (Kilns_any (some ⟨b11, 0, none⟩) 3 lAw _ (by decide) hI (hsA hOp)) (fun e18 w19 hp20 => ?_)
 obtain ⟨n, rfl, hK, hOc⟩ := hp20
 refine ⟨_, rfl, ?_⟩
 have hO21 := hOp.join hOc
 rw [hk0]
 have hn2 := hK.val hk0 (by decide) lAw_two (.inr lAw_one)
 subst hn2
 refine rl_v rfl rfl rfl (ov_move rfl rfl) <| rl_v rfl rfl rfl (ov_extract rfl rfl (by rfl)) ?_
 refine rl_v rfl rfl rfl (ov_extract rfl rfl (by rfl)) ?_
 refine rl_v rfl rfl rfl (ov_assign rfl rfl) <| rl_v rfl rfl rfl (ov_assign rfl rfl) <| rl_nil <| run_seq <| run_region <| rl_v rfl rfl rfl (ov_move rfl rfl) <| rl_v rfl rfl rfl (ov_eql rfl rfl rfl) <| rl_v rfl rfl rfl (ov_move rfl rfl) ?_
 first | refine rl_yesD 29 rfl (rfl) ?_ | refine rl_yes 29 rfl (rfl) ?_
 refine rl_gv rfl rfl rfl rfl rfl (ov_move rfl rfl) <| rl_gv rfl rfl rfl rfl rfl (ov_len rfl Try.underlying51 rfl) <| rl_gv rfl rfl rfl rfl rfl (ov_gtr rfl rfl rfl) <| rl_v rfl rfl rfl (ov_pick_t rfl rfl rfl) <| rl_v rfl rfl rfl (ov_move rfl rfl) ?_
 first | refine rl_yesD 34 rfl (by omega) ?_ | refine rl_yes 34 rfl (by omega) ?_
 refine rl_gv rfl rfl rfl rfl rfl (ov_move rfl rfl) <| rl_v rfl rfl rfl (ov_pick_t rfl rfl rfl) <| rl_v rfl rfl rfl (ov_move rfl rfl) ?_
 first | refine rl_yesD 37 rfl (⟨hk1, lAw_one⟩) ?_ | refine rl_yes 37 rfl (⟨hk1, lAw_one⟩) ?_
 refine rl_gv rfl rfl rfl rfl rfl (ov_fieldS rfl Try.underlying58 rfl (fo := 0) rfl (by kernel_rfl) rfl) ?_
 refine rl_gv rfl rfl rfl rfl rfl (ov_load rfl Try.underlying47 rfl rfl (by exact hO21.cellL 1 rfl (off := 0) rfl)) ?_
 refine rl_gv rfl rfl rfl rfl rfl (ov_len rfl Try.underlying47 rfl) <| rl_gv rfl rfl rfl rfl rfl (ov_gtr rfl rfl rfl) <| rl_v rfl rfl rfl (ov_pick_t rfl rfl rfl) <| rl_v rfl rfl rfl (ov_move rfl rfl) ?_
 first | refine rl_yesD 43 rfl (by omega) ?_ | refine rl_yes 43 rfl (by omega) ?_
 refine rl_gv rfl rfl rfl rfl rfl (ov_move rfl rfl) <| rl_gv rfl rfl rfl rfl rfl (ov_eql rfl rfl rfl) <| rl_v rfl rfl rfl (ov_pick_t rfl rfl rfl) <| rl_v rfl rfl rfl (ov_move rfl rfl) ?_
 first | refine rl_yesD 47 rfl (rfl) ?_ | refine rl_yes 47 rfl (rfl) ?_
 refine rl_gv rfl rfl rfl rfl rfl (ov_move rfl rfl) <| rl_gv rfl rfl rfl rfl rfl (ov_eql rfl rfl rfl) <| rl_v rfl rfl rfl (ov_pick_t rfl rfl rfl) <| rl_v rfl rfl rfl (ov_assign rfl rfl) <| rl_nil <| run_ret Try.func17 (res1 Try.results17 rfl) ?_
 exact ⟨rfl, hO21.sub (List.nil_sublist _)⟩
end Go.Proofs.Ytbepolognfdkeaa
