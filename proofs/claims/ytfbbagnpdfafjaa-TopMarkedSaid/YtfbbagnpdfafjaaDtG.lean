import Derived.Test.YtfbbagnpdfafjaaDtE
import Derived.Test.YtfbbagnpdfafjaaDtF
import Derived.Test.YtfbbagnpdfafjaaRowArr3H
set_option maxRecDepth 100000
namespace Go.Proofs.Ytfbbagnpdfafjaa
open Go.RowKit Go.Proofs
theorem OTab.congrL {v : Value} {T1 T2 : TypeId} {n : Nat} {L L' : Int → Nat} {F : Int → Int → Value} {H : List (Option Blk)} (h : OTab v T1 T2 n L F H) (e : ∀ r : Int, 0 ≤ r → r < n → L r = L' r) : OTab v T1 T2 n L' F H := by
 obtain ⟨c, rv, ch, h1, h2, h3⟩ := h
 exact ⟨c, rv, ch, h1, h2, fun r hr => by rw [← e r (by omega) (by omega)]; exact h3 r hr⟩
theorem otab_row {B : Nat} {w0 w : World} {b cap n : Nat} {T : TypeId} {rv : Int → Value} {ct x : Option Blk} {R : List (Option Blk)} (h : IRow (.slice (some ⟨b, 0, none⟩) n cap) T n rv ct) (hO : Own B w0 w (x :: ct :: R)) (i : Int) (hi : 0 ≤ i ∧ i < n) : w.cell? ⟨b, 0 + i.toNat, none⟩ = some (rv i) := by
 obtain ⟨gb, go, hga, hrow⟩ := (h.reads hO 1 rfl).open
 have e := hga (by omega)
 simp only [Option.some.injEq, Addr.mk.injEq] at e
 have h2 := hrow _ (Below.refl _ _) i hi.1 hi.2
 rw [← e.1, ← e.2.1] at h2
 exact h2
theorem irow_at {B : Nat} {w0 w : World} {b cap n : Nat} {ao : Option Addr} {T : TypeId} {G : Int → Value} {c : Option Blk} {R : List (Option Blk)} (h : IRow (.slice ao n cap) T n G c) (hO : Own B w0 w (c :: R)) (ha : ao = some ⟨b, 0, none⟩) (i : Int) (hi : 0 ≤ i ∧ i < n) : w.cell? ⟨b, 0 + i.toNat, none⟩ = some (G i) := by
 subst ha
 obtain ⟨gb, go, hga, hrow⟩ := (h.reads hO 0 rfl).open
 have e := hga (by omega)
 simp only [Option.some.injEq, Addr.mk.injEq] at e
 have h2 := hrow _ (Below.refl _ _) i hi.1 hi.2
 rw [← e.1, ← e.2.1] at h2
 exact h2
theorem addD_upd (D : Int → Int → Int) (a b y r c : Int) : upd (fun (r c : Int) => iv (D r c)) a (upd (fun c => iv (D a c)) b (iv y)) r c = iv (addD D a b y r c) := by
 rw [addD_at]
 unfold upd
 by_cases h1 : r = a
 ·rw [if_pos h1]
  by_cases h2 : c = b
  ·rw [if_pos h2, if_pos ⟨h1, h2⟩]
  ·rw [if_neg h2, if_neg (fun h => h2 h.2), h1]
 ·rw [if_neg h1, if_neg (fun h => h1 h.1)]
theorem Dm.congr {c c' p : Int → Int} {X : HM} (h : Dm c p X) (e : ∀ j : Int, 0 ≤ j → j < 5 → c j = c' j) : Dm c' p X :=
 ⟨h.mem, h.mo, h.k, h.rate, h.pr, h.out, fun j j0 j1 => by rw [h.cash j j0 j1, e j j0 j1], h.pos⟩
theorem mulRng {q r : Int} (hq : 1 ≤ q ∧ q ≤ 20) (hr : -99 ≤ r ∧ r ≤ 151) : (0 < r → 0 ≤ q * r ∧ q * r ≤ 3020) ∧ (r ≤ 0 → 0 ≤ -(q * r) ∧ -(q * r) ≤ 3020) := by
 refine ⟨fun h => ⟨Int.mul_nonneg (by omega) (by omega), ?_⟩, fun h => ?_⟩
 ·have := Int.mul_le_mul hq.2 hr.2 (by omega) (by decide : (0 : Int) ≤ 20)
  omega
 ·have e : -(q * r) = q * (-r) := (Int.mul_neg q r).symm
  have h1 : 0 ≤ q * (-r) := Int.mul_nonneg (by omega) (by omega)
  have h2 := Int.mul_le_mul hq.2 (show -r ≤ 99 by omega) (by omega) (by decide : (0 : Int) ≤ 20)
  omega
set_option maxHeartbeats 8000000 in
theorem markedTop_any (la : Option Addr) (ln lc : Nat) (S : R3) (price : Int) (w : World) (hS : SAt w.heap.size w la 3 ln S.l) :
  Calls Try.prog 14 #[.slice la ln lc, iv price] w fun e w' => e = .returned (.bool true) ∧ Below w.heap.size w w' := by
 obtain ⟨lb, loff, hla, hrow⟩ := hS.open (by decide)
 have hpr := sml_rng price (show (0 : Int) ≤ 250 by decide)
 obtain ⟨r, hr⟩ : ∃ r, r = 1 + sml price 250 - 100 := ⟨_, rfl⟩
 have hrr : -99 ≤ r ∧ r ≤ 151 := by omega
 refine calls_of_run (F := [(0, _), (1, _)]) Try.func14 rfl Try.ntmps14 rfl rfl <| run_seq <| run_region <| rl_v rfl rfl rfl (ov_assign rfl rfl) <| rl_nil <| run_seq <| run_region <| rl_ow rfl (ow_build1 [_] rfl rfl rfl rfl rfl Try.underlying22 info_2 (by decide) (Own.init w) rfl rfl) ?_
 rintro _ w1 ⟨b35, rfl, hO2, hs3⟩
 have s0 : SrcI ([some (vch b35 2 1 fun i => [Value.int IntKind.i64 100].getD i.toNat undef)]) (some ⟨b35, 0, none⟩) 1 (fun _ => 100) := fun B w0 w hO => (hO.reads 0 rfl 1 (Nat.le_refl _)).congr fun i hi => by
  have : i = 0 := by omega
  subst this
  rfl
 have s9 : TSrc ([some (vch b35 2 1 fun i => [Value.int IntKind.i64 100].getD i.toNat undef)]) none 0 (fun _ => 1) (fun _ _ => 0) := ⟨fun _ => none, fun _ => 0, fun B w0 w hO => IAt.nil _ _ _ _, fun r r0 r1 => by omega, fun r r0 r1 => by omega⟩
 refine rl_v rfl rfl rfl (ov_buildL rfl lay_40 rfl (us := [_, _, _, _, _, _]) rfl) ?_
 refine rl_call callable_17 rfl rfl rfl rfl rfl rfl (newGood 5 1 (some ⟨b35, 0, none⟩) none 1 1 0 0 0 0 (fun _ => 100) (fun _ => 1) (fun _ _ => 0) w.heap.size _ w w1 hO2 s0 s9 (by decide) (by decide) (by decide) (by decide) (by decide) (by decide) (fun _ _ i1 => by omega) (fun _ _ _ => by decide) (fun _ i0 i1 => by omega)) (fun e4 w5 hp6 => ?_)
 obtain ⟨hb, rfl, hA0⟩ := hp6
 refine ⟨_, rfl, ?_⟩
 obtain ⟨X0, hX0⟩ : ∃ X0, X0 = HM.new 5 1 0 (fun _ => 100) (fun _ _ => 0) 0 0 := ⟨_, rfl⟩
 rw [← hX0] at hA0
 have hB0 : HB 0 X0 := by rw [hX0]; exact HB.new (by decide) (by decide) (by decide) (fun m m0 m1 => by decide) (fun i i0 i1 => by omega) (by decide) (by decide)
 have hD0 : Dm (fun j => if j < 0 then 100000 else 0) (fun _ => 0) X0 := by
  rw [hX0]
  exact ⟨rfl, rfl, rfl, rfl, rfl, fun _ _ _ => rfl, fun j j0 _ => (if_neg (by omega)).symm, fun _ _ _ => rfl⟩
 have ht0 : X0.total = 0 * 100000 := by rw [hX0]; exact total_new
 clear hX0
 refine rl_v rfl rfl rfl (ov_move rfl rfl) <| rl_v rfl rfl rfl (ov_extract rfl rfl (by rfl)) ?_
 refine rl_v rfl rfl rfl (ov_extract rfl rfl (by rfl)) ?_
 refine rl_v rfl rfl rfl (ov_assign rfl rfl) <| rl_v rfl rfl rfl (ov_assign rfl rfl) <| rl_nil <| run_seq <| run_seq <| run_region <| rl_v rfl rfl rfl (ov_move rfl rfl) <| rl_v rfl rfl rfl (ov_neq rfl rfl rfl) <| rl_v rfl rfl rfl (ov_move rfl rfl) ?_
 first | refine rl_noD 42 rfl (fun h => h rfl) ?_ | refine rl_no 42 rfl (fun h => h rfl) ?_
 refine rl_gv rfl rfl rfl rfl rfl (ov_move rfl rfl) <| rl_gv rfl rfl rfl rfl rfl (ov_ptrnil rfl Try.underlying30 rfl) <| rl_v rfl rfl rfl (ov_pick_f rfl rfl rfl) <| rl_nil <| run_cond_f rfl <| run_skip <| run_seq <| run_region <| rl_v rfl rfl rfl (ov_move rfl rfl) ?_
 refine rl_call callable_45 rfl rfl rfl rfl rfl rfl (hA0.call1 (Q := fun e => e = _) (fun H hO _ => smallTop_any price 250 w.heap.size H w w5 hO (by decide))) (fun e7 w8 hp9 => ?_)
 obtain ⟨rfl, hA1⟩ := hp9
 refine ⟨_, rfl, ?_⟩
 obtain ⟨K1, N1, hO1, hK1, hP1⟩ := hA1
 refine rl_v rfl rfl rfl (ov_add rfl rfl rfl (by omega)) ?_
 refine rl_v rfl rfl rfl (nv (ov_sub rfl rfl rfl (by omega)) hr.symm) ?_
 refine rl_v rfl rfl rfl (ov_assign rfl rfl) <| rl_nil <| run_seq <| run_region <| rl_ow rfl (ow_make (5) rfl rfl rfl Try.underlying23 info_22 rfl hO1 rfl rfl (by rfl) (by rfl) ⟨by omega, by omega⟩) ?_
 rintro _ w10 ⟨b50, rfl, hO11, hs12⟩
 have hT0 : OTab (.slice (some ⟨b50, 0, none⟩) 5 5) 22 2 5 (fun r => if r < 0 then 5 else 0) (fun _ _ => iv 0) (some (vch b50 22 5 (fun _ => .slice none 0 0)) :: (List.range 5).map (fun _ => none)) :=
  ⟨_, fun _ => .slice none 0 0, fun _ => none, rfl, IRow.mk1 b50 _ 5 _ (by decide), fun r hr => (show IRow (.slice none 0 0) 2 (if (r : Int) < 0 then 5 else 0) (fun _ => iv 0) none from by rw [if_neg (by omega)]; exact IRow.nil _ _)⟩
 have hA2 : HAt w.heap.size w w10 hb X0 [] ((some (vch b50 22 5 (fun _ => .slice none 0 0)) :: (List.range 5).map (fun _ => none)) ++ [some (vch b35 2 1 fun i => [Value.int IntKind.i64 100].getD i.toNat undef)]) :=
  HAt.puts (some (vch b50 22 5 (fun _ => .slice none 0 0)) :: [none, none, none, none, none]) (hO11.nil_cons.nil_cons.nil_cons.nil_cons.nil_cons.perm (List.perm_middle (l₁ := [none, none, none, none, none]))) hK1 hP1
 generalize some (vch b50 22 5 (fun _ => Value.slice none 0 0)) :: (List.range 5).map (fun _ => (none : Option Blk)) = M0 at hT0 hA2
 refine rl_v rfl rfl rfl (ov_assign rfl rfl) <| rl_nil <| run_seq <| run_seq <| run_region <| rl_v rfl rfl rfl (ov_assign rfl rfl) <| rl_nil <| run_block <| Run.keep [0, 5, 7, 8, 9] (F' := [(0, _), (5, _), (7, _), (8, _), (9, _)]) rfl <| run_loop3 (fun (i : Int) (M : List (Option Blk)) (X : HM) => [(9, .int .i64 i)]) [0, 5, 7, 8] (fun (i : Int) (M : List (Option Blk)) (X : HM) (w13 : World) => (0 ≤ i ∧ i ≤ 5) ∧ OTab (.slice (some ⟨b50, 0, none⟩) 5 5) 22 2 5 (fun r => if r < i then 5 else 0) (fun _ _ => iv 0) M ∧ HB i.toNat X ∧ Dm (fun j => if j < i then 100000 else 0) (fun _ => 0) X ∧ X.total = i * 100000 ∧ HAt w.heap.size w w13 hb X [] (M ++ [some (vch b35 2 1 fun i => [Value.int IntKind.i64 100].getD i.toNat undef)])) (fun (i : Int) (M : List (Option Blk)) (X : HM) => (5 - i).toNat) (0) (M0) (X0) ?_ (And.intro (by exact slot_int rfl (by first | omega)) (And.intro rfl (And.intro rfl (And.intro rfl (And.intro rfl trivial))))) ?_
 ·exact ⟨by omega, hT0, hB0, hD0, ht0, hA2⟩
 intro i M X w13 hIw13 ih14
 obtain ⟨hi, hTb, hXB, hDm, htot, hA⟩ := hIw13
 show Run _ _ _ _ [(9, _), (0, _), (5, _), (7, _), (8, _)] _ _
 refine run_seq <| run_seq <| run_region <| rl_v rfl rfl rfl (ov_move rfl rfl) <| rl_v rfl rfl rfl (ov_lss rfl rfl rfl) <| rl_nil ?_
 first | refine run_cond_dec rfl (fun h1 => ?_) (fun h1 => ?_) | refine run_cond rfl (fun h1 => ?_) (fun h1 => ?_)
 ·obtain ⟨kn, hkn⟩ := Int.eq_ofNat_of_zero_le hi.1
  obtain ⟨K2, N2, hO2, hK2, hP2⟩ := HAt.pull (R := [some (vch b35 2 1 fun i => [Value.int IntKind.i64 100].getD i.toNat undef)]) M [] hA
  obtain ⟨ct, rv, ch, hv, h3, hO3⟩ := OTab.get9 hTb hO2 kn (by omega)
  refine run_skip <| run_seq <| run_block <| run_seq <| run_region <| rl_v rfl rfl rfl (ov_move rfl rfl) <| rl_v rfl rfl rfl (ov_move rfl rfl) <| rl_ow rfl (ow_make (5) rfl rfl rfl Try.underlying22 info_2 rfl hO3 rfl rfl (by rfl) (by rfl) ⟨by omega, by omega⟩) ?_
  rintro _ w15 ⟨b57, rfl, hO16, hs17⟩
  refine rl_v rfl rfl rfl (ov_index1 rfl Try.underlying23 (by kernel_rfl) rfl rfl ⟨by omega, by omega⟩ (by rfl)) ?_
  refine rl_ow rfl (ow_storeI1 rfl rfl (by kernel_rfl) hO16 2 hv rfl (fun _ => rfl) rfl ⟨by omega, by omega⟩ rfl rfl) ?_
  rintro _ w18 ⟨c9, rfl, hO19, hR2, hs20⟩
  rw [hkn] at hR2
  obtain ⟨M2, hTb2, hO4⟩ := OTab.put9 (L := fun r => if r < i then 5 else 0) (F := fun _ _ => iv 0) (m := 5) (G := fun _ => iv 0) kn (by omega) hR2 h3 (IRow.mk1 b57 2 5 (fun _ => iv 0) (by decide)) (hO19.sub (.cons_cons _ (.cons _ (.refl _))))
  have hA3 := HAt.puts (R := [some (vch b35 2 1 fun i => [Value.int IntKind.i64 100].getD i.toNat undef)]) M2 hO4 hK2 hP2
  have hTb3 : OTab (.slice (some ⟨b50, 0, none⟩) 5 5) 22 2 5 (fun r => if r < i + 1 then 5 else 0) (fun _ _ => iv 0) M2 := (hTb2.congr (G := fun _ _ => iv 0) fun a c _ _ _ _ => by unfold upd; split <;> rfl).congrL fun a _ _ => by
   unfold upd
   by_cases e : a = kn
   ·rw [if_pos e, if_pos (by omega)]
   ·rw [if_neg e]
    show (if a < i then 5 else 0 : Nat) = _
    by_cases e2 : a < i
    ·rw [if_pos e2, if_pos (by omega)]
    ·rw [if_neg e2, if_neg (by omega)]
  refine rl_nil <| run_seq <| run_region <| rl_v rfl rfl rfl (ov_move rfl rfl) <| rl_v rfl rfl rfl (ov_move rfl rfl) <| rl_v rfl rfl rfl (ov_add rfl rfl rfl (by omega)) ?_
  refine rl_call callable_23 rfl rfl rfl rfl rfl rfl (deposit_any hb w.heap.size X (i + 1) 100000 [] _ w w18 hA3 (hXB.hg (by omega))) (fun e21 w22 hp23 => ?_)
  obtain ⟨rfl, hA4⟩ := hp23
  refine ⟨_, rfl, ?_⟩
  refine rl_v rfl rfl rfl (ov_neq rfl rfl rfl) <| rl_nil ?_
  first | refine run_cond_dec rfl (fun bad => ?_) (fun bad => ?_) | refine run_cond rfl (fun bad => ?_) (fun bad => ?_)
  ·exfalso; exact bad (hDm.mny (by omega))
  ·have hD2 := hDm.dep (i := i + 1) (by omega)
   have hD3 : Dm (fun j => if j < i + 1 then 100000 else 0) (fun _ => 0) (X.deposit (i + 1) 100000) := hD2.congr fun j j0 j1 => by
    unfold upd
    by_cases e : j = i + 1 - 1
    ·rw [if_pos e, if_neg (by omega), if_pos (by omega)]
     rfl
    ·rw [if_neg e]
     show (if j < i then 100000 else 0 : Int) = _
     by_cases e2 : j < i
     ·rw [if_pos e2, if_pos (by omega)]
     ·rw [if_neg e2, if_neg (by omega)]
   refine run_skip <| run_inBlock <| run_region <| rl_v rfl rfl rfl (ov_move rfl rfl) <| rl_v rfl rfl rfl (ov_add rfl rfl rfl (by omega)) ?_
   refine rl_v rfl rfl rfl (ov_assign rfl rfl) <| rl_nil ?_
   refine Run.use (ih14 (i + 1) (M2) (X.deposit (i + 1) 100000) _ ?_ ?_) (And.intro (by exact slot_int rfl (by first | omega)) (And.intro rfl (And.intro rfl (And.intro rfl (And.intro rfl trivial)))))
   ·first | omega | (dsimp only; omega)
   ·exact ⟨by omega, hTb3, by rw [show (i + 1).toNat = i.toNat + 1 by omega]; exact hXB.deposit _ _, hD3, (by rw [total_deposit, if_pos (hDm.mny (by omega)), htot]; omega), hA4⟩
 ·obtain rfl : i = 5 := by omega
  have hTb5 : OTab (.slice (some ⟨b50, 0, none⟩) 5 5) 22 2 5 (fun _ => 5) (fun _ _ => iv 0) M := hTb.congrL fun a _ a1 => if_pos a1
  have hDm5 : Dm (fun _ => 100000) (fun _ => 0) X := hDm.congr fun j _ j1 => if_pos j1
  have htot5 : X.total = 500000 := htot
  refine run_exit rfl <| run_seq <| run_seq <| run_region <| rl_v rfl rfl rfl (ov_assign rfl rfl) <| rl_nil <| run_block <| Run.keep [0, 5, 7, 8, 10] (F' := [(0, _), (5, _), (7, _), (8, _), (10, _)]) rfl <| run_loop5 (fun (i : Int) (X : HM) (p : Int → Int) (D : Int → Int → Int) (M : List (Option Blk)) => [(10, .int .i64 i)]) [0, 5, 7, 8] (fun (i : Int) (X : HM) (p : Int → Int) (D : Int → Int → Int) (M : List (Option Blk)) (w24 : World) => (0 ≤ i ∧ i ≤ 15) ∧ HB (5 + i.toNat) X ∧ (Dm (fun _ => 100000) p X ∧ Debts i.toNat r p D) ∧ X.total = 500000 ∧ OTab (.slice (some ⟨b50, 0, none⟩) 5 5) 22 2 5 (fun _ => 5) (fun a c => iv (D a c)) M ∧ HAt w.heap.size w w24 hb X [] (M ++ [some (vch b35 2 1 fun i => [Value.int IntKind.i64 100].getD i.toNat undef)])) (fun (i : Int) (X : HM) (p : Int → Int) (D : Int → Int → Int) (M : List (Option Blk)) => (15 - i).toNat) (0) (X) (fun _ => 0) (fun _ _ => 0) (M) ?_ (And.intro (by exact slot_int rfl (by first | omega)) (And.intro rfl (And.intro rfl (And.intro rfl (And.intro rfl trivial))))) ?_
  ·exact ⟨by omega, hXB, ⟨hDm5, Debts.zero r⟩, htot5, hTb5, hA⟩
  intro i X p D M w24 hIw24 ih25
  obtain ⟨hi, hXB, ⟨hDm, hDb⟩, htot, hTb, hA⟩ := hIw24
  show Run _ _ _ _ [(10, _), (0, _), (5, _), (7, _), (8, _)] _ _
  refine run_seq <| run_seq <| run_region_join 71 (.bool (decide (i < ln ∧ i < 15))) [0, 5, 7, 8, 10] (fun hk26 => ?_) ?_
  ·refine rl_v rfl rfl rfl (ov_move rfl rfl) <| rl_v rfl rfl rfl (ov_move rfl rfl) <| rl_v rfl rfl rfl (ov_len rfl Try.underlying94 rfl) <| rl_v rfl rfl rfl (ov_lss rfl rfl rfl) <| rl_v rfl rfl rfl (ov_move rfl rfl) ?_
   first | refine rl_split_dec 68 rfl (fun j1 => ?_) (fun j1 => ?_) | refine rl_split 68 rfl (fun j1 => ?_) (fun j1 => ?_)
   ·refine rl_gv rfl rfl rfl rfl rfl (ov_move rfl rfl) <| rl_gv rfl rfl rfl rfl rfl (ov_lss rfl rfl rfl) <| rl_v rfl rfl rfl (ov_pick_t rfl rfl rfl) ?_
    refine rl_nil (hk26 _ (jbd rfl (by omega)) (And.intro rfl (And.intro rfl (And.intro rfl (And.intro rfl (And.intro rfl trivial))))))
   ·refine rl_gskip rfl rfl rfl rfl rfl rfl <| rl_gskip rfl rfl rfl rfl rfl rfl <| rl_v rfl rfl rfl (ov_pick_f rfl rfl rfl) ?_
    refine rl_nil (hk26 _ (jbf rfl (by omega)) (And.intro rfl (And.intro rfl (And.intro rfl (And.intro rfl (And.intro rfl trivial))))))
  ·show Run _ _ _ _ [(71, _), (0, _), (5, _), (7, _), (8, _), (10, _)] _ _
   first | refine run_cond_dec rfl (fun h1 => ?_) (fun h1 => ?_) | refine run_cond rfl (fun h1 => ?_) (fun h1 => ?_)
   ·have hi1 : 5 + (i + 1).toNat = 5 + i.toNat + 1 := by omega
    have hi2 : (i + 1).toNat = i.toNat + 1 := by omega
    obtain ⟨b, hbd⟩ : ∃ b, b = IntKind.u64.wrap (S.b i) % 5 := ⟨_, rfl⟩
    obtain ⟨s, hsd⟩ : ∃ s, s = IntKind.u64.wrap (S.s i) % 5 := ⟨_, rfl⟩
    obtain ⟨q0, hqd⟩ : ∃ q0, q0 = IntKind.u64.wrap (S.q i) % 20 := ⟨_, rfl⟩
    obtain ⟨q, hq⟩ : ∃ q, q = 1 + q0 := ⟨_, rfl⟩
    have hbr : 0 ≤ b ∧ b < 5 := by rw [hbd]; exact ⟨Int.emod_nonneg _ (by decide), Int.emod_lt_of_pos _ (by decide)⟩
    have hsr : 0 ≤ s ∧ s < 5 := by rw [hsd]; exact ⟨Int.emod_nonneg _ (by decide), Int.emod_lt_of_pos _ (by decide)⟩
    have hq0 : 0 ≤ q0 ∧ q0 < 20 := by rw [hqd]; exact ⟨Int.emod_nonneg _ (by decide), Int.emod_lt_of_pos _ (by decide)⟩
    have hq3 : 1 ≤ q ∧ q ≤ 20 := by omega
    obtain ⟨hqr1, hqr2⟩ := mulRng hq3 hrr
    refine run_skip <| run_seq <| run_block <| run_seq <| run_class (fun w' => HAt w.heap.size w w' hb X [] (M ++ [some (vch b35 2 1 fun i => [Value.int IntKind.i64 100].getD i.toNat undef)])) (hA.drewH) mixed (by kernel_rfl) ?_
    refine rk_v rfl rfl rfl (fun wq hQ => ov_move rfl rfl) ?_
    refine rk_v rfl rfl rfl (fun wq hQ => ov_move rfl rfl) ?_
    refine rk_v rfl rfl rfl (fun wq hQ => ov_index rfl Try.underlying94 (by kernel_rfl) (s := 3) rfl rfl ⟨by omega, by omega⟩ (by exact (hla (by omega)))) ?_
    refine rk_v rfl rfl rfl (fun wq hQ => ov_indexA1 rfl Try.underlying95 (by kernel_rfl) rfl rfl ⟨by omega, by omega⟩) ?_
    refine rk_v rfl rfl rfl (fun wq hQ => ov_load rfl Try.underlying3 rfl rfl (by exact (show _ = some (iv (S.b i)) from hrow _ (hQ.own).below i (by omega) (by omega) 0 (by decide)))) ?_
    refine rk_v rfl rfl rfl (fun wq hQ => ov_conv rfl Try.underlying3 Try.underlying42 rfl) ?_
    refine rk_v rfl rfl rfl (fun wq hQ => ov_rem rfl rfl rfl (u64_nn _) (by omega)) ?_
    refine rk_v rfl rfl rfl (fun wq hQ => nv (ov_conv rfl Try.underlying42 Try.underlying3 rfl) ((IntWalk.i64_in _ (by omega)).trans hbd.symm)) ?_
    refine rk_v rfl rfl rfl (fun wq hQ => ov_move rfl rfl) ?_
    refine rk_v rfl rfl rfl (fun wq hQ => ov_move rfl rfl) ?_
    refine rk_v rfl rfl rfl (fun wq hQ => ov_index rfl Try.underlying94 (by kernel_rfl) (s := 3) rfl rfl ⟨by omega, by omega⟩ (by exact (hla (by omega)))) ?_
    refine rk_v rfl rfl rfl (fun wq hQ => ov_indexA1 rfl Try.underlying95 (by kernel_rfl) rfl rfl ⟨by omega, by omega⟩) ?_
    refine rk_v rfl rfl rfl (fun wq hQ => ov_load rfl Try.underlying3 rfl rfl (by exact (show _ = some (iv (S.s i)) from hrow _ (hQ.own).below i (by omega) (by omega) 1 (by decide)))) ?_
    refine rk_v rfl rfl rfl (fun wq hQ => ov_conv rfl Try.underlying3 Try.underlying42 rfl) ?_
    refine rk_v rfl rfl rfl (fun wq hQ => ov_rem rfl rfl rfl (u64_nn _) (by omega)) ?_
    refine rk_v rfl rfl rfl (fun wq hQ => nv (ov_conv rfl Try.underlying42 Try.underlying3 rfl) ((IntWalk.i64_in _ (by omega)).trans hsd.symm)) ?_
    refine rk_v rfl rfl rfl (fun wq hQ => ov_move rfl rfl) ?_
    refine rk_v rfl rfl rfl (fun wq hQ => ov_move rfl rfl) ?_
    refine rk_v rfl rfl rfl (fun wq hQ => ov_index rfl Try.underlying94 (by kernel_rfl) (s := 3) rfl rfl ⟨by omega, by omega⟩ (by exact (hla (by omega)))) ?_
    refine rk_v rfl rfl rfl (fun wq hQ => ov_indexA1 rfl Try.underlying95 (by kernel_rfl) rfl rfl ⟨by omega, by omega⟩) ?_
    refine rk_v rfl rfl rfl (fun wq hQ => ov_load rfl Try.underlying3 rfl rfl (by exact (show _ = some (iv (S.q i)) from hrow _ (hQ.own).below i (by omega) (by omega) 2 (by decide)))) ?_
    refine rk_v rfl rfl rfl (fun wq hQ => ov_conv rfl Try.underlying3 Try.underlying42 rfl) ?_
    refine rk_v rfl rfl rfl (fun wq hQ => ov_rem rfl rfl rfl (u64_nn _) (by omega)) ?_
    refine rk_v rfl rfl rfl (fun wq hQ => nv (ov_conv rfl Try.underlying42 Try.underlying2 rfl) ((IntWalk.i64_in _ (by omega)).trans hqd.symm)) ?_
    refine rk_v rfl rfl rfl (fun wq hQ => nv (ov_add rfl rfl rfl (by omega)) hq.symm) ?_
    refine rk_v rfl rfl rfl (fun wq hQ => ov_assign rfl rfl) ?_
    refine rk_v rfl rfl rfl (fun wq hQ => ov_assign rfl rfl) ?_
    refine rk_v rfl rfl rfl (fun wq hQ => ov_assign rfl rfl) ?_
    refine rk_nil (fun w28 hQw => ?_)
    refine run_seq <| run_region <| rl_v rfl rfl rfl (ov_move rfl rfl) <| rl_v rfl rfl rfl (ov_move rfl rfl) <| rl_v rfl rfl rfl (ov_add rfl rfl rfl (by omega)) ?_
    refine rl_v rfl rfl rfl (ov_move rfl rfl) <| rl_v rfl rfl rfl (ov_add rfl rfl rfl (by omega)) ?_
    refine rl_v rfl rfl rfl (ov_move rfl rfl) <| rl_v rfl rfl rfl (ov_buildL rfl lay_45 rfl (us := [_, _, _, _, _]) rfl) ?_
    refine rl_call callable_25 rfl rfl rfl rfl rfl rfl (trade_any hb w.heap.size X ⟨b + 1, s + 1, 0, q, 100⟩ [] _ w w28 hQw (hXB.hg (by omega))) (fun e29 w30 hp31 => ?_)
    obtain ⟨rfl, hA5⟩ := hp31
    refine ⟨_, rfl, ?_⟩
    refine rl_v rfl rfl rfl (ov_move rfl rfl) <| rl_v rfl rfl rfl (ov_extract rfl rfl (by rfl)) ?_
    refine rl_v rfl rfl rfl (ov_extract rfl rfl (by rfl)) ?_
    refine rl_v rfl rfl rfl (ov_assign rfl rfl) <| rl_v rfl rfl rfl (ov_assign rfl rfl) <| rl_nil <| run_seq <| run_seq <| run_region <| rl_v rfl rfl rfl (ov_move rfl rfl) <| rl_v rfl rfl rfl (ov_eql rfl rfl rfl) <| rl_v rfl rfl rfl (ov_move rfl rfl) <| rl_v rfl rfl rfl (ov_move rfl rfl) <| rl_v rfl rfl rfl (ov_neq rfl rfl rfl) <| rl_v rfl rfl rfl (ov_neqB rfl Try.underlying4 rfl rfl) <| rl_nil ?_
    first | refine run_cond_dec rfl (fun bad => ?_) (fun bad => ?_) | refine run_cond rfl (fun bad => ?_) (fun bad => ?_)
    ·exfalso; by_cases hbs : b = s; (refine bad ?_; rw [← hbs, hDm.bad hbr]; simp); (refine bad ?_; rw [hDm.trd hbr hsr hq3 hbs (fun _ => by decide)]; simp [hbs])
    ·refine run_skip <| run_seq <| run_seq <| run_region <| rl_v rfl rfl rfl (ov_move rfl rfl) <| rl_v rfl rfl rfl (ov_move rfl rfl) <| rl_v rfl rfl rfl (ov_eql rfl rfl rfl) <| rl_nil ?_
     first | refine run_cond_dec rfl (fun hbs => ?_) (fun hbs => ?_) | refine run_cond rfl (fun hbs => ?_) (fun hbs => ?_)
     ·have htr : X.trade ⟨b + 1, s + 1, 0, q, 100⟩ = X := if_neg (by rw [← hbs, hDm.bad hbr]; decide)
      rw [htr] at hA5
      refine run_exit rfl <| run_region <| rl_v rfl rfl rfl (ov_move rfl rfl) <| rl_v rfl rfl rfl (ov_add rfl rfl rfl (by omega)) ?_
      refine rl_v rfl rfl rfl (ov_assign rfl rfl) <| rl_nil ?_
      refine Run.use (ih25 (i + 1) (X) (p) (D) (M) _ ?_ ?_) (And.intro (by exact slot_int rfl (by first | omega)) (And.intro rfl (And.intro rfl (And.intro rfl (And.intro rfl trivial)))))
      ·first | omega | (dsimp only; omega)
      ·exact ⟨by omega, by rw [hi1]; exact hXB.next, by rw [hi2]; exact ⟨hDm, hDb.next⟩, htot, hTb, hA5⟩
     ·refine run_skip <| run_seq <| run_region <| rl_v rfl rfl rfl (ov_move rfl rfl) <| rl_v rfl rfl rfl (ov_gtr rfl rfl rfl) <| rl_nil ?_
      first | refine run_cond_dec rfl (fun hr0 => ?_) (fun hr0 => ?_) | refine run_cond rfl (fun hr0 => ?_) (fun hr0 => ?_)
      ·obtain ⟨x, hx⟩ : ∃ x, x = q * r := ⟨_, rfl⟩
       have hxr : 0 ≤ x ∧ x ≤ 3020 := by omega
       have hst := hDb.step (a := s) (b := b) (u := b) (v := s) (q := q) (x := x) (by omega) (by omega) (by omega) hq3 hxr (.inl ⟨rfl, rfl, hx⟩)
       have hlo := hDb.lo s b
       have hhi := hDb.hi s b
       obtain ⟨an, han⟩ := Int.eq_ofNat_of_zero_le (show 0 ≤ s by omega)
       obtain ⟨K3, N3, hO5, hK3, hP3⟩ := HAt.pull (R := [some (vch b35 2 1 fun i => [Value.int IntKind.i64 100].getD i.toNat undef)]) M [] hA5
       obtain ⟨ct, rv, ch, hv, h3, hO7⟩ := OTab.get9 hTb hO5 an (by omega)
       obtain ⟨ra, rc, erv⟩ := (h3 an (by omega)).val
       have hrk := h3 an (by omega)
       rw [erv] at hrk
       rw [← han] at hrk erv
       obtain ⟨q1, eq1⟩ := hrk.addr
       refine run_tail 17 mixed (by kernel_rfl) ?_
       have hO33 := hO7.drew
       generalize World.drew w30 = w32 at hO33 ⊢
       refine rt_v rfl rfl rfl (ov_move rfl rfl) <| rt_v rfl rfl rfl (ov_move rfl rfl) <| rt_v rfl rfl rfl (ov_index1 rfl Try.underlying23 (by kernel_rfl) rfl rfl ⟨by omega, by omega⟩ (by rfl)) ?_
       refine rt_v rfl rfl rfl (ov_load rfl Try.underlying22 rfl rfl (by exact (show _ = some (Value.slice ra 5 rc) from by rw [← erv]; exact otab_row hv hO33 s (by omega)))) ?_
       refine rt_v rfl rfl rfl (ov_move rfl rfl) <| rt_v rfl rfl rfl (ov_move rfl rfl) <| rt_v rfl rfl rfl (ov_move rfl rfl) <| rt_v rfl rfl rfl (ov_index1 rfl Try.underlying23 (by kernel_rfl) rfl rfl ⟨by omega, by omega⟩ (by rfl)) ?_
       refine rt_v rfl rfl rfl (ov_load rfl Try.underlying22 rfl rfl (by exact (show _ = some (Value.slice ra 5 rc) from by rw [← erv]; exact otab_row hv hO33 s (by omega)))) ?_
       refine rt_v rfl rfl rfl (ov_move rfl rfl) <| rt_v rfl rfl rfl (ov_index1 rfl Try.underlying22 (by kernel_rfl) rfl rfl ⟨by omega, by omega⟩ (by exact (id (eq1 (by decide))))) ?_
       refine rt_v rfl rfl rfl (ov_load rfl Try.underlying2 rfl rfl (by exact (show _ = some (iv (D s b)) from irow_at hrk hO33 (eq1 (by decide)) b (by omega)))) ?_
       refine rt_v rfl rfl rfl (ov_move rfl rfl) <| rt_v rfl rfl rfl (ov_move rfl rfl) <| rt_v rfl rfl rfl (ov_mul rfl rfl rfl (by omega)) ?_
       refine rt_v rfl rfl rfl (nv (ov_add rfl rfl rfl (by omega)) (show D s b + q * r = D s b + x from by rw [hx])) ?_
       refine rt_v rfl rfl rfl (ov_index1 rfl Try.underlying22 (by kernel_rfl) rfl rfl ⟨by omega, by omega⟩ (by exact (id (eq1 (by decide))))) ?_
       refine rt_nil <| rl_ow rfl (ow_storeI1 rfl rfl (by kernel_rfl) hO33 0 hrk rfl eq1 rfl ⟨by omega, by omega⟩ rfl rfl) ?_
       rintro _ w34 ⟨c8, rfl, hO35, hR3, hs36⟩
       obtain ⟨M2, hTb2, hO8⟩ := OTab.set9 (L := fun _ => 5) (F := fun a c => iv (D a c)) (x := .slice ra 5 rc) an (by omega) hv h3 (by rw [← han]; exact erv) hR3 hO35
       have hA6 := HAt.puts (R := [some (vch b35 2 1 fun i => [Value.int IntKind.i64 100].getD i.toNat undef)]) M2 hO8 hK3 hP3
       refine rl_nil <| run_inBlock <| run_region <| rl_v rfl rfl rfl (ov_move rfl rfl) <| rl_v rfl rfl rfl (ov_add rfl rfl rfl (by omega)) ?_
       refine rl_v rfl rfl rfl (ov_assign rfl rfl) <| rl_nil ?_
       refine Run.use (ih25 (i + 1) (X.trade ⟨b + 1, s + 1, 0, q, 100⟩) (upd (upd p b (p b + q)) s (p s - q)) (addD D s b (D s b + x)) (M2) _ ?_ ?_) (And.intro (by exact slot_int rfl (by first | omega)) (And.intro rfl (And.intro rfl (And.intro rfl (And.intro rfl trivial)))))
       ·first | omega | (dsimp only; omega)
       ·exact ⟨by omega, by rw [hi1]; exact hXB.trade _ (by show q ≤ 100; omega), by rw [hi2]; exact ⟨hDm.trade hbr hsr hq3 hbs (fun _ => by decide), hst⟩, by rw [total_trade]; exact htot, hTb2.congr fun a0 c0 _ _ _ _ => by rw [← han]; exact addD_upd D s b _ a0 c0, hA6⟩
      ·obtain ⟨x, hx⟩ : ∃ x, x = -(q * r) := ⟨_, rfl⟩
       have hxr : 0 ≤ x ∧ x ≤ 3020 := by omega
       have hst := hDb.step (a := b) (b := s) (u := b) (v := s) (q := q) (x := x) (by omega) (by omega) (by omega) hq3 hxr (.inr ⟨rfl, rfl, hx⟩)
       have hlo := hDb.lo b s
       have hhi := hDb.hi b s
       obtain ⟨an, han⟩ := Int.eq_ofNat_of_zero_le (show 0 ≤ b by omega)
       obtain ⟨K3, N3, hO5, hK3, hP3⟩ := HAt.pull (R := [some (vch b35 2 1 fun i => [Value.int IntKind.i64 100].getD i.toNat undef)]) M [] hA5
       obtain ⟨ct, rv, ch, hv, h3, hO7⟩ := OTab.get9 hTb hO5 an (by omega)
       obtain ⟨ra, rc, erv⟩ := (h3 an (by omega)).val
       have hrk := h3 an (by omega)
       rw [erv] at hrk
       rw [← han] at hrk erv
       obtain ⟨q1, eq1⟩ := hrk.addr
       refine run_tail 17 mixed (by kernel_rfl) ?_
       have hO38 := hO7.drew
       generalize World.drew w30 = w37 at hO38 ⊢
       refine rt_v rfl rfl rfl (ov_move rfl rfl) <| rt_v rfl rfl rfl (ov_move rfl rfl) <| rt_v rfl rfl rfl (ov_index1 rfl Try.underlying23 (by kernel_rfl) rfl rfl ⟨by omega, by omega⟩ (by rfl)) ?_
       refine rt_v rfl rfl rfl (ov_load rfl Try.underlying22 rfl rfl (by exact (show _ = some (Value.slice ra 5 rc) from by rw [← erv]; exact otab_row hv hO38 b (by omega)))) ?_
       refine rt_v rfl rfl rfl (ov_move rfl rfl) <| rt_v rfl rfl rfl (ov_move rfl rfl) <| rt_v rfl rfl rfl (ov_move rfl rfl) <| rt_v rfl rfl rfl (ov_index1 rfl Try.underlying23 (by kernel_rfl) rfl rfl ⟨by omega, by omega⟩ (by rfl)) ?_
       refine rt_v rfl rfl rfl (ov_load rfl Try.underlying22 rfl rfl (by exact (show _ = some (Value.slice ra 5 rc) from by rw [← erv]; exact otab_row hv hO38 b (by omega)))) ?_
       refine rt_v rfl rfl rfl (ov_move rfl rfl) <| rt_v rfl rfl rfl (ov_index1 rfl Try.underlying22 (by kernel_rfl) rfl rfl ⟨by omega, by omega⟩ (by exact (id (eq1 (by decide))))) ?_
       refine rt_v rfl rfl rfl (ov_load rfl Try.underlying2 rfl rfl (by exact (show _ = some (iv (D b s)) from irow_at hrk hO38 (eq1 (by decide)) s (by omega)))) ?_
       refine rt_v rfl rfl rfl (ov_move rfl rfl) <| rt_v rfl rfl rfl (ov_move rfl rfl) <| rt_v rfl rfl rfl (ov_mul rfl rfl rfl (by omega)) ?_
       refine rt_v rfl rfl rfl (nv (ov_sub rfl rfl rfl (by omega)) (show D b s - q * r = D b s + x from by rw [hx]; omega)) ?_
       refine rt_v rfl rfl rfl (ov_index1 rfl Try.underlying22 (by kernel_rfl) rfl rfl ⟨by omega, by omega⟩ (by exact (id (eq1 (by decide))))) ?_
       refine rt_nil <| rl_ow rfl (ow_storeI1 rfl rfl (by kernel_rfl) hO38 0 hrk rfl eq1 rfl ⟨by omega, by omega⟩ rfl rfl) ?_
       rintro _ w39 ⟨c8, rfl, hO40, hR3, hs41⟩
       obtain ⟨M2, hTb2, hO8⟩ := OTab.set9 (L := fun _ => 5) (F := fun a c => iv (D a c)) (x := .slice ra 5 rc) an (by omega) hv h3 (by rw [← han]; exact erv) hR3 hO40
       have hA6 := HAt.puts (R := [some (vch b35 2 1 fun i => [Value.int IntKind.i64 100].getD i.toNat undef)]) M2 hO8 hK3 hP3
       refine rl_nil <| run_inBlock <| run_region <| rl_v rfl rfl rfl (ov_move rfl rfl) <| rl_v rfl rfl rfl (ov_add rfl rfl rfl (by omega)) ?_
       refine rl_v rfl rfl rfl (ov_assign rfl rfl) <| rl_nil ?_
       refine Run.use (ih25 (i + 1) (X.trade ⟨b + 1, s + 1, 0, q, 100⟩) (upd (upd p b (p b + q)) s (p s - q)) (addD D b s (D b s + x)) (M2) _ ?_ ?_) (And.intro (by exact slot_int rfl (by first | omega)) (And.intro rfl (And.intro rfl (And.intro rfl (And.intro rfl trivial)))))
       ·first | omega | (dsimp only; omega)
       ·exact ⟨by omega, by rw [hi1]; exact hXB.trade _ (by show q ≤ 100; omega), by rw [hi2]; exact ⟨hDm.trade hbr hsr hq3 hbs (fun _ => by decide), hst⟩, by rw [total_trade]; exact htot, hTb2.congr fun a0 c0 _ _ _ _ => by rw [← han]; exact addD_upd D b s _ a0 c0, hA6⟩
   ·have hD15 : i.toNat ≤ 15 := by omega
    have hvD := hDb.valid hD15
    have hpj : ∀ j : Int, 0 ≤ j → j < 5 → -45300 ≤ p j * r ∧ p j * r ≤ 45300 := fun j j0 j1 => by
     have h1 := hDb.rng j
     have h2 := mulAbs (a := p j) (b := r) (A := 300) (B := 151) (by omega) (by omega)
     omega
    obtain ⟨hmm, hmc, hmn⟩ := hDm.marked hrr fun j j0 j1 => by have := hpj j j0 j1; omega
    refine run_exit rfl <| run_seq <| run_region <| rl_v rfl rfl rfl (ov_move rfl rfl) <| rl_v rfl rfl rfl (ov_move rfl rfl) <| rl_v rfl rfl rfl (ov_add rfl rfl rfl (by omega)) ?_
    refine rl_call callable_22 rfl rfl rfl rfl rfl rfl (mark_any hb w.heap.size X 0 (100 + r) [] _ w w24 hA (hXB.hg (by omega))) (fun e42 w43 hp44 => ?_)
    obtain ⟨vm, cm, rfl, hrm, hlm, hA7⟩ := hp44
    refine ⟨_, rfl, ?_⟩
    have hYB := hXB.mark (by omega) 0 (100 + r) (.inl (by omega))
    have hYt : (X.mark 0 (100 + r)).total = 500000 := by rw [total_mark hXB]; exact htot
    obtain ⟨Y, hYe⟩ : ∃ Y, Y = X.mark 0 (100 + r) := ⟨_, rfl⟩
    rw [← hYe] at hA7 hYB hmm hmc hYt
    rw [hmn] at hrm
    obtain ⟨am, cmm, rfl⟩ := hrm.val
    have hA8 := hA7.shed
    obtain ⟨K3, N3, hO5, hK3, hP3⟩ := HAt.pull (R := [some (vch b35 2 1 fun i => [Value.int IntKind.i64 100].getD i.toNat undef)]) M [] hA8
    have hIT := hTb.reads hO5
    refine rl_v rfl rfl rfl (ov_move rfl rfl) <| rl_v rfl rfl rfl (ov_extract rfl rfl (by rfl)) ?_
    refine rl_v rfl rfl rfl (ov_extract rfl rfl (by rfl)) ?_
    refine rl_v rfl rfl rfl (ov_assign rfl rfl) <| rl_v rfl rfl rfl (ov_assign rfl rfl) <| rl_nil <| run_seq <| run_region <| rl_v rfl rfl rfl (ov_move rfl rfl) ?_
    refine rl_call callable_48 rfl rfl rfl rfl rfl rfl (positions_any2 (some ⟨b50, 0, none⟩) 5 5 D _ hvD hIT) (fun e45 w46 hp47 => ?_)
    obtain ⟨b18, rfl, hOp⟩ := hp47
    refine ⟨_, rfl, ?_⟩
    have hO48 := hO5.join hOp
    refine rl_v rfl rfl rfl (ov_move rfl rfl) <| rl_v rfl rfl rfl (ov_extract rfl rfl (by rfl)) ?_
    refine rl_v rfl rfl rfl (ov_extract rfl rfl (by rfl)) ?_
    refine rl_v rfl rfl rfl (ov_assign rfl rfl) <| rl_v rfl rfl rfl (ov_assign rfl rfl) <| rl_nil <| run_seq <| run_region <| rl_v rfl rfl rfl (ov_move rfl rfl) ?_
    refine rl_call callable_49 rfl rfl rfl rfl rfl rfl (settle_any (some ⟨b50, 0, none⟩) 5 5 D _ hvD (hIT.later hOp.below)) (fun e49 w50 hp51 => ?_)
    obtain ⟨K, v20, c20, rfl, hK, hKn, hR20, hOs⟩ := hp51
    refine ⟨_, rfl, ?_⟩
    have hO52 := hO48.join hOs
    have hO6 : Own w.heap.size w w50 (c20 :: some (vch b18 2 5 (fun i => iv (ps 5 D i))) :: houB hb (Y.r K3) :: K3.blk :: (N3 ++ [some (vch b35 2 1 fun i => [Value.int IntKind.i64 100].getD i.toNat undef)])) := hO52.sub (.cons_cons _ (.cons_cons _ (List.sublist_append_right M _)))
    obtain ⟨a20, x20, rfl⟩ := hR20.val
    have hsum := ps_sum 5 D
    have hpsr : ∀ j : Int, 0 ≤ j → j < 5 → -45300 ≤ ps 5 D j ∧ ps 5 D j ≤ 45300 := fun j j0 j1 => by rw [hDb.pos j j0 j1]; exact hpj j j0 j1
    have hpsw := ps_rng hvD
    refine rl_v rfl rfl rfl (ov_move rfl rfl) <| rl_v rfl rfl rfl (ov_extract rfl rfl (by rfl)) ?_
    refine rl_v rfl rfl rfl (ov_extract rfl rfl (by rfl)) ?_
    refine rl_v rfl rfl rfl (ov_assign rfl rfl) <| rl_v rfl rfl rfl (ov_assign rfl rfl) <| rl_nil <| run_seq <| run_seq <| run_region <| rl_v rfl rfl rfl (ov_move rfl rfl) <| rl_v rfl rfl rfl (ov_neq rfl rfl rfl) <| rl_v rfl rfl rfl (ov_move rfl rfl) ?_
    first | refine rl_noD 174 rfl (fun h => h (hDm.mrk hrr)) ?_ | refine rl_no 174 rfl (fun h => h (hDm.mrk hrr)) ?_
    refine rl_gv rfl rfl rfl rfl rfl (ov_move rfl rfl) <| rl_gv rfl rfl rfl rfl rfl (ov_neq rfl rfl rfl) <| rl_v rfl rfl rfl (ov_pick_f rfl rfl rfl) <| rl_v rfl rfl rfl (ov_move rfl rfl) ?_
    first | refine rl_noD 178 rfl (fun h => h rfl) ?_ | refine rl_no 178 rfl (fun h => h rfl) ?_
    refine rl_gv rfl rfl rfl rfl rfl (ov_move rfl rfl) <| rl_gv rfl rfl rfl rfl rfl (ov_neq rfl rfl rfl) <| rl_v rfl rfl rfl (ov_pick_f rfl rfl rfl) <| rl_v rfl rfl rfl (ov_move rfl rfl) ?_
    first | refine rl_noD 182 rfl (fun h => h rfl) ?_ | refine rl_no 182 rfl (fun h => h rfl) ?_
    refine rl_gv rfl rfl rfl rfl rfl (ov_move rfl rfl) <| rl_gv rfl rfl rfl rfl rfl (ov_len rfl Try.underlying51 rfl) <| rl_gv rfl rfl rfl rfl rfl (ov_neq rfl rfl rfl) <| rl_v rfl rfl rfl (ov_pick_f rfl rfl rfl) <| rl_v rfl rfl rfl (ov_move rfl rfl) ?_
    first | refine rl_noD 187 rfl (fun h => h rfl) ?_ | refine rl_no 187 rfl (fun h => h rfl) ?_
    refine rl_gv rfl rfl rfl rfl rfl (ov_move rfl rfl) <| rl_gv rfl rfl rfl rfl rfl (ov_len rfl Try.underlying22 rfl) <| rl_gv rfl rfl rfl rfl rfl (ov_neq rfl rfl rfl) <| rl_v rfl rfl rfl (ov_pick_f rfl rfl rfl) <| rl_nil ?_
    first | refine run_cond_dec rfl (fun bad => ?_) (fun bad => ?_) | refine run_cond rfl (fun bad => ?_) (fun bad => ?_)
    ·exfalso; exact bad rfl
    ·refine run_skip <| run_seq <| run_region <| rl_ow rfl (ow_build1 [_, _, _, _, _] rfl rfl rfl rfl rfl Try.underlying22 info_2 (by decide) hO6 rfl rfl) ?_
     rintro _ w53 ⟨b193, rfl, hO54, hs55⟩
     refine rl_ow rfl (ow_make (5) rfl rfl rfl Try.underlying22 info_2 rfl hO54 rfl rfl (by rfl) (by rfl) ⟨by omega, by omega⟩) ?_
     rintro _ w56 ⟨b194, rfl, hO57, hs58⟩
     obtain ⟨f1, hf1⟩ : ∃ f1 : List Int, f1 = [100000, 100000, 100000, 100000, 100000] := ⟨_, rfl⟩
     have hf1l : f1.length = 5 := by rw [hf1]; rfl
     have hf1g : ∀ i : Int, 0 ≤ i → i < 5 → f1.getD i.toNat 0 = 100000 := fun i i0 i1 => by
      rw [hf1]
      have : i = 0 ∨ i = 1 ∨ i = 2 ∨ i = 3 ∨ i = 4 := by omega
      rcases this with rfl | rfl | rfl | rfl | rfl <;> rfl
     have hf1r : ∀ x ∈ f1, 0 ≤ x ∧ x ≤ 1000000000000 := fun x hx => by rw [hf1] at hx; simp at hx; omega
     have hf2r : ∀ x ∈ List.replicate 5 (0 : Int), 0 ≤ x ∧ x ≤ 1000000000000 := fun x hx => by have := (List.mem_replicate.1 hx).2; omega
     obtain ⟨RR, hRR⟩ : ∃ RR, RR = [some (vch b194 2 5 (fun _ => iv 0)), some (vch b193 2 5 fun i => [Value.int IntKind.i64 100000, Value.int IntKind.i64 100000, Value.int IntKind.i64 100000, Value.int IntKind.i64 100000, Value.int IntKind.i64 100000].getD i.toNat undef), c20, some (vch b18 2 5 (fun i => iv (ps 5 D i)))] ++ (houB hb (Y.r K3) :: K3.blk :: (N3 ++ [some (vch b35 2 1 fun i => [Value.int IntKind.i64 100].getD i.toNat undef)])) := ⟨_, rfl⟩
     have k0 : RR[0]? = some (some (vch b194 2 5 (fun _ => iv 0))) := by rw [hRR]; rfl
     have k1 : RR[1]? = some (some (vch b193 2 5 fun i => [Value.int IntKind.i64 100000, Value.int IntKind.i64 100000, Value.int IntKind.i64 100000, Value.int IntKind.i64 100000, Value.int IntKind.i64 100000].getD i.toNat undef)) := by rw [hRR]; rfl
     have k2 : RR[2]? = some c20 := by rw [hRR]; rfl
     have k3 : RR[3]? = some (some (vch b18 2 5 (fun i => iv (ps 5 D i)))) := by rw [hRR]; rfl
     have hO9 : Own w.heap.size w w56 RR := by rw [hRR]; exact hO57
     have s1 : SrcI RR (some ⟨b193, 0, none⟩) 5 (gl f1) := fun B w0 w hO => (hO.reads 1 k1 5 (Nat.le_refl _)).congr fun i hi => by
      have : i = 0 ∨ i = 1 ∨ i = 2 ∨ i = 3 ∨ i = 4 := by omega
      rcases this with rfl | rfl | rfl | rfl | rfl <;> first | (rw [hf1]; done) | (rw [hf1]; rfl)
     have s2 : SrcI RR (some ⟨b194, 0, none⟩) 5 (gl (List.replicate 5 0)) := fun B w0 w hO => (hO.reads 0 k0 5 (Nat.le_refl _)).congr fun i hi => by show iv _ = iv _; rw [gl_repl]
     refine rl_v rfl rfl rfl (ov_buildL rfl lay_104 rfl (us := [_, _, _, _]) rfl) ?_
     refine rl_call callable_50 rfl rfl rfl rfl rfl rfl (newN 5 5 f1 (List.replicate 5 0) hf1l List.length_replicate (some ⟨b193, 0, none⟩) (some ⟨b194, 0, none⟩) 5 5 w.heap.size _ w w56 hO9 s1 s2 (by decide) (by decide) hf1r hf2r) (fun e59 w60 hp61 => ?_)
     obtain ⟨A, rfl, hW⟩ := hp61
     refine ⟨_, rfl, ?_⟩
     have hOa := hW.own
     refine rl_v rfl rfl rfl (ov_move rfl rfl) <| rl_v rfl rfl rfl (ov_extract rfl rfl (by rfl)) ?_
     refine rl_v rfl rfl rfl (ov_extract rfl rfl (by rfl)) ?_
     refine rl_v rfl rfl rfl (ov_assign rfl rfl) <| rl_v rfl rfl rfl (ov_assign rfl rfl) <| rl_nil <| run_seq <| run_seq <| run_region <| rl_v rfl rfl rfl (ov_move rfl rfl) <| rl_v rfl rfl rfl (ov_neq rfl rfl rfl) <| rl_v rfl rfl rfl (ov_move rfl rfl) ?_
     first | refine rl_noD 201 rfl (fun h => h rfl) ?_ | refine rl_no 201 rfl (fun h => h rfl) ?_
     refine rl_gv rfl rfl rfl rfl rfl (ov_move rfl rfl) <| rl_gv rfl rfl rfl rfl rfl (ov_ptrnil rfl Try.underlying100 rfl) <| rl_v rfl rfl rfl (ov_pick_f rfl rfl rfl) <| rl_nil <| run_cond_f rfl ?_
     have hG0 := Good.init (mem := 5) (pat := 5) (by decide) (by decide) (by omega) (by rw [List.length_replicate]; rfl) hf1r hf2r
     have hBg0 : Begun 5 (ps 5 D) 5 f1 (List.replicate 5 0) 0 (MW.init 5 5 f1 (List.replicate 5 0)) := ⟨Well.init hG0 fun x hx => (hf1r x hx).1, rfl⟩
     have hpay := pay_ok hsum hK hf1l fun i i0 i1 => by
      have h1 := hf1g i i0 (by omega)
      have h2 : gl f1 i = 100000 := h1
      have h3 := hpsr i i0 (by omega)
      omega
     refine run_skip <| run_seq <| run_seq <| run_region <| rl_v rfl rfl rfl (ov_assign rfl rfl) <| rl_nil <| run_block <| Run.keep [5, 18, 20, 22, 24] (F' := [(5, _), (18, _), (20, _), (22, _), (24, _)]) rfl <| run_loop3 (fun (k : Int) (kn : Nat) (Z : MW) => [(24, .int .i64 k)]) [5, 18, 20, 22] (fun (k : Int) (kn : Nat) (Z : MW) (w62 : World) => k = kn ∧ kn ≤ K ∧ Begun 5 (ps 5 D) 5 f1 (List.replicate 5 0) kn Z ∧ phi Z ≤ 4 * kn ∧ WAt w.heap.size w w62 A Z [] RR) (fun (k : Int) (kn : Nat) (Z : MW) => K - kn) (0) (0) (MW.init 5 5 f1 (List.replicate 5 0)) ?_ (And.intro (by exact slot_int rfl (by first | omega)) (And.intro rfl (And.intro rfl (And.intro rfl (And.intro rfl trivial))))) ?_
     ·exact ⟨rfl, by omega, hBg0, Nat.zero_le _, hW⟩
     intro k kn Z w62 hIw62 ih63
     obtain ⟨hk, hkK, hB, hph, hW⟩ := hIw62
     show Run _ _ _ _ [(24, _), (5, _), (18, _), (20, _), (22, _)] _ _
     refine run_seq <| run_seq <| run_region <| rl_v rfl rfl rfl (ov_move rfl rfl) <| rl_v rfl rfl rfl (ov_move rfl rfl) <| rl_v rfl rfl rfl (ov_len rfl Try.underlying97 rfl) <| rl_v rfl rfl rfl (ov_lss rfl rfl rfl) <| rl_nil ?_
     first | refine run_cond_dec rfl (fun hkk => ?_) (fun hkk => ?_) | refine run_cond rfl (fun hkk => ?_) (fun hkk => ?_)
     ·obtain rfl : kn = k.toNat := by omega
      obtain ⟨b20, ha20, _, hr20⟩ := hR20.openW (by omega)
      have ham := hK.amount hsum (k := k.toNat) (by omega)
      have hmv := moved_le hsum hK hpsw (k := k.toNat) (by omega)
      obtain ⟨hok, hstep⟩ := hB.step hsum hK (k := k.toNat) (by omega) (by omega) (by omega) hpay
      have hdl : Z.deals.length = k.toNat := by rw [hB.deals, dealsT_len]
      have hbg := bag_phi Z
      have hb0 := bcode_ok hok hB.well.yes.calm (by omega) (by omega)
      have hph2 := phi_begin Z (dealT 5 (ps 5 D) k.toNat)
      obtain ⟨Kk, Nk, hO, hKk, hPl⟩ := hW.front9
      have ha20f := fun (_ : True) => ha20
      refine run_skip <| run_seq <| run_block <| run_seq <| run_held (fun w' => Own w.heap.size w w' (RR)) mixed ?_
      have hO65 := hO.drew
      generalize World.drew w62 = w64 at hO65 ⊢
      have hS66 : Own w.heap.size w w64 (RR) := by first | exact hO65 | exact hO65.sub (List.sublist_append_left _ _)
      refine rh_v 0 rfl (by kernel_rfl) rfl rfl rfl hS66 (fun _ hS => ov_move rfl rfl) ?_
      refine rh_v 1 rfl (by kernel_rfl) rfl rfl rfl hS66 (fun _ hS => ov_move rfl rfl) ?_
      refine rh_v 2 rfl (by kernel_rfl) rfl rfl rfl hS66 (fun _ hS => ov_move rfl rfl) ?_
      refine rh_v 3 rfl (by kernel_rfl) rfl rfl rfl hS66 (fun _ hS => ov_index rfl Try.underlying97 (by kernel_rfl) (s := 3) rfl rfl ⟨by omega, by omega⟩ (by exact (ha20f trivial))) ?_
      refine rh_v 4 rfl (by kernel_rfl) rfl rfl rfl hS66 (fun _ hS => ov_fieldS rfl Try.underlying107 rfl (fo := 0) rfl (by kernel_rfl) rfl) ?_
      refine rh_v 5 rfl (by kernel_rfl) rfl rfl rfl hS66 (fun _ hS => ov_load rfl Try.underlying3 rfl rfl (by exact (show _ = some (iv (payer 5 (stP 5 (ps 5 D) k.toNat))) from hr20 hS 2 k2 k (by omega) (by omega) 0 (by decide)))) ?_
      refine rh_v 6 rfl (by kernel_rfl) rfl rfl rfl hS66 (fun _ hS => ov_add rfl rfl rfl (by omega)) ?_
      refine rh_v 7 rfl (by kernel_rfl) rfl rfl rfl hS66 (fun _ hS => ov_move rfl rfl) ?_
      refine rh_v 8 rfl (by kernel_rfl) rfl rfl rfl hS66 (fun _ hS => ov_move rfl rfl) ?_
      refine rh_v 9 rfl (by kernel_rfl) rfl rfl rfl hS66 (fun _ hS => ov_index rfl Try.underlying97 (by kernel_rfl) (s := 3) rfl rfl ⟨by omega, by omega⟩ (by exact (ha20f trivial))) ?_
      refine rh_v 10 rfl (by kernel_rfl) rfl rfl rfl hS66 (fun _ hS => ov_fieldS rfl Try.underlying107 rfl (fo := 1) rfl (by kernel_rfl) rfl) ?_
      refine rh_v 11 rfl (by kernel_rfl) rfl rfl rfl hS66 (fun _ hS => ov_load rfl Try.underlying3 rfl rfl (by exact (show _ = some (iv (getter 5 (stP 5 (ps 5 D) k.toNat))) from hr20 hS 2 k2 k (by omega) (by omega) 1 (by decide)))) ?_
      refine rh_v 12 rfl (by kernel_rfl) rfl rfl rfl hS66 (fun _ hS => ov_add rfl rfl rfl (by omega)) ?_
      refine rh_v 13 rfl (by kernel_rfl) rfl rfl rfl hS66 (fun _ hS => ov_move rfl rfl) ?_
      refine rh_v 14 rfl (by kernel_rfl) rfl rfl rfl hS66 (fun _ hS => ov_move rfl rfl) ?_
      refine rh_v 15 rfl (by kernel_rfl) rfl rfl rfl hS66 (fun _ hS => ov_index rfl Try.underlying97 (by kernel_rfl) (s := 3) rfl rfl ⟨by omega, by omega⟩ (by exact (ha20f trivial))) ?_
      refine rh_v 16 rfl (by kernel_rfl) rfl rfl rfl hS66 (fun _ hS => ov_fieldS rfl Try.underlying107 rfl (fo := 2) rfl (by kernel_rfl) rfl) ?_
      refine rh_v 17 rfl (by kernel_rfl) rfl rfl rfl hS66 (fun _ hS => ov_load rfl Try.underlying2 rfl rfl (by exact (show _ = some (iv (moved 5 (stP 5 (ps 5 D) k.toNat))) from hr20 hS 2 k2 k (by omega) (by omega) 2 (by decide)))) ?_
      refine rh_v 18 rfl (by kernel_rfl) rfl rfl rfl hS66 (fun _ hS => ov_buildL rfl lay_109 rfl (us := [_, _, _, _]) rfl) ?_
      refine rh_any1 19 (by kernel_rfl) ?_
      refine rc_op rfl rfl (ow_call2 callable_51 rfl rfl rfl rfl rfl (begin0 A Z (dealT 5 (ps 5 D) k.toNat) w.heap.size RR w w64 hB.well.yes.good (by omega) hb0 (WAt.unfront9 (R := RR) hO65 hKk hPl)) (by intro e w' hp; obtain ⟨rfl, hW2⟩ := hp; exact ⟨_, rfl⟩)) ?_
      rintro _ w69 ⟨_, v67, he70, rfl, hp68⟩
      obtain ⟨rfl, hW2⟩ := hp68
      injection he70 with he70; subst he70
      have hO2 := hW2.own
      have hS71 : Own w.heap.size w w69 (RR) := by first | exact hO2 | exact hO2.sub (List.sublist_append_left _ _)
      refine ⟨hS71, ?_⟩
      refine rh_v 20 rfl (by kernel_rfl) rfl rfl rfl hS71 (fun _ hS => ov_move rfl rfl) ?_
      refine rh_v 21 rfl (by kernel_rfl) rfl rfl rfl hS71 (fun _ hS => ov_extract rfl rfl (by rfl)) ?_
      refine rh_v 22 rfl (by kernel_rfl) rfl rfl rfl hS71 (fun _ hS => ov_extract rfl rfl (by rfl)) ?_
      refine rh_v 23 rfl (by kernel_rfl) rfl rfl rfl hS71 (fun _ hS => ov_assign rfl rfl) ?_
      refine rh_v 24 rfl (by kernel_rfl) rfl rfl rfl hS71 (fun _ hS => ov_assign rfl rfl) ?_
      refine rh_done (by kernel_rfl) ?_
      refine run_seq <| run_region <| rl_v rfl rfl rfl (ov_move rfl rfl) <| rl_v rfl rfl rfl (ov_neq rfl rfl rfl) <| rl_nil ?_
      first | refine run_cond_dec rfl (fun bad => ?_) (fun bad => ?_) | refine run_cond rfl (fun bad => ?_) (fun bad => ?_)
      ·exfalso; exact bad rfl
      ·refine run_skip <| run_inBlock <| run_region <| rl_v rfl rfl rfl (ov_move rfl rfl) <| rl_v rfl rfl rfl (ov_add rfl rfl rfl (by omega)) ?_
       refine rl_v rfl rfl rfl (ov_assign rfl rfl) <| rl_nil ?_
       refine Run.use (ih63 (k + 1) (k.toNat + 1) (Z.begin (dealT 5 (ps 5 D) k.toNat)) _ ?_ ?_) (And.intro (by exact slot_int rfl (by first | omega)) (And.intro rfl (And.intro rfl (And.intro rfl (And.intro rfl trivial)))))
       ·first | omega | (dsimp only; omega)
       ·exact ⟨by omega, by omega, hstep, by omega, hW2⟩
     ·obtain rfl : K = kn := by omega
      have hG := hB.well.yes.good
      have hOe := hW.own
      refine run_exit rfl <| run_seq <| run_seq <| run_region <| rl_v rfl rfl rfl (ov_move rfl rfl) ?_
      refine rl_call callable_52 rfl rfl rfl rfl rfl rfl (heal_any A Z 13 w.heap.size [] RR w w62 (by decide) hG (by omega) hW) (fun e72 w73 hp74 => ?_)
      obtain ⟨rfl, hW5⟩ := hp74
      refine ⟨_, rfl, ?_⟩
      have hOf := hW5.own
      refine rl_v rfl rfl rfl (ov_move rfl rfl) <| rl_v rfl rfl rfl (ov_extract rfl rfl (by rfl)) ?_
      refine rl_v rfl rfl rfl (ov_extract rfl rfl (by rfl)) ?_
      refine rl_v rfl rfl rfl (ov_assign rfl rfl) <| rl_v rfl rfl rfl (ov_assign rfl rfl) <| rl_nil <| run_seq <| run_region <| rl_v rfl rfl rfl (ov_move rfl rfl) <| rl_v rfl rfl rfl (ov_neq rfl rfl rfl) <| rl_nil ?_
      first | refine run_cond_dec rfl (fun bad => ?_) (fun bad => ?_) | refine run_cond rfl (fun bad => ?_) (fun bad => ?_)
      ·exfalso; exact bad rfl
      ·have hpaid : ∀ i : Int, 0 ≤ i → i < (5 : Nat) → (Z.heal (13 : Int).toNat).bal 1 i = f1.getD i.toNat 0 + ps 5 D i := fun i i0 i1 => hB.paid hsum hK (by decide) (q := 13) (by decide) i0 i1
       have hGY := hG.heal (13 : Int).toNat
       have hl29 : 5 = ((Z.heal (13 : Int).toNat).fst 1).length := by
        have h1 := hGY.fl 1 (.inl rfl)
        have h2 : (Z.heal (13 : Int).toNat).mem = 5 := (cfg_mem (cfg_heal Z (13 : Int).toNat)).trans (congrArg (fun c => c.1) hB.cf)
        omega
       refine run_skip <| run_seq <| run_region <| rl_v rfl rfl rfl (ov_move rfl rfl) ?_
       refine rl_call callable_53 rfl rfl rfl rfl rfl rfl (balances_any A (Z.heal (13 : Int).toNat) 1 w.heap.size [] RR w w73 (.inl rfl) hGY hW5) (fun e75 w76 hp77 => ?_)
       obtain ⟨v29, c29, rfl, hR29, hW6⟩ := hp77
       refine ⟨_, rfl, ?_⟩
       generalize ((Z.heal (13 : Int).toNat).fst 1).length = n29 at hl29 hR29
       subst hl29
       obtain ⟨a29, x29, rfl⟩ := hR29.val
       have hOg := hW6.own
       refine rl_v rfl rfl rfl (ov_move rfl rfl) <| rl_v rfl rfl rfl (ov_extract rfl rfl (by rfl)) ?_
       refine rl_v rfl rfl rfl (ov_extract rfl rfl (by rfl)) ?_
       refine rl_v rfl rfl rfl (ov_assign rfl rfl) <| rl_v rfl rfl rfl (ov_assign rfl rfl) <| rl_nil <| run_seq <| run_seq <| run_region <| rl_v rfl rfl rfl (ov_move rfl rfl) <| rl_v rfl rfl rfl (ov_neq rfl rfl rfl) <| rl_v rfl rfl rfl (ov_move rfl rfl) ?_
       first | refine rl_noD 250 rfl (fun h => h rfl) ?_ | refine rl_no 250 rfl (fun h => h rfl) ?_
       refine rl_gv rfl rfl rfl rfl rfl (ov_move rfl rfl) <| rl_gv rfl rfl rfl rfl rfl (ov_len rfl Try.underlying22 rfl) <| rl_gv rfl rfl rfl rfl rfl (ov_neq rfl rfl rfl) <| rl_v rfl rfl rfl (ov_pick_f rfl rfl rfl) <| rl_nil ?_
       first | refine run_cond_dec rfl (fun bad => ?_) (fun bad => ?_) | refine run_cond rfl (fun bad => ?_) (fun bad => ?_)
       ·exfalso; exact bad rfl
       ·have hOh : Own w.heap.size w w76 ([c29, some (vch b194 2 5 (fun _ => iv 0)), some (vch b193 2 5 fun i => [Value.int IntKind.i64 100000, Value.int IntKind.i64 100000, Value.int IntKind.i64 100000, Value.int IntKind.i64 100000, Value.int IntKind.i64 100000].getD i.toNat undef), c20, some (vch b18 2 5 (fun i => iv (ps 5 D i)))] ++ (houB hb (Y.r K3) :: K3.blk :: (N3 ++ [some (vch b35 2 1 fun i => [Value.int IntKind.i64 100].getD i.toNat undef)]))) := by
         have h := hOg
         rw [hRR] at h
         exact h
        have hA9 : HAt w.heap.size w w76 hb Y [] ([c29, some (vch b194 2 5 (fun _ => iv 0)), some (vch b193 2 5 fun i => [Value.int IntKind.i64 100000, Value.int IntKind.i64 100000, Value.int IntKind.i64 100000, Value.int IntKind.i64 100000, Value.int IntKind.i64 100000].getD i.toNat undef), c20, some (vch b18 2 5 (fun i => iv (ps 5 D i)))] ++ [some (vch b35 2 1 fun i => [Value.int IntKind.i64 100].getD i.toNat undef)]) := HAt.puts [c29, some (vch b194 2 5 (fun _ => iv 0)), some (vch b193 2 5 fun i => [Value.int IntKind.i64 100000, Value.int IntKind.i64 100000, Value.int IntKind.i64 100000, Value.int IntKind.i64 100000, Value.int IntKind.i64 100000].getD i.toNat undef), c20, some (vch b18 2 5 (fun i => iv (ps 5 D i)))] hOh hK3 hP3
        have hYG := hYB.hg (by omega)
        refine run_skip <| run_seq <| run_seq <| run_region <| rl_v rfl rfl rfl (ov_assign rfl rfl) <| rl_nil <| run_block <| Run.keep [5, 18, 29, 31] (F' := [(5, _), (18, _), (29, _), (31, _)]) rfl <| run_loop1 (fun (k : Int) => [(31, .int .i64 k)]) [5, 18, 29] (fun (k : Int) (w78 : World) => (0 ≤ k ∧ k ≤ 5) ∧ HAt w.heap.size w w78 hb Y [] ([c29, some (vch b194 2 5 (fun _ => iv 0)), some (vch b193 2 5 fun i => [Value.int IntKind.i64 100000, Value.int IntKind.i64 100000, Value.int IntKind.i64 100000, Value.int IntKind.i64 100000, Value.int IntKind.i64 100000].getD i.toNat undef), c20, some (vch b18 2 5 (fun i => iv (ps 5 D i)))] ++ [some (vch b35 2 1 fun i => [Value.int IntKind.i64 100].getD i.toNat undef)])) (fun (k : Int) => (5 - k).toNat) (0) ?_ (And.intro (by exact slot_int rfl (by first | omega)) (And.intro rfl (And.intro rfl (And.intro rfl trivial)))) ?_
        ·exact ⟨by omega, hA9⟩
        intro k w78 hIw78 ih79
        obtain ⟨hk5, hAb⟩ := hIw78
        show Run _ _ _ _ [(31, _), (5, _), (18, _), (29, _)] _ _
        refine run_seq <| run_seq <| run_region <| rl_v rfl rfl rfl (ov_move rfl rfl) <| rl_v rfl rfl rfl (ov_lss rfl rfl rfl) <| rl_nil ?_
        first | refine run_cond_dec rfl (fun hk6 => ?_) (fun hk6 => ?_) | refine run_cond rfl (fun hk6 => ?_) (fun hk6 => ?_)
        ·refine run_skip <| run_seq <| run_block <| run_seq <| run_region <| rl_v rfl rfl rfl (ov_move rfl rfl) <| rl_v rfl rfl rfl (ov_move rfl rfl) <| rl_v rfl rfl rfl (ov_add rfl rfl rfl (by omega)) ?_
         refine rl_call callable_31 rfl rfl rfl rfl rfl rfl (account_in hb w.heap.size Y [] _ w w78 hAb hYG (k + 1) ⟨by omega, by omega⟩) (fun e80 w81 hp82 => ?_)
         obtain ⟨va, ca, rfl, hra, hAc⟩ := hp82
         refine ⟨_, rfl, ?_⟩
         obtain ⟨aa, pa9, rfl⟩ := hra.val
         obtain ⟨K4, N4, hO4, hK4, hP4⟩ := hAc.open
         refine rl_v rfl rfl rfl (ov_move rfl rfl) <| rl_v rfl rfl rfl (ov_extract rfl rfl (by rfl)) ?_
         refine rl_v rfl rfl rfl (ov_extract rfl rfl (by rfl)) ?_
         refine rl_ow rfl (ow_alloc _ rfl rfl rfl zero_64 rfl hO4) ?_
         rintro _ w83 ⟨b32, rfl, hO84, hs85⟩
         refine rl_ow rfl (ow_storeW rfl rfl (by kernel_rfl) hO84 0 rfl rfl (by rfl) rfl (by rfl)) ?_
         rintro _ w86 ⟨rfl, hO87, hs88⟩
         have hAd := HAt.puts [some (lch b32 64 [iv (Y.acct (k + 1)).cash, iv (Y.acct (k + 1)).fund, .slice aa Y.mn pa9, .bool (Y.acct (k + 1)).out])] hO87 hK4 hP4
         obtain ⟨rb, ro, er, rr⟩ := (srcRow hR29 (k := 2) rfl).at hAd.fr (by decide)
         have hck : (Y.acct (k + 1)).cash = 100000 + ps 5 D k := by
          have h1 := hmc k hk5.1 hk6
          rw [hDb.pos k hk5.1 hk6, ← h1]
          show (Y.ac (k + 1 - 1)).cash = _
          rw [show k + 1 - 1 = k by omega]
         have hbk : (Z.heal (13 : Int).toNat).bal 1 k = 100000 + ps 5 D k := by rw [hpaid k hk5.1 hk6, hf1g k hk5.1 hk6]
         have hpk := hpsr k hk5.1 hk6
         refine rl_v rfl rfl rfl (ov_assign rfl rfl) <| rl_nil <| run_seq <| run_class (fun w' => HAt w.heap.size w w' hb Y [] ([some (lch b32 64 [iv (Y.acct (k + 1)).cash, iv (Y.acct (k + 1)).fund, .slice aa Y.mn pa9, .bool (Y.acct (k + 1)).out])] ++ (ca :: ([c29, some (vch b194 2 5 (fun _ => iv 0)), some (vch b193 2 5 fun i => [Value.int IntKind.i64 100000, Value.int IntKind.i64 100000, Value.int IntKind.i64 100000, Value.int IntKind.i64 100000, Value.int IntKind.i64 100000].getD i.toNat undef), c20, some (vch b18 2 5 (fun i => iv (ps 5 D i)))] ++ [some (vch b35 2 1 fun i => [Value.int IntKind.i64 100].getD i.toNat undef)])))) (hAd.drewH) mixed (by kernel_rfl) ?_
         refine rk_v rfl rfl rfl (fun wq hQ => ov_move rfl rfl) ?_
         refine rk_v rfl rfl rfl (fun wq hQ => ov_neq rfl rfl rfl) ?_
         refine rk_v rfl rfl rfl (fun wq hQ => ov_move rfl rfl) ?_
         first | refine rk_noD 268 rfl (fun h => h rfl) ?_ | refine rk_no 268 rfl (fun h => h rfl) ?_
         refine rk_gv rfl rfl rfl rfl rfl (fun wq hQ => ov_fieldS rfl Try.underlying64 rfl (fo := 0) rfl (by kernel_rfl) rfl) ?_
         refine rk_gv rfl rfl rfl rfl rfl (fun wq hQ => ov_load rfl Try.underlying2 rfl rfl (by exact (show _ = some (iv (Y.acct (k + 1)).cash) from (hQ.own).cellL 0 rfl (off := 0) rfl))) ?_
         refine rk_gv rfl rfl rfl rfl rfl (fun wq hQ => ov_move rfl rfl) ?_
         refine rk_gv rfl rfl rfl rfl rfl (fun wq hQ => ov_move rfl rfl) ?_
         refine rk_gv rfl rfl rfl rfl rfl (fun wq hQ => ov_index1 rfl Try.underlying22 (by kernel_rfl) rfl rfl ⟨by omega, by omega⟩ (by rfl)) ?_
         refine rk_gv rfl rfl rfl rfl rfl (fun wq hQ => ov_load rfl Try.underlying2 rfl rfl (by exact (show _ = some (iv (ps 5 D k)) from (hQ.own).cellI 6 rfl k (by omega) (by omega)))) ?_
         refine rk_gv rfl rfl rfl rfl rfl (fun wq hQ => ov_add rfl rfl rfl (by omega)) ?_
         refine rk_gv rfl rfl rfl rfl rfl (fun wq hQ => ov_neq rfl rfl rfl) ?_
         refine rk_v rfl rfl rfl (fun wq hQ => ov_pick_f rfl rfl rfl) ?_
         refine rk_v rfl rfl rfl (fun wq hQ => ov_move rfl rfl) ?_
         first | refine rk_noD 278 rfl (fun h => h hck) ?_ | refine rk_no 278 rfl (fun h => h hck) ?_
         refine rk_gv rfl rfl rfl rfl rfl (fun wq hQ => ov_fieldS rfl Try.underlying64 rfl (fo := 0) rfl (by kernel_rfl) rfl) ?_
         refine rk_gv rfl rfl rfl rfl rfl (fun wq hQ => ov_load rfl Try.underlying2 rfl rfl (by exact (show _ = some (iv (Y.acct (k + 1)).cash) from (hQ.own).cellL 0 rfl (off := 0) rfl))) ?_
         refine rk_gv rfl rfl rfl rfl rfl (fun wq hQ => ov_move rfl rfl) ?_
         refine rk_gv rfl rfl rfl rfl rfl (fun wq hQ => ov_move rfl rfl) ?_
         refine rk_gv rfl rfl rfl rfl rfl (fun wq hQ => ov_index1 rfl Try.underlying22 (by kernel_rfl) rfl rfl ⟨by omega, by omega⟩ (by exact (id er))) ?_
         refine rk_gv rfl rfl rfl rfl rfl (fun wq hQ => ov_load rfl Try.underlying2 rfl rfl (by exact (show _ = some (iv ((Z.heal (13 : Int).toNat).bal 1 k)) from rr (hQ.own) k (by omega) (by omega)))) ?_
         refine rk_gv rfl rfl rfl rfl rfl (fun wq hQ => ov_neq rfl rfl rfl) ?_
         refine rk_v rfl rfl rfl (fun wq hQ => ov_pick_f rfl rfl rfl) ?_
         refine rk_nil (fun w89 hQx => ?_)
         first | refine run_cond_dec rfl (fun bad => ?_) (fun bad => ?_) | refine run_cond rfl (fun bad => ?_) (fun bad => ?_)
         ·exfalso; exact bad (by rw [hck, hbk])
         ·refine run_skip <| run_inBlock <| run_region <| rl_v rfl rfl rfl (ov_move rfl rfl) <| rl_v rfl rfl rfl (ov_add rfl rfl rfl (by omega)) ?_
          refine rl_v rfl rfl rfl (ov_assign rfl rfl) <| rl_nil ?_
          refine Run.use (ih79 (k + 1) _ ?_ ?_) (And.intro (by exact slot_int rfl (by first | omega)) (And.intro rfl (And.intro rfl (And.intro rfl trivial))))
          ·first | omega | (dsimp only; omega)
          ·exact ⟨by omega, hQx.shed.shed⟩
        ·refine run_exit rfl <| run_seq <| run_region <| rl_v rfl rfl rfl (ov_move rfl rfl) ?_
         refine rl_call callable_30 rfl rfl rfl rfl rfl rfl (total_any hb w.heap.size Y [] _ w w78 hAb hYG) (fun e90 w91 hp92 => ?_)
         obtain ⟨rfl, hAe⟩ := hp92
         refine ⟨_, rfl, ?_⟩
         refine rl_v rfl rfl rfl (ov_eql rfl rfl rfl) <| rl_v rfl rfl rfl (ov_move rfl rfl) ?_
         first | refine rl_yesD 290 rfl (hYt) ?_ | refine rl_yes 290 rfl (hYt) ?_
         refine rl_gcall callable_47 rfl rfl rfl rfl rfl rfl rfl rfl (hAe.call1 (Q := fun e => e = _) (fun H hO _ => nine9_any w.heap.size H w w91 hO)) (fun e93 w94 hp95 => ?_)
         obtain ⟨rfl, hAz⟩ := hp95
         refine ⟨_, rfl, ?_⟩
         refine rl_v rfl rfl rfl (ov_pick_t rfl rfl rfl) <| rl_v rfl rfl rfl (ov_assign rfl rfl) <| rl_nil <| run_ret Try.func14 (res1 Try.results14 rfl) ?_
         exact ⟨rfl, (hAz.fr).below⟩
end Go.Proofs.Ytfbbagnpdfafjaa
