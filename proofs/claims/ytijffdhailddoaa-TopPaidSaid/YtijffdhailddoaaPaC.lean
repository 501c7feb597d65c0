import Derived.Test.YtijffdhailddoaaPaB
import Derived.Test.YtijffdhailddoaaSfE
set_option maxRecDepth 100000
namespace Go.Proofs.Ytijffdhailddoaa
open Go.RowKit Go.Proofs
theorem WAt.front {B : Nat} {w0 w : World} {A : WA} {X : MW} {Pl R : List (Option Blk)} (h : WAt B w0 w A X Pl R) : ∃ K N, Own B w0 w (R ++ (K.M A X ++ N)) ∧ WOk X K N ∧ ∀ y ∈ Pl, y ∈ N := by
 obtain ⟨K, N, hO, hK, hPl⟩ := h
 refine ⟨K, N, hO.perm ?_, hK, hPl⟩
 rw [← List.append_assoc]
 exact List.perm_append_comm
theorem WAt.unfront {B : Nat} {w0 w : World} {A : WA} {X : MW} {K : WC} {N R Pl : List (Option Blk)} (hO : Own B w0 w (R ++ (K.M A X ++ N))) (hK : WOk X K N) (hPl : ∀ y ∈ Pl, y ∈ N) : WAt B w0 w A X Pl R :=
 ⟨K, N, hO.perm (List.perm_append_comm.trans (List.append_assoc _ _ _ ▸ List.Perm.refl _)), hK, hPl⟩
theorem WAt.reR {B : Nat} {w0 w : World} {A : WA} {X : MW} {Pl R R' : List (Option Blk)} (h : WAt B w0 w A X Pl R) (hp : R.Perm R') : WAt B w0 w A X Pl R' := by
 obtain ⟨K, N, hO, hK, hPl⟩ := h
 exact ⟨K, N, hO.perm ((hp.append_left N).append_left _), hK, hPl⟩
theorem depositW (hb B : Nat) (ab : Nat) (G : Int → Value) (ca : Option Blk) (A : WA) (X : MW) (Pl R : List (Option Blk)) (w0 w : World) (hR : SRow (accs ab) 141 15 2 (fun _ => acc0) ca) (h : WAt B w0 w A X Pl (some (lch hb 136 (hcl 1 G (accs ab))) :: ca :: R)) :
  Calls Try.prog 35 #[ptr hb, iv 1, iv 7] w fun e w' => e = .returned (iv 0) ∧ ∃ c2, SRow (accs ab) 141 15 2 (upd (fun _ => acc0) 0 acc7) c2 ∧ WAt B w0 w' A X Pl (some (lch hb 136 (hcl 1 G (accs ab))) :: c2 :: R) := by
 obtain ⟨K, N, hO, hK, hPl⟩ := h.front
 exact (deposit_1 hb B ab G ca _ w0 w hR hO).mono fun e w' ⟨h1, c2, h2, h3⟩ => ⟨h1, c2, h2, WAt.unfront (R := _ :: c2 :: R) h3 hK hPl⟩
theorem totalW (hb B : Nat) (ab : Nat) (G : Int → Value) (ca : Option Blk) (A : WA) (X : MW) (Pl R : List (Option Blk)) (w0 w : World) (hR : SRow (accs ab) 141 15 2 (upd (fun _ => acc0) 0 acc7) ca) (h : WAt B w0 w A X Pl (some (lch hb 136 (hcl 1 G (accs ab))) :: ca :: R)) :
  Calls Try.prog 36 #[ptr hb] w fun e w' => e = .returned (iv 7) ∧ Own B w0 w' R := by
 obtain ⟨K, N, hO, hK, hPl⟩ := h.front
 exact (total_7 hb B ab G ca _ w0 w hR hO).mono fun e w' ⟨h1, h3⟩ => ⟨h1, h3.sub (.cons _ (.cons _ (List.sublist_append_left _ _)))⟩
def niX : MW := MW.init 2 2 [5, 0] [0, 5]
theorem ni5 : bcode niX ⟨1, 2, 1, 1⟩ = 0 := by kernel_rfl
theorem beginNi (A : WA) (B : Nat) (R : List (Option Blk)) (w0 w : World) (h : WAt B w0 w A niX [] R) :
  Calls Try.prog 8 #[ptr A.W, .agg #[iv 1, iv 2, iv 1, iv 1]] w fun e w' => e = .returned (.tuple #[iv 1, iv 0]) ∧ WAt B w0 w' A (niX.begin ⟨1, 2, 1, 1⟩) [] R :=
 (begin_any A niX ⟨1, 2, 1, 1⟩ B [] R w0 w (Good.init (by decide) (by decide) rfl rfl (by decide) (by decide)) (by decide) h).mono fun e w' h => by
  rw [ni5] at h
  exact h
theorem nine_any (B : Nat) (H : List (Option Blk)) (w0 w : World) (hO : Own B w0 w H) :
  Calls Try.prog 13 #[] w fun e w' => e = .returned (.bool true) ∧ Own B w0 w' H := by
 refine calls_of_run (F := []) Try.func13 rfl Try.ntmps13 rfl rfl <| run_seq <| run_region <| rl_v rfl rfl rfl (ov_assign rfl rfl) <| rl_nil <| run_seq <| run_region <| rl_ow rfl (ow_build1 [_] rfl rfl rfl rfl rfl Try.underlying23 info_2 (by decide) hO rfl rfl) ?_
 rintro _ w1 ⟨b8, rfl, hO2, hs3⟩
 have s0 : SrcI (some (vch b8 2 1 fun i => [Value.int IntKind.i64 10].getD i.toNat undef) :: H) (some ⟨b8, 0, none⟩) 1 (fun _ => 10) := fun B w0 w hO => (hO.reads 0 rfl 1 (Nat.le_refl _)).congr fun i hi => by
  have : i = 0 := by omega
  subst this
  rfl
 have hrd : ∀ (w1 : World) (H1 : List (Option Blk)), Own B w0 w1 H1 → List.Sublist (some (vch b8 2 1 fun i => [Value.int IntKind.i64 10].getD i.toNat undef) :: H) H1 → w1.cell? ⟨b8, 0, none⟩ = some (iv 10) := fun w1 H1 h1 hs => (h1.sub hs).cell 0 rfl 0 Nat.zero_lt_one
 refine rl_v rfl rfl rfl (ov_buildL rfl lay_103 rfl (us := [_, _, _, _, _, _]) rfl) ?_
 refine rl_call callable_34 rfl rfl rfl rfl rfl rfl (houseNew b8 B _ w0 w1 hO2 s0 hrd) (fun e4 w5 hp6 => ?_)
 obtain ⟨hb, ab, ca, G, rfl, hRa, hOh⟩ := hp6
 refine ⟨_, rfl, ?_⟩
 refine rl_v rfl rfl rfl (ov_move rfl rfl) <| rl_v rfl rfl rfl (ov_extract rfl rfl (by rfl)) ?_
 refine rl_v rfl rfl rfl (ov_extract rfl rfl (by rfl)) ?_
 refine rl_v rfl rfl rfl (ov_assign rfl rfl) <| rl_v rfl rfl rfl (ov_assign rfl rfl) <| rl_nil <| run_seq <| run_region <| rl_ow rfl (ow_build1 [_, _] rfl rfl rfl rfl rfl Try.underlying23 info_2 (by decide) hOh rfl rfl) ?_
 rintro _ w7 ⟨b14, rfl, hO8, hs9⟩
 refine rl_ow rfl (ow_build1 [_, _] rfl rfl rfl rfl rfl Try.underlying23 info_2 (by decide) hO8 rfl rfl) ?_
 rintro _ w10 ⟨b15, rfl, hO11, hs12⟩
 have s1 : SrcI (some (vch b15 2 2 fun i => [Value.int IntKind.i64 0, Value.int IntKind.i64 5].getD i.toNat undef) :: some (vch b14 2 2 fun i => [Value.int IntKind.i64 5, Value.int IntKind.i64 0].getD i.toNat undef) :: some (lch hb 136 (hcl 1 G (accs ab))) :: ca :: some (vch b8 2 1 fun i => [Value.int IntKind.i64 10].getD i.toNat undef) :: H) (some ⟨b14, 0, none⟩) 2 (gl [5, 0]) := fun B w0 w hO => (hO.reads 1 rfl 2 (Nat.le_refl _)).congr fun i hi => by
  have : i = 0 ∨ i = 1 := by omega
  rcases this with rfl | rfl <;> rfl
 have s2 : SrcI (some (vch b15 2 2 fun i => [Value.int IntKind.i64 0, Value.int IntKind.i64 5].getD i.toNat undef) :: some (vch b14 2 2 fun i => [Value.int IntKind.i64 5, Value.int IntKind.i64 0].getD i.toNat undef) :: some (lch hb 136 (hcl 1 G (accs ab))) :: ca :: some (vch b8 2 1 fun i => [Value.int IntKind.i64 10].getD i.toNat undef) :: H) (some ⟨b15, 0, none⟩) 2 (gl [0, 5]) := fun B w0 w hO => (hO.reads 0 rfl 2 (Nat.le_refl _)).congr fun i hi => by
  have : i = 0 ∨ i = 1 := by omega
  rcases this with rfl | rfl <;> rfl
 refine rl_v rfl rfl rfl (ov_buildL rfl lay_26 rfl (us := [_, _, _, _]) rfl) ?_
 refine rl_call callable_7 rfl rfl rfl rfl rfl rfl (newOk 2 2 [5, 0] [0, 5] (some ⟨b14, 0, none⟩) (some ⟨b15, 0, none⟩) 2 2 B _ w0 w10 hO11 s1 s2 (by decide) (by decide) rfl rfl (by decide) (by decide)) (fun e13 w14 hp15 => ?_)
 obtain ⟨A, rfl, hW⟩ := hp15
 refine ⟨_, rfl, ?_⟩
 have hW1 := hW.reR (List.Perm.trans (List.perm_middle (l₁ := [_, _])) (List.Perm.cons _ (List.perm_middle (l₁ := [_, _]))))
 refine rl_v rfl rfl rfl (ov_move rfl rfl) <| rl_v rfl rfl rfl (ov_extract rfl rfl (by rfl)) ?_
 refine rl_v rfl rfl rfl (ov_extract rfl rfl (by rfl)) ?_
 refine rl_v rfl rfl rfl (ov_assign rfl rfl) <| rl_v rfl rfl rfl (ov_assign rfl rfl) <| rl_nil <| run_seq <| run_seq <| run_region <| rl_v rfl rfl rfl (ov_move rfl rfl) <| rl_v rfl rfl rfl (ov_neq rfl rfl rfl) <| rl_v rfl rfl rfl (ov_move rfl rfl) ?_
 first | refine rl_noD 22 rfl (fun h => h rfl) ?_ | refine rl_no 22 rfl (fun h => h rfl) ?_
 refine rl_gv rfl rfl rfl rfl rfl (ov_move rfl rfl) <| rl_gv rfl rfl rfl rfl rfl (ov_neq rfl rfl rfl) <| rl_v rfl rfl rfl (ov_pick_f rfl rfl rfl) <| rl_v rfl rfl rfl (ov_move rfl rfl) ?_
 first | refine rl_noD 26 rfl (fun h => h rfl) ?_ | refine rl_no 26 rfl (fun h => h rfl) ?_
 refine rl_gv rfl rfl rfl rfl rfl (ov_move rfl rfl) <| rl_gv rfl rfl rfl rfl rfl (ov_ptrnil rfl Try.underlying99 rfl) <| rl_v rfl rfl rfl (ov_pick_f rfl rfl rfl) <| rl_v rfl rfl rfl (ov_move rfl rfl) <| rl_gv rfl rfl rfl rfl rfl (ov_move rfl rfl) <| rl_gv rfl rfl rfl rfl rfl (ov_ptrnil rfl Try.underlying34 rfl) <| rl_v rfl rfl rfl (ov_pick_f rfl rfl rfl) <| rl_v rfl rfl rfl (ov_move rfl rfl) <| rl_gv rfl rfl rfl rfl rfl (ov_move rfl rfl) ?_
 refine rl_gcall callable_35 rfl rfl rfl rfl rfl rfl rfl rfl (depositW hb B ab G ca A niX [] _ w0 w14 hRa hW1) (fun e16 w17 hp18 => ?_)
 obtain ⟨rfl, c2, hR2, hW2⟩ := hp18
 refine ⟨_, rfl, ?_⟩
 refine rl_gv rfl rfl rfl rfl rfl (ov_neq rfl rfl rfl) <| rl_v rfl rfl rfl (ov_pick_f rfl rfl rfl) <| rl_nil <| run_cond_f rfl <| run_skip <| run_seq <| run_region <| rl_v rfl rfl rfl (ov_move rfl rfl) <| rl_v rfl rfl rfl (ov_buildL rfl lay_42 rfl (us := [_, _, _, _]) rfl) ?_
 refine rl_call callable_8 rfl rfl rfl rfl rfl rfl (beginNi A B _ w0 w17 hW2) (fun e19 w20 hp21 => ?_)
 obtain ⟨rfl, hW3⟩ := hp21
 refine ⟨_, rfl, ?_⟩
 refine rl_v rfl rfl rfl (ov_move rfl rfl) <| rl_v rfl rfl rfl (ov_extract rfl rfl (by rfl)) ?_
 refine rl_v rfl rfl rfl (ov_extract rfl rfl (by rfl)) ?_
 refine rl_v rfl rfl rfl (ov_assign rfl rfl) <| rl_v rfl rfl rfl (ov_assign rfl rfl) <| rl_nil <| run_seq <| run_region <| rl_v rfl rfl rfl (ov_move rfl rfl) <| rl_v rfl rfl rfl (ov_eql rfl rfl rfl) <| rl_v rfl rfl rfl (ov_move rfl rfl) ?_
 first | refine rl_yesD 47 rfl (rfl) ?_ | refine rl_yes 47 rfl (rfl) ?_
 refine rl_gv rfl rfl rfl rfl rfl (ov_move rfl rfl) <| rl_gv rfl rfl rfl rfl rfl (ov_eql rfl rfl rfl) <| rl_v rfl rfl rfl (ov_pick_t rfl rfl rfl) <| rl_v rfl rfl rfl (ov_move rfl rfl) ?_
 first | refine rl_yesD 51 rfl (rfl) ?_ | refine rl_yes 51 rfl (rfl) ?_
 refine rl_gv rfl rfl rfl rfl rfl (ov_move rfl rfl) ?_
 refine rl_gcall callable_36 rfl rfl rfl rfl rfl rfl rfl rfl (totalW hb B ab G c2 A _ [] _ w0 w20 hR2 hW3) (fun e22 w23 hp24 => ?_)
 obtain ⟨rfl, hO4⟩ := hp24
 refine ⟨_, rfl, ?_⟩
 refine rl_gv rfl rfl rfl rfl rfl (ov_eql rfl rfl rfl) <| rl_v rfl rfl rfl (ov_pick_t rfl rfl rfl) <| rl_v rfl rfl rfl (ov_assign rfl rfl) <| rl_nil <| run_ret Try.func13 (res1 Try.results13 rfl) ?_
 exact ⟨rfl, hO4.tail.tail.tail⟩
end Go.Proofs.Ytijffdhailddoaa
