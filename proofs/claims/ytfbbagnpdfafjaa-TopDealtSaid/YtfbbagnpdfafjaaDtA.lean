import Derived.Test.YtfbbagnpdfafjaaHaR
import Derived.Test.YtfbbagnpdfafjaaHaT
import Derived.Test.YtfbbagnpdfafjaaHaZ
import Derived.Test.YtfbbagnpdfafjaaSfE
set_option maxRecDepth 100000
namespace Go.Proofs.Ytfbbagnpdfafjaa
open Go.RowKit Go.Proofs
theorem WAt.front9 {B : Nat} {w0 w : World} {A : WA} {X : MW} {Pl R : List (Option Blk)} (h : WAt B w0 w A X Pl R) : ∃ K N, Own B w0 w (R ++ (K.M A X ++ N)) ∧ WOk X K N ∧ ∀ y ∈ Pl, y ∈ N := by
 obtain ⟨K, N, hO, hK, hPl⟩ := h
 refine ⟨K, N, hO.perm ?_, hK, hPl⟩
 rw [← List.append_assoc]
 exact List.perm_append_comm
theorem WAt.unfront9 {B : Nat} {w0 w : World} {A : WA} {X : MW} {K : WC} {N R Pl : List (Option Blk)} (hO : Own B w0 w (R ++ (K.M A X ++ N))) (hK : WOk X K N) (hPl : ∀ y ∈ Pl, y ∈ N) : WAt B w0 w A X Pl R :=
 ⟨K, N, hO.perm (List.perm_append_comm.trans (List.append_assoc _ _ _ ▸ List.Perm.refl _)), hK, hPl⟩
theorem WAt.reR9 {B : Nat} {w0 w : World} {A : WA} {X : MW} {Pl R R' : List (Option Blk)} (h : WAt B w0 w A X Pl R) (hp : R.Perm R') : WAt B w0 w A X Pl R' := by
 obtain ⟨K, N, hO, hK, hPl⟩ := h
 exact ⟨K, N, hO.perm ((hp.append_left N).append_left _), hK, hPl⟩
def ni9X : MW := MW.init 2 2 [5, 0] [0, 5]
theorem ni95 : bcode ni9X ⟨1, 2, 1, 1⟩ = 0 := by kernel_rfl
theorem beginNi9 (A : WA) (B : Nat) (R : List (Option Blk)) (w0 w : World) (h : WAt B w0 w A ni9X [] R) :
  Calls Try.prog 51 #[ptr A.W, .agg #[iv 1, iv 2, iv 1, iv 1]] w fun e w' => e = .returned (.tuple #[iv 1, iv 0]) ∧ WAt B w0 w' A (ni9X.begin ⟨1, 2, 1, 1⟩) [] R :=
 (begin_any A ni9X ⟨1, 2, 1, 1⟩ B [] R w0 w (Good.init (by decide) (by decide) rfl rfl (by decide) (by decide)) (by decide) h).mono fun e w' h => by
  rw [ni95] at h
  exact h
theorem perm_in9 {a b : Option Blk} (A N R : List (Option Blk)) : (A ++ (a :: b :: (N ++ R))).Perm (a :: b :: (N ++ (A ++ R))) :=
 (List.perm_append_comm_assoc A [a, b] (N ++ R)).trans (.cons _ (.cons _ (List.perm_append_comm_assoc A N R)))
theorem WAt.house {B : Nat} {w0 w : World} {A : WA} {X : MW} {Pl R N : List (Option Blk)} {hb : Nat} {Y : HM} {K : HK} (h : WAt B w0 w A X Pl (houB hb (Y.r K) :: K.blk :: (N ++ R))) (hK : HOk Y K N) : ∃ Q L, HAt B w0 w hb Y [] (R ++ Q) ∧ Q = L ∧ ∀ {w' : World} {Y' : HM}, HAt B w0 w' hb Y' [] (R ++ Q) → ∃ K' N', WAt B w0 w' A X Pl (houB hb (Y'.r K') :: K'.blk :: (N' ++ R)) ∧ HOk Y' K' N' := by
 obtain ⟨K1, N1, hO, hW, hPl⟩ := h.front9
 refine ⟨K1.M A X ++ N1, _, ⟨K, N, hO.perm ?_, hK, List.nil_sublist _⟩, rfl, fun {w' Y'} h' => ?_⟩
 ·show List.Perm (houB hb (Y.r K) :: K.blk :: ((N ++ R) ++ (K1.M A X ++ N1))) _
  rw [List.append_assoc]
 ·obtain ⟨K', N', hO', hK', _⟩ := h'
  refine ⟨K', N', WAt.unfront9 (R := houB hb (Y'.r K') :: K'.blk :: (N' ++ R)) (hO'.perm ?_) hW hPl, hK'⟩
  show List.Perm _ (houB hb (Y'.r K') :: K'.blk :: ((N' ++ R) ++ (K1.M A X ++ N1)))
  rw [List.append_assoc]
def ni9H : HM := HM.new 2 1 0 (fun _ => 10) (fun _ _ => 0) 0 0
theorem ni9A : ni9H.mny 1 7 = 0 := by kernel_rfl
theorem ni9B : (ni9H.deposit 1 7).total = 7 := by kernel_rfl
theorem ni9G : HB 0 ni9H := HB.new (by decide) (by decide) (by decide) (fun m _ _ => by decide) (fun i i0 i1 => by omega) (by decide) (by decide)
theorem nine9_any (B : Nat) (H : List (Option Blk)) (w0 w : World) (hO : Own B w0 w H) :
  Calls Try.prog 47 #[] w fun e w' => e = .returned (.bool true) ∧ Own B w0 w' H := by
 have g1 := ni9G.deposit 1 7
 refine calls_of_run (F := []) Try.func47 rfl Try.ntmps47 rfl rfl <| run_seq <| run_region <| rl_v rfl rfl rfl (ov_assign rfl rfl) <| rl_nil <| run_seq <| run_region <| rl_ow rfl (ow_build1 [_] rfl rfl rfl rfl rfl Try.underlying22 info_2 (by decide) hO rfl rfl) ?_
 rintro _ w1 ⟨b8, rfl, hO2, hs3⟩
 have s0 : SrcI (some (vch b8 2 1 fun i => [Value.int IntKind.i64 10].getD i.toNat undef) :: H) (some ⟨b8, 0, none⟩) 1 (fun _ => 10) := fun B w0 w hO => (hO.reads 0 rfl 1 (Nat.le_refl _)).congr fun i hi => by
  have : i = 0 := by omega
  subst this
  rfl
 have s9 : TSrc (some (vch b8 2 1 fun i => [Value.int IntKind.i64 10].getD i.toNat undef) :: H) none 0 (fun _ => 1) (fun _ _ => 0) := ⟨fun _ => none, fun _ => 0, fun B w0 w hO => IAt.nil _ _ _ _, fun r r0 r1 => by omega, fun r r0 r1 => by omega⟩
 refine rl_v rfl rfl rfl (ov_buildL rfl lay_40 rfl (us := [_, _, _, _, _, _]) rfl) ?_
 refine rl_call callable_17 rfl rfl rfl rfl rfl rfl (newGood 2 1 (some ⟨b8, 0, none⟩) none 1 1 0 0 0 0 (fun _ => 10) (fun _ => 1) (fun _ _ => 0) B _ w0 w1 hO2 s0 s9 (by decide) (by decide) (by decide) (by decide) (by decide) (by decide) (fun _ _ i1 => by omega) (fun _ _ _ => by decide) (fun _ i0 i1 => by omega)) (fun e4 w5 hp6 => ?_)
 obtain ⟨hb, rfl, hA0⟩ := hp6
 refine ⟨_, rfl, ?_⟩
 obtain ⟨K0, N0, hO1, hK0, _⟩ := hA0
 replace hO1 : Own B w0 w5 (houB hb (ni9H.r K0) :: K0.blk :: (N0 ++ (some (vch b8 2 1 fun i => [Value.int IntKind.i64 10].getD i.toNat undef) :: H))) := hO1
 replace hK0 : HOk ni9H K0 N0 := hK0
 refine rl_v rfl rfl rfl (ov_move rfl rfl) <| rl_v rfl rfl rfl (ov_extract rfl rfl (by rfl)) ?_
 refine rl_v rfl rfl rfl (ov_extract rfl rfl (by rfl)) ?_
 refine rl_v rfl rfl rfl (ov_assign rfl rfl) <| rl_v rfl rfl rfl (ov_assign rfl rfl) <| rl_nil <| run_seq <| run_region <| rl_ow rfl (ow_build1 [_, _] rfl rfl rfl rfl rfl Try.underlying22 info_2 (by decide) hO1 rfl rfl) ?_
 rintro _ w7 ⟨b14, rfl, hO8, hs9⟩
 refine rl_ow rfl (ow_build1 [_, _] rfl rfl rfl rfl rfl Try.underlying22 info_2 (by decide) hO8 rfl rfl) ?_
 rintro _ w10 ⟨b15, rfl, hO11, hs12⟩
 have s1 : SrcI (some (vch b15 2 2 fun i => [Value.int IntKind.i64 0, Value.int IntKind.i64 5].getD i.toNat undef) :: some (vch b14 2 2 fun i => [Value.int IntKind.i64 5, Value.int IntKind.i64 0].getD i.toNat undef) :: houB hb (ni9H.r K0) :: K0.blk :: (N0 ++ (some (vch b8 2 1 fun i => [Value.int IntKind.i64 10].getD i.toNat undef) :: H))) (some ⟨b14, 0, none⟩) 2 (gl [5, 0]) := fun B w0 w hO => (hO.reads 1 rfl 2 (Nat.le_refl _)).congr fun i hi => by
  have : i = 0 ∨ i = 1 := by omega
  rcases this with rfl | rfl <;> rfl
 have s2 : SrcI (some (vch b15 2 2 fun i => [Value.int IntKind.i64 0, Value.int IntKind.i64 5].getD i.toNat undef) :: some (vch b14 2 2 fun i => [Value.int IntKind.i64 5, Value.int IntKind.i64 0].getD i.toNat undef) :: houB hb (ni9H.r K0) :: K0.blk :: (N0 ++ (some (vch b8 2 1 fun i => [Value.int IntKind.i64 10].getD i.toNat undef) :: H))) (some ⟨b15, 0, none⟩) 2 (gl [0, 5]) := fun B w0 w hO => (hO.reads 0 rfl 2 (Nat.le_refl _)).congr fun i hi => by
  have : i = 0 ∨ i = 1 := by omega
  rcases this with rfl | rfl <;> rfl
 refine rl_v rfl rfl rfl (ov_buildL rfl lay_104 rfl (us := [_, _, _, _]) rfl) ?_
 refine rl_call callable_50 rfl rfl rfl rfl rfl rfl (newOk 2 2 [5, 0] [0, 5] (some ⟨b14, 0, none⟩) (some ⟨b15, 0, none⟩) 2 2 B _ w0 w10 hO11 s1 s2 (by decide) (by decide) rfl rfl (by decide) (by decide)) (fun e13 w14 hp15 => ?_)
 obtain ⟨A, rfl, hW⟩ := hp15
 refine ⟨_, rfl, ?_⟩
 have hW1 : WAt B w0 w14 A ni9X [] (houB hb (ni9H.r K0) :: K0.blk :: (N0 ++ (some (vch b15 2 2 fun i => [Value.int IntKind.i64 0, Value.int IntKind.i64 5].getD i.toNat undef) :: some (vch b14 2 2 fun i => [Value.int IntKind.i64 5, Value.int IntKind.i64 0].getD i.toNat undef) :: some (vch b8 2 1 fun i => [Value.int IntKind.i64 10].getD i.toNat undef) :: H))) := hW.reR9 (perm_in9 [_, _] N0 _)
 obtain ⟨Q, _, hA1, _, hback⟩ := hW1.house hK0
 refine rl_v rfl rfl rfl (ov_move rfl rfl) <| rl_v rfl rfl rfl (ov_extract rfl rfl (by rfl)) ?_
 refine rl_v rfl rfl rfl (ov_extract rfl rfl (by rfl)) ?_
 refine rl_v rfl rfl rfl (ov_assign rfl rfl) <| rl_v rfl rfl rfl (ov_assign rfl rfl) <| rl_nil <| run_seq <| run_seq <| run_region <| rl_v rfl rfl rfl (ov_move rfl rfl) <| rl_v rfl rfl rfl (ov_neq rfl rfl rfl) <| rl_v rfl rfl rfl (ov_move rfl rfl) ?_
 first | refine rl_noD 22 rfl (fun h => h rfl) ?_ | refine rl_no 22 rfl (fun h => h rfl) ?_
 refine rl_gv rfl rfl rfl rfl rfl (ov_move rfl rfl) <| rl_gv rfl rfl rfl rfl rfl (ov_neq rfl rfl rfl) <| rl_v rfl rfl rfl (ov_pick_f rfl rfl rfl) <| rl_v rfl rfl rfl (ov_move rfl rfl) ?_
 first | refine rl_noD 26 rfl (fun h => h rfl) ?_ | refine rl_no 26 rfl (fun h => h rfl) ?_
 refine rl_gv rfl rfl rfl rfl rfl (ov_move rfl rfl) <| rl_gv rfl rfl rfl rfl rfl (ov_ptrnil rfl Try.underlying30 rfl) <| rl_v rfl rfl rfl (ov_pick_f rfl rfl rfl) <| rl_v rfl rfl rfl (ov_move rfl rfl) <| rl_gv rfl rfl rfl rfl rfl (ov_move rfl rfl) <| rl_gv rfl rfl rfl rfl rfl (ov_ptrnil rfl Try.underlying100 rfl) <| rl_v rfl rfl rfl (ov_pick_f rfl rfl rfl) <| rl_v rfl rfl rfl (ov_move rfl rfl) <| rl_gv rfl rfl rfl rfl rfl (ov_move rfl rfl) ?_
 refine rl_gcall callable_23 rfl rfl rfl rfl rfl rfl rfl rfl (deposit_any hb B ni9H 1 7 [] _ w0 w14 hA1 (ni9G.hg (by decide))) (fun e16 w17 hp18 => ?_)
 obtain ⟨rfl, hA2⟩ := hp18
 refine ⟨_, rfl, ?_⟩
 obtain ⟨K2, N2, hW2, hK2⟩ := hback hA2
 refine rl_gv rfl rfl rfl rfl rfl (ov_neq rfl rfl rfl) <| rl_v rfl rfl rfl (ov_pick_f rfl rfl rfl) <| rl_nil ?_
 first | refine run_cond_dec rfl (fun bad => ?_) (fun bad => ?_) | refine run_cond rfl (fun bad => ?_) (fun bad => ?_)
 ·exfalso; exact bad ni9A
 ·refine run_skip <| run_seq <| run_region <| rl_v rfl rfl rfl (ov_move rfl rfl) <| rl_v rfl rfl rfl (ov_buildL rfl lay_109 rfl (us := [_, _, _, _]) rfl) ?_
  refine rl_call callable_51 rfl rfl rfl rfl rfl rfl (beginNi9 A B _ w0 w17 hW2) (fun e19 w20 hp21 => ?_)
  obtain ⟨rfl, hW3⟩ := hp21
  refine ⟨_, rfl, ?_⟩
  obtain ⟨Q3, _, hA3, _, hback3⟩ := hW3.house hK2
  refine rl_v rfl rfl rfl (ov_move rfl rfl) <| rl_v rfl rfl rfl (ov_extract rfl rfl (by rfl)) ?_
  refine rl_v rfl rfl rfl (ov_extract rfl rfl (by rfl)) ?_
  refine rl_v rfl rfl rfl (ov_assign rfl rfl) <| rl_v rfl rfl rfl (ov_assign rfl rfl) <| rl_nil <| run_seq <| run_region <| rl_v rfl rfl rfl (ov_move rfl rfl) <| rl_v rfl rfl rfl (ov_eql rfl rfl rfl) <| rl_v rfl rfl rfl (ov_move rfl rfl) ?_
  first | refine rl_yesD 47 rfl (rfl) ?_ | refine rl_yes 47 rfl (rfl) ?_
  refine rl_gv rfl rfl rfl rfl rfl (ov_move rfl rfl) <| rl_gv rfl rfl rfl rfl rfl (ov_eql rfl rfl rfl) <| rl_v rfl rfl rfl (ov_pick_t rfl rfl rfl) <| rl_v rfl rfl rfl (ov_move rfl rfl) ?_
  first | refine rl_yesD 51 rfl (rfl) ?_ | refine rl_yes 51 rfl (rfl) ?_
  refine rl_gv rfl rfl rfl rfl rfl (ov_move rfl rfl) ?_
  refine rl_gcall callable_30 rfl rfl rfl rfl rfl rfl rfl rfl (total_any hb B (ni9H.deposit 1 7) [] _ w0 w20 hA3 (g1.hg (by decide))) (fun e22 w23 hp24 => ?_)
  obtain ⟨rfl, hA4⟩ := hp24
  refine ⟨_, rfl, ?_⟩
  refine rl_gv rfl rfl rfl rfl rfl (ov_eql rfl rfl rfl) <| rl_v rfl rfl rfl (ov_pick_t rfl rfl rfl) <| rl_v rfl rfl rfl (ov_assign rfl rfl) <| rl_nil <| run_ret Try.func47 (res1 Try.results47 rfl) ?_
  exact ⟨by rw [ni9B]; rfl, (hA4.fr).sub (.cons _ (.cons _ (.cons _ (List.sublist_append_left _ _))))⟩
end Go.Proofs.Ytfbbagnpdfafjaa
