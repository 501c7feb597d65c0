import Derived.Test.YtfbbagnpdfafjaaSfC
import Derived.Test.YtfbbagnpdfafjaaHaB
import Derived.Test.YtfbbagnpdfafjaaHaQ
import Derived.Test.YtfbbagnpdfafjaaHaT
import Derived.Test.YtfbbagnpdfafjaaHaZ
set_option maxRecDepth 100000
namespace Go.Proofs.Ytfbbagnpdfafjaa
open Go.RowKit Go.Proofs
theorem mem_app2 {A : WA} {X : MW} {K : WC} {N R : List (Option Blk)} : ∀ x ∈ N, x ∈ K.M A X ++ (N ++ R) := fun _ hx => List.mem_append_right _ (List.mem_append_left _ hx)
theorem balances_any (A : WA) (X : MW) (n : Int) (B : Nat) (Pl R : List (Option Blk)) (w0 w : World) (hn : n = 1 ∨ n = 2) (hG : Good X) (h : WAt B w0 w A X Pl R) :
  Calls Try.prog 53 #[ptr A.W, iv n] w fun e w' => ∃ v c, e = .returned (.tuple #[v, iv 0]) ∧ IRow v 2 (X.fst n).length (fun i => iv (X.bal n i)) c ∧ WAt B w0 w' A X Pl (c :: R) := by
 obtain ⟨K, N, hO, hK, hPl⟩ := h
 obtain ⟨k, rv, fv, hk4, hk, hr, hv⟩ := hK.site A hn
 refine calls_of_run (F := [(0, _), (1, _)]) Try.func53 rfl Try.ntmps53 rfl rfl <| run_seq <| run_region <| rl_v rfl rfl rfl (ov_assign rfl rfl) <| rl_v rfl rfl rfl (ov_assign rfl rfl) <| rl_nil <| run_seq <| run_region <| rl_v rfl rfl rfl (ov_move rfl rfl) <| rl_v rfl rfl rfl (ov_move rfl rfl) ?_
 refine rl_call callable_106 rfl rfl rfl rfl rfl rfl (site_any A X K n 0 B _ w0 w hn hO rfl) (fun e1 w2 hp3 => ?_)
 obtain ⟨rfl, hOa⟩ := hp3
 refine ⟨_, rfl, ?_⟩
 refine rl_v rfl rfl rfl (ov_move rfl rfl) <| rl_v rfl rfl rfl (ov_extract rfl rfl (by rfl)) ?_
 refine rl_v rfl rfl rfl (ov_extract rfl rfl (by rfl)) ?_
 refine rl_v rfl rfl rfl (ov_assign rfl rfl) <| rl_v rfl rfl rfl (ov_assign rfl rfl) <| rl_nil <| run_seq <| run_seq <| run_region <| rl_v rfl rfl rfl (ov_move rfl rfl) <| rl_v rfl rfl rfl (ov_neq rfl rfl rfl) <| rl_nil ?_
 first | refine run_cond_dec rfl (fun g1 => ?_) (fun g1n => ?_) | refine run_cond rfl (fun g1 => ?_) (fun g1n => ?_)
 ·exfalso; exact g1 rfl
 ·refine run_skip <| run_seq <| run_region <| rl_v rfl rfl rfl (ov_move rfl rfl) ?_
  refine rl_call callable_107 rfl rfl rfl rfl rfl rfl (accounts_any A X K n rv fv k 0 B _ N w0 w2 hn hG hOa (hk _) rfl hK hr hv mem_app2) (fun e4 w5 hp6 => ?_)
  obtain ⟨v1, v2, c1, c2, rfl, hR1, hR2, hOb⟩ := hp6
  refine ⟨_, rfl, ?_⟩
  refine rl_v rfl rfl rfl (ov_move rfl rfl) <| rl_v rfl rfl rfl (ov_extract rfl rfl (by rfl)) ?_
  refine rl_v rfl rfl rfl (ov_extract rfl rfl (by rfl)) ?_
  refine rl_v rfl rfl rfl (ov_assign rfl rfl) <| rl_v rfl rfl rfl (ov_assign rfl rfl) <| rl_nil <| run_seq <| run_region <| rl_v rfl rfl rfl (ov_move rfl rfl) <| rl_v rfl rfl rfl (ov_assign rfl rfl) <| rl_v rfl rfl rfl (ov_assign rfl rfl) <| rl_nil <| run_ret Try.func53 (res2 Try.results53 rfl rfl) ?_
  exact ⟨v1, c1, rfl, hR1, WAt.push hOb.tail hK hPl⟩
instance (n : Int) : Decidable (N3 n) := by unfold N3; exact inferInstance
def TogOk (a b : Int) : Prop := ¬ (a = 2 ∧ b ≠ 2 ∧ b ≠ 1 ∨ b = 2 ∧ a ≠ 2 ∧ a ≠ 1)
instance (a b : Int) : Decidable (TogOk a b) := by unfold TogOk; exact inferInstance
theorem okCfg {mem pat : Int} {f1 f2 : List Int} (hm : 1 ≤ mem ∧ mem ≤ 1000) (hp : 1 ≤ pat ∧ pat ≤ 1000) (h1 : (f1.length : Int) = mem) (h2 : (f2.length : Int) = mem) (hf1 : ∀ x ∈ f1, 0 ≤ x ∧ x ≤ 1000000000000) (hf2 : ∀ x ∈ f2, 0 ≤ x ∧ x ≤ 1000000000000) : ¬ CfgBad mem pat f1 f2 := by
 have key : ∀ f : List Int, (∀ x ∈ f, 0 ≤ x ∧ x ≤ 1000000000000) → ¬ BadP (gl f) f.length := by
  rintro f hf ⟨i, h0, h1, h2⟩
  have := hf (f.getD i.toNat 0) (by rw [List.getD_eq_getElem?_getD, List.getElem?_eq_getElem (by omega)]; exact List.getElem_mem _)
  unfold gl at h2
  omega
 have k1 := key f1 hf1
 have k2 := key f2 hf2
 unfold CfgBad
 rintro (h | h | h | h | h | h | h | h)
 ·omega
 ·omega
 ·omega
 ·omega
 ·exact h h1
 ·exact h h2
 ·exact k1 h
 ·exact k2 h
theorem newOk (mem pat : Int) (f1 f2 : List Int) (ma ga : Option Addr) (mc gc B : Nat) (H : List (Option Blk)) (w0 w : World) (hO : Own B w0 w H) (h1 : SrcI H ma f1.length (gl f1)) (h2 : SrcI H ga f2.length (gl f2)) (hm : 1 ≤ mem ∧ mem ≤ 1000) (hp : 1 ≤ pat ∧ pat ≤ 1000) (hl1 : (f1.length : Int) = mem) (hl2 : (f2.length : Int) = mem) (hf1 : ∀ x ∈ f1, 0 ≤ x ∧ x ≤ 1000000000000) (hf2 : ∀ x ∈ f2, 0 ≤ x ∧ x ≤ 1000000000000) :
  Calls Try.prog 50 #[.agg #[iv mem, iv pat, .slice ma f1.length mc, .slice ga f2.length gc]] w fun e w' => ∃ A, e = .returned (.tuple #[ptr A.W, iv 0]) ∧ WAt B w0 w' A (MW.init mem pat f1 f2) [] H :=
 (new8_any mem pat f1 f2 ma ga mc gc B H w0 w hO h1 h2 (by omega) (by omega)).mono fun _ _ h => h.elim (fun h => absurd h.1 (okCfg hm hp hl1 hl2 hf1 hf2)) (fun h => h.2)
theorem Good.init {mem pat : Int} {f1 f2 : List Int} (hm : 1 ≤ mem ∧ mem ≤ 1000) (hp : 1 ≤ pat ∧ pat ≤ 1000) (hl1 : (f1.length : Int) = mem) (hl2 : (f2.length : Int) = mem) (hf1 : ∀ x ∈ f1, 0 ≤ x ∧ x ≤ 1000000000000) (hf2 : ∀ x ∈ f2, 0 ≤ x ∧ x ≤ 1000000000000) : Good (MW.init mem pat f1 f2) := by
 have hz : ∀ n, ((MW.init mem pat f1 f2).lg n) = Lg.z := fun n => by unfold MW.lg; split; rfl; split <;> rfl
 have hf : ∀ n, (MW.init mem pat f1 f2).fst n = if n = 1 then f1 else f2 := fun n => rfl
 refine ⟨⟨hm, hp, fun n _ => ?_, fun n _ => ?_, Nat.zero_le _, fun d h1 h2 => ?_, fun n _ r hr => ?_, fun n _ => ?_, fun n _ => ?_, fun n _ => ?_, fun m hm => ?_, fun d => ?_, fun d => ?_⟩, fun d hd => ?_⟩
 ·rw [hf]; split; exact hl1; exact hl2
 ·rw [hf]; split; exact hf1; exact hf2
 ·have : d ≤ 0 := h2; omega
 ·rw [hz] at hr; exact nomatch hr
 ·rw [hz]; exact List.nodup_nil
 ·rw [hz]; exact ⟨Int.le_refl _, show (0 : Int) ≤ _ by decide⟩
 ·rw [hz]; exact Nat.le_refl _
 ·exact nomatch hm
 ·exact ⟨Int.le_refl _, show (0 : Int) < pat by omega⟩
 ·exact ⟨Int.le_refl _, show (0 : Int) ≤ 4 by decide⟩
 ·exact absurd (show (0 : Int) = 1 from hd) (by decide)
theorem WAt.own {B : Nat} {w0 w : World} {A : WA} {X : MW} {Pl R : List (Option Blk)} (h : WAt B w0 w A X Pl R) : Own B w0 w R := by
 obtain ⟨K, N, hO, _⟩ := h
 exact hO.sub ((List.sublist_append_right N R).trans (List.sublist_append_right _ _))
end Go.Proofs.Ytfbbagnpdfafjaa
set_option maxRecDepth 100000
namespace Go.Proofs.Ytfbbagnpdfafjaa
open Go.RowKit Go.Proofs
theorem WAt.front9 {B : Nat} {w0 w : World} {A : WA} {X : MW} {Pl R : List (Option Blk)} (h : WAt B w0 w A X Pl R) : ∃ K N, Own B w0 w (R ++ (K.M A X ++ N)) ∧ WOk X K N ∧ ∀ y ∈ Pl, y ∈ N := by
 obtain ⟨K, N, hO, hK, hPl⟩ := h
 refine ⟨K, N, hO.perm ?_, hK, hPl⟩
 rw [← List.append_assoc]
 exact List.perm_append_comm
theorem WAt.unfront9 {B : Nat} {w0 w : World} {A : WA} {X : MW} {K : WC} {N R Pl : List (Option Blk)} (hO : Own B w0 w (R ++ (K.M A X ++ N))) (hK : WOk X K N) (hPl : ∀ y ∈ Pl, y ∈ N) : WAt B w0 w A X Pl R :=
 ⟨K, N, hO.perm (List.perm_append_comm.trans (List.append_assoc _ _ _ ▸ List.Perm.refl _)), hK, hPl⟩
theorem WAt.reR9 {B : Nat} {w0 w : World} {A : WA} {X : MW} {Pl R R' : List (Option Blk)} (h : WAt B w0 w A X Pl R) (hp : R.Perm R') : WAt B w0 w A X Pl R' := by
 obtain ⟨K, N, hO, hK, hPl⟩ := h
 exact ⟨K, N, hO.perm ((hp.append_left N).append_left _), hK, hPl⟩
def ni9X : MW := MW.init 2 2 [5, 0] [0, 5]
theorem ni95 : bcode ni9X ⟨1, 2, 1, 1⟩ = 0 := by kernel_rfl
theorem beginNi9 (A : WA) (B : Nat) (R : List (Option Blk)) (w0 w : World) (h : WAt B w0 w A ni9X [] R) :
  Calls Try.prog 51 #[ptr A.W, .agg #[iv 1, iv 2, iv 1, iv 1]] w fun e w' => e = .returned (.tuple #[iv 1, iv 0]) ∧ WAt B w0 w' A (ni9X.begin ⟨1, 2, 1, 1⟩) [] R :=
 (begin_any A ni9X ⟨1, 2, 1, 1⟩ B [] R w0 w (Good.init (by decide) (by decide) rfl rfl (by decide) (by decide)) (by decide) h).mono fun e w' h => by
  rw [ni95] at h
  exact h
theorem perm_in9 {a b : Option Blk} (A N R : List (Option Blk)) : (A ++ (a :: b :: (N ++ R))).Perm (a :: b :: (N ++ (A ++ R))) :=
 (List.perm_append_comm_assoc A [a, b] (N ++ R)).trans (.cons _ (.cons _ (List.perm_append_comm_assoc A N R)))
theorem WAt.house {B : Nat} {w0 w : World} {A : WA} {X : MW} {Pl R N : List (Option Blk)} {hb : Nat} {Y : HM} {K : HK} (h : WAt B w0 w A X Pl (houB hb (Y.r K) :: K.blk :: (N ++ R))) (hK : HOk Y K N) : ∃ Q L, HAt B w0 w hb Y [] (R ++ Q) ∧ Q = L ∧ ∀ {w' : World} {Y' : HM}, HAt B w0 w' hb Y' [] (R ++ Q) → ∃ K' N', WAt B w0 w' A X Pl (houB hb (Y'.r K') :: K'.blk :: (N' ++ R)) ∧ HOk Y' K' N' := by
 obtain ⟨K1, N1, hO, hW, hPl⟩ := h.front9
 refine ⟨K1.M A X ++ N1, _, ⟨K, N, hO.perm ?_, hK, List.nil_sublist _⟩, rfl, fun {w' Y'} h' => ?_⟩
 ·show List.Perm (houB hb (Y.r K) :: K.blk :: ((N ++ R) ++ (K1.M A X ++ N1))) _
  rw [List.append_assoc]
 ·obtain ⟨K', N', hO', hK', _⟩ := h'
  refine ⟨K', N', WAt.unfront9 (R := houB hb (Y'.r K') :: K'.blk :: (N' ++ R)) (hO'.perm ?_) hW hPl, hK'⟩
  show List.Perm _ (houB hb (Y'.r K') :: K'.blk :: ((N' ++ R) ++ (K1.M A X ++ N1)))
  rw [List.append_assoc]
def ni9H : HM := HM.new 2 1 0 (fun _ => 10) (fun _ _ => 0) 0 0
theorem ni9A : ni9H.mny 1 7 = 0 := by kernel_rfl
theorem ni9B : (ni9H.deposit 1 7).total = 7 := by kernel_rfl
theorem ni9G : HB 0 ni9H := HB.new (by decide) (by decide) (by decide) (fun m _ _ => by decide) (fun i i0 i1 => by omega) (by decide) (by decide)
theorem nine9_any (B : Nat) (H : List (Option Blk)) (w0 w : World) (hO : Own B w0 w H) :
  Calls Try.prog 47 #[] w fun e w' => e = .returned (.bool true) ∧ Own B w0 w' H := by
 have g1 := ni9G.deposit 1 7
 refine calls_of_run (F := []) Try.func47 rfl Try.ntmps47 rfl rfl <| run_seq <| run_region <| rl_v rfl rfl rfl (ov_assign rfl rfl) <| rl_nil <| run_seq <| run_region <| rl_ow rfl (ow_build1 [_] rfl rfl rfl rfl rfl Try.underlying22 info_2 (by decide) hO rfl rfl) ?_
 rintro _ w1 ⟨b8, rfl, hO2, hs3⟩
 have s0 : SrcI (some (vch b8 2 1 fun i => [Value.int IntKind.i64 10].getD i.toNat undef) :: H) (some ⟨b8, 0, none⟩) 1 (fun _ => 10) := fun B w0 w hO => (hO.reads 0 rfl 1 (Nat.le_refl _)).congr fun i hi => by
  have : i = 0 := by omega
  subst this
  rfl
 have s9 : TSrc (some (vch b8 2 1 fun i => [Value.int IntKind.i64 10].getD i.toNat undef) :: H) none 0 (fun _ => 1) (fun _ _ => 0) := ⟨fun _ => none, fun _ => 0, fun B w0 w hO => IAt.nil _ _ _ _, fun r r0 r1 => by omega, fun r r0 r1 => by omega⟩
 refine rl_v rfl rfl rfl (ov_buildL rfl lay_40 rfl (us := [_, _, _, _, _, _]) rfl) ?_
 refine rl_call callable_17 rfl rfl rfl rfl rfl rfl (newGood 2 1 (some ⟨b8, 0, none⟩) none 1 1 0 0 0 0 (fun _ => 10) (fun _ => 1) (fun _ _ => 0) B _ w0 w1 hO2 s0 s9 (by decide) (by decide) (by decide) (by decide) (by decide) (by decide) (fun _ _ i1 => by omega) (fun _ _ _ => by decide) (fun _ i0 i1 => by omega)) (fun e4 w5 hp6 => ?_)
 obtain ⟨hb, rfl, hA0⟩ := hp6
 refine ⟨_, rfl, ?_⟩
 obtain ⟨K0, N0, hO1, hK0, _⟩ := hA0
 replace hO1 : Own B w0 w5 (houB hb (ni9H.r K0) :: K0.blk :: (N0 ++ (some (vch b8 2 1 fun i => [Value.int IntKind.i64 10].getD i.toNat undef) :: H))) := hO1
 replace hK0 : HOk ni9H K0 N0 := hK0
 refine rl_v rfl rfl rfl (ov_move rfl rfl) <| rl_v rfl rfl rfl (ov_extract rfl rfl (by rfl)) ?_
 refine rl_v rfl rfl rfl (ov_extract rfl rfl (by rfl)) ?_
 refine rl_v rfl rfl rfl (ov_assign rfl rfl) <| rl_v rfl rfl rfl (ov_assign rfl rfl) <| rl_nil <| run_seq <| run_region <| rl_ow rfl (ow_build1 [_, _] rfl rfl rfl rfl rfl Try.underlying22 info_2 (by decide) hO1 rfl rfl) ?_
 rintro _ w7 ⟨b14, rfl, hO8, hs9⟩
 refine rl_ow rfl (ow_build1 [_, _] rfl rfl rfl rfl rfl Try.underlying22 info_2 (by decide) hO8 rfl rfl) ?_
 rintro _ w10 ⟨b15, rfl, hO11, hs12⟩
 have s1 : SrcI (some (vch b15 2 2 fun i => [Value.int IntKind.i64 0, Value.int IntKind.i64 5].getD i.toNat undef) :: some (vch b14 2 2 fun i => [Value.int IntKind.i64 5, Value.int IntKind.i64 0].getD i.toNat undef) :: houB hb (ni9H.r K0) :: K0.blk :: (N0 ++ (some (vch b8 2 1 fun i => [Value.int IntKind.i64 10].getD i.toNat undef) :: H))) (some ⟨b14, 0, none⟩) 2 (gl [5, 0]) := fun B w0 w hO => (hO.reads 1 rfl 2 (Nat.le_refl _)).congr fun i hi => by
  have : i = 0 ∨ i = 1 := by omega
  rcases this with rfl | rfl <;> rfl
 have s2 : SrcI (some (vch b15 2 2 fun i => [Value.int IntKind.i64 0, Value.int IntKind.i64 5].getD i.toNat undef) :: some (vch b14 2 2 fun i => [Value.int IntKind.i64 5, Value.int IntKind.i64 0].getD i.toNat undef) :: houB hb (ni9H.r K0) :: K0.blk :: (N0 ++ (some (vch b8 2 1 fun i => [Value.int IntKind.i64 10].getD i.toNat undef) :: H))) (some ⟨b15, 0, none⟩) 2 (gl [0, 5]) := fun B w0 w hO => (hO.reads 0 rfl 2 (Nat.le_refl _)).congr fun i hi => by
  have : i = 0 ∨ i = 1 := by omega
  rcases this with rfl | rfl <;> rfl
 refine rl_v rfl rfl rfl (ov_buildL rfl lay_104 rfl (us := [_, _, _, _]) rfl) ?_
 refine rl_call callable_50 rfl rfl rfl rfl rfl rfl (newOk 2 2 [5, 0] [0, 5] (some ⟨b14, 0, none⟩) (some ⟨b15, 0, none⟩) 2 2 B _ w0 w10 hO11 s1 s2 (by decide) (by decide) rfl rfl (by decide) (by decide)) (fun e13 w14 hp15 => ?_)
 obtain ⟨A, rfl, hW⟩ := hp15
 refine ⟨_, rfl, ?_⟩
 have hW1 : WAt B w0 w14 A ni9X [] (houB hb (ni9H.r K0) :: K0.blk :: (N0 ++ (some (vch b15 2 2 fun i => [Value.int IntKind.i64 0, Value.int IntKind.i64 5].getD i.toNat undef) :: some (vch b14 2 2 fun i => [Value.int IntKind.i64 5, Value.int IntKind.i64 0].getD i.toNat undef) :: some (vch b8 2 1 fun i => [Value.int IntKind.i64 10].getD i.toNat undef) :: H))) := hW.reR9 (perm_in9 [_, _] N0 _)
 obtain ⟨Q, _, hA1, _, hback⟩ := hW1.house hK0
 refine rl_v rfl rfl rfl (ov_move rfl rfl) <| rl_v rfl rfl rfl (ov_extract rfl rfl (by rfl)) ?_
 refine rl_v rfl rfl rfl (ov_extract rfl rfl (by rfl)) ?_
 refine rl_v rfl rfl rfl (ov_assign rfl rfl) <| rl_v rfl rfl rfl (ov_assign rfl rfl) <| rl_nil <| run_seq <| run_seq <| run_region <| rl_v rfl rfl rfl (ov_move rfl rfl) <| rl_v rfl rfl rfl (ov_neq rfl rfl rfl) <| rl_v rfl rfl rfl (ov_move rfl rfl) ?_
 first | refine rl_noD 22 rfl (fun h => h rfl) ?_ | refine rl_no 22 rfl (fun h => h rfl) ?_
 refine rl_gv rfl rfl rfl rfl rfl (ov_move rfl rfl) <| rl_gv rfl rfl rfl rfl rfl (ov_neq rfl rfl rfl) <| rl_v rfl rfl rfl (ov_pick_f rfl rfl rfl) <| rl_v rfl rfl rfl (ov_move rfl rfl) ?_
 first | refine rl_noD 26 rfl (fun h => h rfl) ?_ | refine rl_no 26 rfl (fun h => h rfl) ?_
 refine rl_gv rfl rfl rfl rfl rfl (ov_move rfl rfl) <| rl_gv rfl rfl rfl rfl rfl (ov_ptrnil rfl Try.underlying30 rfl) <| rl_v rfl rfl rfl (ov_pick_f rfl rfl rfl) <| rl_v rfl rfl rfl (ov_move rfl rfl) <| rl_gv rfl rfl rfl rfl rfl (ov_move rfl rfl) <| rl_gv rfl rfl rfl rfl rfl (ov_ptrnil rfl Try.underlying100 rfl) <| rl_v rfl rfl rfl (ov_pick_f rfl rfl rfl) <| rl_v rfl rfl rfl (ov_move rfl rfl) <| rl_gv rfl rfl rfl rfl rfl (ov_move rfl rfl) ?_
 refine rl_gcall callable_23 rfl rfl rfl rfl rfl rfl rfl rfl (deposit_any hb B ni9H 1 7 [] _ w0 w14 hA1 (ni9G.hg (by decide))) (fun e16 w17 hp18 => ?_)
 obtain ⟨rfl, hA2⟩ := hp18
 refine ⟨_, rfl, ?_⟩
 obtain ⟨K2, N2, hW2, hK2⟩ := hback hA2
 refine rl_gv rfl rfl rfl rfl rfl (ov_neq rfl rfl rfl) <| rl_v rfl rfl rfl (ov_pick_f rfl rfl rfl) <| rl_nil ?_
 first | refine run_cond_dec rfl (fun bad => ?_) (fun bad => ?_) | refine run_cond rfl (fun bad => ?_) (fun bad => ?_)
 ·exfalso; exact bad ni9A
 ·refine run_skip <| run_seq <| run_region <| rl_v rfl rfl rfl (ov_move rfl rfl) <| rl_v rfl rfl rfl (ov_buildL rfl lay_109 rfl (us := [_, _, _, _]) rfl) ?_
  refine rl_call callable_51 rfl rfl rfl rfl rfl rfl (beginNi9 A B _ w0 w17 hW2) (fun e19 w20 hp21 => ?_)
  obtain ⟨rfl, hW3⟩ := hp21
  refine ⟨_, rfl, ?_⟩
  obtain ⟨Q3, _, hA3, _, hback3⟩ := hW3.house hK2
  refine rl_v rfl rfl rfl (ov_move rfl rfl) <| rl_v rfl rfl rfl (ov_extract rfl rfl (by rfl)) ?_
  refine rl_v rfl rfl rfl (ov_extract rfl rfl (by rfl)) ?_
  refine rl_v rfl rfl rfl (ov_assign rfl rfl) <| rl_v rfl rfl rfl (ov_assign rfl rfl) <| rl_nil <| run_seq <| run_region <| rl_v rfl rfl rfl (ov_move rfl rfl) <| rl_v rfl rfl rfl (ov_eql rfl rfl rfl) <| rl_v rfl rfl rfl (ov_move rfl rfl) ?_
  first | refine rl_yesD 47 rfl (rfl) ?_ | refine rl_yes 47 rfl (rfl) ?_
  refine rl_gv rfl rfl rfl rfl rfl (ov_move rfl rfl) <| rl_gv rfl rfl rfl rfl rfl (ov_eql rfl rfl rfl) <| rl_v rfl rfl rfl (ov_pick_t rfl rfl rfl) <| rl_v rfl rfl rfl (ov_move rfl rfl) ?_
  first | refine rl_yesD 51 rfl (rfl) ?_ | refine rl_yes 51 rfl (rfl) ?_
  refine rl_gv rfl rfl rfl rfl rfl (ov_move rfl rfl) ?_
  refine rl_gcall callable_30 rfl rfl rfl rfl rfl rfl rfl rfl (total_any hb B (ni9H.deposit 1 7) [] _ w0 w20 hA3 (g1.hg (by decide))) (fun e22 w23 hp24 => ?_)
  obtain ⟨rfl, hA4⟩ := hp24
  refine ⟨_, rfl, ?_⟩
  refine rl_gv rfl rfl rfl rfl rfl (ov_eql rfl rfl rfl) <| rl_v rfl rfl rfl (ov_pick_t rfl rfl rfl) <| rl_v rfl rfl rfl (ov_assign rfl rfl) <| rl_nil <| run_ret Try.func47 (res1 Try.results47 rfl) ?_
  exact ⟨by rw [ni9B]; rfl, (hA4.fr).sub (.cons _ (.cons _ (.cons _ (List.sublist_append_left _ _))))⟩
end Go.Proofs.Ytfbbagnpdfafjaa
set_option maxRecDepth 100000
namespace Go.Proofs.Ytfbbagnpdfafjaa
open Go.RowKit Go.Proofs
def HM.oth (X : HM) (i j : Int) : Prop := j ≠ i - 1 ∧ (X.ac j).out = false
instance (X : HM) (i j : Int) : Decidable (X.oth i j) := by unfold HM.oth; exact inferInstance
end Go.Proofs.Ytfbbagnpdfafjaa
