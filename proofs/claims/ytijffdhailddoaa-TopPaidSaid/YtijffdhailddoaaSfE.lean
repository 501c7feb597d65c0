import Derived.Test.YtijffdhailddoaaSfC
import Derived.Test.YtijffdhailddoaaNetL
set_option maxRecDepth 100000
namespace Go.Proofs.Ytijffdhailddoaa
open Go.RowKit Go.Proofs
theorem mem_app2 {A : WA} {X : MW} {K : WC} {N R : List (Option Blk)} : ∀ x ∈ N, x ∈ K.M A X ++ (N ++ R) := fun _ hx => List.mem_append_right _ (List.mem_append_left _ hx)
theorem balances_any (A : WA) (X : MW) (n : Int) (B : Nat) (Pl R : List (Option Blk)) (w0 w : World) (hn : n = 1 ∨ n = 2) (hG : Good X) (h : WAt B w0 w A X Pl R) :
  Calls Try.prog 12 #[ptr A.W, iv n] w fun e w' => ∃ v c, e = .returned (.tuple #[v, iv 0]) ∧ IRow v 2 (X.fst n).length (fun i => iv (X.bal n i)) c ∧ WAt B w0 w' A X Pl (c :: R) := by
 obtain ⟨K, N, hO, hK, hPl⟩ := h
 obtain ⟨k, rv, fv, hk4, hk, hr, hv⟩ := hK.site A hn
 refine calls_of_run (F := [(0, _), (1, _)]) Try.func12 rfl Try.ntmps12 rfl rfl <| run_seq <| run_region <| rl_v rfl rfl rfl (ov_assign rfl rfl) <| rl_v rfl rfl rfl (ov_assign rfl rfl) <| rl_nil <| run_seq <| run_region <| rl_v rfl rfl rfl (ov_move rfl rfl) <| rl_v rfl rfl rfl (ov_move rfl rfl) ?_
 refine rl_call callable_32 rfl rfl rfl rfl rfl rfl (site_any A X K n 0 B _ w0 w hn hO rfl) (fun e1 w2 hp3 => ?_)
 obtain ⟨rfl, hOa⟩ := hp3
 refine ⟨_, rfl, ?_⟩
 refine rl_v rfl rfl rfl (ov_move rfl rfl) <| rl_v rfl rfl rfl (ov_extract rfl rfl (by rfl)) ?_
 refine rl_v rfl rfl rfl (ov_extract rfl rfl (by rfl)) ?_
 refine rl_v rfl rfl rfl (ov_assign rfl rfl) <| rl_v rfl rfl rfl (ov_assign rfl rfl) <| rl_nil <| run_seq <| run_seq <| run_region <| rl_v rfl rfl rfl (ov_move rfl rfl) <| rl_v rfl rfl rfl (ov_neq rfl rfl rfl) <| rl_nil ?_
 first | refine run_cond_dec rfl (fun g1 => ?_) (fun g1n => ?_) | refine run_cond rfl (fun g1 => ?_) (fun g1n => ?_)
 ·exfalso; exact g1 rfl
 ·refine run_skip <| run_seq <| run_region <| rl_v rfl rfl rfl (ov_move rfl rfl) ?_
  refine rl_call callable_33 rfl rfl rfl rfl rfl rfl (accounts_any A X K n rv fv k 0 B _ N w0 w2 hn hG hOa (hk _) rfl hK hr hv mem_app2) (fun e4 w5 hp6 => ?_)
  obtain ⟨v1, v2, c1, c2, rfl, hR1, hR2, hOb⟩ := hp6
  refine ⟨_, rfl, ?_⟩
  refine rl_v rfl rfl rfl (ov_move rfl rfl) <| rl_v rfl rfl rfl (ov_extract rfl rfl (by rfl)) ?_
  refine rl_v rfl rfl rfl (ov_extract rfl rfl (by rfl)) ?_
  refine rl_v rfl rfl rfl (ov_assign rfl rfl) <| rl_v rfl rfl rfl (ov_assign rfl rfl) <| rl_nil <| run_seq <| run_region <| rl_v rfl rfl rfl (ov_move rfl rfl) <| rl_v rfl rfl rfl (ov_assign rfl rfl) <| rl_v rfl rfl rfl (ov_assign rfl rfl) <| rl_nil <| run_ret Try.func12 (res2 Try.results12 rfl rfl) ?_
  exact ⟨v1, c1, rfl, hR1, WAt.push hOb.tail hK hPl⟩
theorem bag_any (A : WA) (X : MW) (B : Nat) (Pl R : List (Option Blk)) (w0 w : World) (hb : X.bag.length ≤ 4000000000000) (h : WAt B w0 w A X Pl R) :
  Calls Try.prog 9 #[ptr A.W] w fun e w' => ∃ v c, e = .returned v ∧ SRow v 88 4 X.bag.length (cnt msl Ms.z X.bag) c ∧ WAt B w0 w' A X Pl (c :: R) := by
 obtain ⟨K, N, hO, hK, hPl⟩ := h
 obtain ⟨ao, cap, hbv, hcap, gb, hga, hrow⟩ := bagRow hK
 have hbg := hK.bv
 rw [hbv] at hbg
 have hsrc : Src (K.M A X ++ (N ++ R)) ao 4 X.bag.length (cnt msl Ms.z X.bag) := Src.of_row hbg (k := 5) rfl
 refine calls_of_run (F := [(0, _)]) Try.func9 rfl Try.ntmps9 rfl rfl <| run_seq <| run_region <| rl_v rfl rfl rfl (ov_assign rfl rfl) <| rl_nil <| run_seq <| run_seq <| run_region <| rl_v rfl rfl rfl (ov_move rfl rfl) <| rl_v rfl rfl rfl (ov_ptrnil rfl Try.underlying34 rfl) <| rl_nil <| run_cond_f rfl <| run_skip <| run_seq <| run_region <| rl_v rfl rfl rfl (ov_move rfl rfl) <| rl_v rfl rfl rfl (ov_nil rfl rfl) <| rl_v rfl rfl rfl (ov_fieldS rfl Try.underlying72 rfl (fo := 8) rfl (by kernel_rfl) rfl) ?_
 refine rl_v rfl rfl rfl (ov_load rfl Try.underlying43 rfl rfl (by exact hO.cellL 0 rfl (off := 8) (congrArg some hbv))) ?_
 refine rl_call callable_26 rfl rfl rfl rfl rfl rfl (cloneM_any ao X.bag.length cap B (cnt msl Ms.z X.bag) _ w0 w hO hsrc (fun _ _ _ => cnt_len) (by omega)) (fun e1 w2 hp3 => ?_)
 obtain ⟨v, c, rfl, hR, hOb⟩ := hp3
 refine ⟨_, rfl, ?_⟩
 refine rl_v rfl rfl rfl (ov_assign rfl rfl) <| rl_nil <| run_ret Try.func9 (res1 Try.results9 rfl) ?_
 exact ⟨v, c, rfl, hR, WAt.push hOb hK hPl⟩
instance (n : Int) : Decidable (N3 n) := by unfold N3; exact inferInstance
def TogOk (a b : Int) : Prop := ¬ (a = 2 ∧ b ≠ 2 ∧ b ≠ 1 ∨ b = 2 ∧ a ≠ 2 ∧ a ≠ 1)
instance (a b : Int) : Decidable (TogOk a b) := by unfold TogOk; exact inferInstance
theorem okCfg {mem pat : Int} {f1 f2 : List Int} (hm : 1 ≤ mem ∧ mem ≤ 1000) (hp : 1 ≤ pat ∧ pat ≤ 1000) (h1 : (f1.length : Int) = mem) (h2 : (f2.length : Int) = mem) (hf1 : ∀ x ∈ f1, 0 ≤ x ∧ x ≤ 1000000000000) (hf2 : ∀ x ∈ f2, 0 ≤ x ∧ x ≤ 1000000000000) : ¬ CfgBad mem pat f1 f2 := by
 have key : ∀ f : List Int, (∀ x ∈ f, 0 ≤ x ∧ x ≤ 1000000000000) → ¬ BadP (gl f) f.length := by
  rintro f hf ⟨i, h0, h1, h2⟩
  have := hf (f.getD i.toNat 0) (by rw [List.getD_eq_getElem?_getD, List.getElem?_eq_getElem (by omega)]; exact List.getElem_mem _)
  unfold gl at h2
  omega
 have k1 := key f1 hf1
 have k2 := key f2 hf2
 unfold CfgBad
 rintro (h | h | h | h | h | h | h | h)
 ·omega
 ·omega
 ·omega
 ·omega
 ·exact h h1
 ·exact h h2
 ·exact k1 h
 ·exact k2 h
theorem newOk (mem pat : Int) (f1 f2 : List Int) (ma ga : Option Addr) (mc gc B : Nat) (H : List (Option Blk)) (w0 w : World) (hO : Own B w0 w H) (h1 : SrcI H ma f1.length (gl f1)) (h2 : SrcI H ga f2.length (gl f2)) (hm : 1 ≤ mem ∧ mem ≤ 1000) (hp : 1 ≤ pat ∧ pat ≤ 1000) (hl1 : (f1.length : Int) = mem) (hl2 : (f2.length : Int) = mem) (hf1 : ∀ x ∈ f1, 0 ≤ x ∧ x ≤ 1000000000000) (hf2 : ∀ x ∈ f2, 0 ≤ x ∧ x ≤ 1000000000000) :
  Calls Try.prog 7 #[.agg #[iv mem, iv pat, .slice ma f1.length mc, .slice ga f2.length gc]] w fun e w' => ∃ A, e = .returned (.tuple #[ptr A.W, iv 0]) ∧ WAt B w0 w' A (MW.init mem pat f1 f2) [] H :=
 (new_any mem pat f1 f2 ma ga mc gc B H w0 w hO h1 h2 (by omega) (by omega)).mono fun _ _ h => h.elim (fun h => absurd h.1 (okCfg hm hp hl1 hl2 hf1 hf2)) (fun h => h.2)
theorem Good.init {mem pat : Int} {f1 f2 : List Int} (hm : 1 ≤ mem ∧ mem ≤ 1000) (hp : 1 ≤ pat ∧ pat ≤ 1000) (hl1 : (f1.length : Int) = mem) (hl2 : (f2.length : Int) = mem) (hf1 : ∀ x ∈ f1, 0 ≤ x ∧ x ≤ 1000000000000) (hf2 : ∀ x ∈ f2, 0 ≤ x ∧ x ≤ 1000000000000) : Good (MW.init mem pat f1 f2) := by
 have hz : ∀ n, ((MW.init mem pat f1 f2).lg n) = Lg.z := fun n => by unfold MW.lg; split; rfl; split <;> rfl
 have hf : ∀ n, (MW.init mem pat f1 f2).fst n = if n = 1 then f1 else f2 := fun n => rfl
 refine ⟨⟨hm, hp, fun n _ => ?_, fun n _ => ?_, Nat.zero_le _, fun d h1 h2 => ?_, fun n _ r hr => ?_, fun n _ => ?_, fun n _ => ?_, fun n _ => ?_, fun m hm => ?_, fun d => ?_, fun d => ?_⟩, fun d hd => ?_⟩
 ·rw [hf]; split; exact hl1; exact hl2
 ·rw [hf]; split; exact hf1; exact hf2
 ·have : d ≤ 0 := h2; omega
 ·rw [hz] at hr; exact nomatch hr
 ·rw [hz]; exact List.nodup_nil
 ·rw [hz]; exact ⟨Int.le_refl _, show (0 : Int) ≤ _ by decide⟩
 ·rw [hz]; exact Nat.le_refl _
 ·exact nomatch hm
 ·exact ⟨Int.le_refl _, show (0 : Int) < pat by omega⟩
 ·exact ⟨Int.le_refl _, show (0 : Int) ≤ 4 by decide⟩
 ·exact absurd (show (0 : Int) = 1 from hd) (by decide)
theorem WAt.own {B : Nat} {w0 w : World} {A : WA} {X : MW} {Pl R : List (Option Blk)} (h : WAt B w0 w A X Pl R) : Own B w0 w R := by
 obtain ⟨K, N, hO, _⟩ := h
 exact hO.sub ((List.sublist_append_right N R).trans (List.sublist_append_right _ _))
end Go.Proofs.Ytijffdhailddoaa
