import Derived.Test.YtfbbagnpdfafjaaHaJ
import Derived.Test.YtfbbagnpdfafjaaShrB
set_option maxRecDepth 100000
namespace Go.Proofs.Ytfbbagnpdfafjaa
open Go.RowKit Go.Proofs
abbrev accP (ab : Nat) (j : Int) : Value := .pointer (some ⟨ab, 0 + j.toNat * 15, none⟩)
abbrev AccRow (ab n cap : Nat) (G : Int → HA) (c : Option Blk) : Prop := SRow (.slice (some ⟨ab, 0, none⟩) n cap) 127 15 n (fun j => accL (G j)) c
theorem rowRd {ab n cap : Nat} {G : Int → HA} {c : Option Blk} (hr : AccRow ab n cap G c) {B : Nat} {w0 w : World} {H : List (Option Blk)} (hO : Own B w0 w H) (k : Nat) (hk : H[k]? = some c) {i : Int} (i0 : 0 ≤ i) (i1 : i < n) (fo : Nat) (hf : fo < 15) : w.cell? ⟨ab, 0 + i.toNat * 15 + fo, none⟩ = some ((accL (G i)).getD fo undef) := by
 obtain ⟨b, e1, h⟩ := SRow.openS hr hO k hk
 have e2 := e1 (by omega)
 cases e2
 exact h i i0 i1 fo hf
theorem rowPos {ab n cap : Nat} {G : Int → HA} {c : Option Blk} (hr : AccRow ab n cap G c) {B : Nat} {w0 w : World} {H : List (Option Blk)} (hO : Own B w0 w H) (k : Nat) (hk : H[k]? = some c) {i m : Int} (i0 : 0 ≤ i) (i1 : i < n) (m0 : 0 ≤ m) (m1 : m < 12) : w.cell? ⟨ab, 0 + i.toNat * 15 + 2 + m.toNat, none⟩ = some (iv ((G i).pos m)) := by
 have h := rowRd hr hO k hk i0 i1 (2 + m.toNat) (by omega)
 rw [List.getD_eq_getElem?_getD, accL_pos _ m0 m1] at h
 rw [Nat.add_assoc]
 exact h
section
variable {P : Program} {N : Nat} {o : Oper} {F : Fr} {w : World} {B : Nat} {w0 : World} {H : List (Option Blk)}
theorem ow_storePos {T : TypeId} {p x : Operand} {ab n cap : Nat} {G : Int → HA} {c : Option Blk} {i m e : Int} (hd : o.dst = none) (ho : o.op = .store T p x) (hi : (P.info? T).map (·.size) = some 1)
  (hO : Own B w0 w H) (kk : Nat) (hr : AccRow ab n cap G c) (hk : H[kk]? = some c) (hp : Fr.ev F p = some (.pointer (some ⟨ab, 0 + i.toNat * 15 + 2 + m.toNat, none⟩))) (hb : 0 ≤ i ∧ i < n) (hm : 0 ≤ m ∧ m < 12)
  (hx : Fr.ev F x = some (iv e)) :
  OpW P N o F w (fun F' w' => ∃ c', F' = F ∧ Own B w0 w' (H.set kk c') ∧ AccRow ab n cap (upd G i { G i with pos := upd (G i).pos m e }) c' ∧ w'.heap.size = w.heap.size) := by
 obtain ⟨c', h2, h3, h4, h5⟩ := SRow.store hr hO kk hk rfl (fun _ => rfl) i hb.1 hb.2 (2 + m.toNat) (by omega) accL_len (iv e)
 obtain ⟨u, hu⟩ := Option.isSome_iff_exists.1 h4
 have ea : 0 + i.toNat * 15 + (2 + m.toNat) = 0 + i.toNat * 15 + 2 + m.toNat := (Nat.add_assoc _ _ _).symm
 rw [ea] at h2 hu h5
 refine (ow_u (w' := w.setCell ⟨ab, 0 + i.toNat * 15 + 2 + m.toNat, none⟩ (iv e)) hd (fun a ha => ?_)).mono fun F' w' ⟨e1, e2⟩ => ⟨c', e1, by rw [e2]; exact h2, h3.congr fun j _ _ => accs_upd (accL_setPos _ hm.1 hm.2 e) j, by rw [e2]; simp⟩
 have hrun := run_storeAt_one (P := P) w ab (0 + i.toNat * 15 + 2 + m.toNat) T (iv e) _ hu h5 hi rfl
 unfold execOp
 simp only [ho, ha.ev hp, ha.ev hx, Sem.run_bind, hrun, Result.andThen_ok, Sem.run_pure]
end
def HM.othP (X : HM) (i : Int) (j : Int) : Bool := decide (j ≠ i - 1) && !(X.ac j).out
theorem ptr_snoc {ab : Nat} {l : List Int} {x : Int} {v : Value} {E : TypeId} {c : Option Blk} (h : IRow v E (l.length + 1) (upd (fun t => accP ab (glF l t)) l.length (accP ab x)) c) : IRow v E (l ++ [x]).length (fun t => accP ab (glF (l ++ [x]) t)) c := by
 rw [List.length_append]
 refine h.congr fun t t0 t1 => ?_
 unfold upd
 by_cases e : t = l.length
 ·rw [if_pos e, e, glF_top]
 ·rw [if_neg e, glF_low t0 (by omega)]
theorem others_any (hb B : Nat) (X : HM) (K : HK) (i : Int) (N H : List (Option Blk)) (w0 w : World) (hO : Own B w0 w H) (k kb : Nat) (hk : H[k]? = some (houB hb (X.r K))) (hkb : H[kb]? = some K.blk) (hK : HOk X K N) (hmem : X.mem ≤ 64) (hi : 1 ≤ i ∧ i ≤ X.mem) :
  Calls Try.prog 111 #[ptr hb, iv i] w fun e w' => ∃ v c, e = .returned v ∧ IRow v 125 (filL (X.othP i) X.mem).length (fun t => accP K.ab (glF (filL (X.othP i) X.mem) t)) c ∧ Own B w0 w' (c :: H) := by
 refine calls_of_run (F := [(0, _), (1, _)]) Try.func111 rfl Try.ntmps111 rfl rfl <| run_seq <| run_region <| rl_v rfl rfl rfl (ov_assign rfl rfl) <| rl_nil <| run_seq <| run_region <| rl_v rfl rfl rfl (ov_assign rfl rfl) <| rl_nil <| run_seq <| run_seq <| run_region <| rl_v rfl rfl rfl (ov_move rfl rfl) <| rl_v rfl rfl rfl (ov_nil rfl rfl) <| rl_v rfl rfl rfl (ov_fieldS rfl Try.underlying124 rfl (fo := 17) rfl (by kernel_rfl) rfl) ?_
 refine rl_v rfl rfl rfl (ov_load rfl Try.underlying120 rfl rfl (by exact hO.cellL k hk (off := 17) rfl)) ?_
 refine rl_v rfl rfl rfl (ov_len rfl Try.underlying120 rfl) <| rl_v rfl rfl rfl (ov_move rfl rfl) <| rl_nil <| run_block <| Run.keep [0, 1, 5, 11, 12] (F' := [(0, _), (1, _), (5, _), (11, _), (12, _)]) rfl <| run_loop4 (fun (j : Int) (n : Nat) (v : Value) (c : Option Blk) => [(5, v), (12, .int .i64 j)]) [0, 1, 11] (fun (j : Int) (n : Nat) (v : Value) (c : Option Blk) (w1 : World) => j = n ∧ n ≤ X.mem ∧ IRow v 125 (filL (X.othP i) n).length (fun t => accP K.ab (glF (filL (X.othP i) n) t)) c ∧ Own B w0 w1 (c :: H)) (fun (j : Int) (n : Nat) (v : Value) (c : Option Blk) => X.mem - n) (0) (0) (.slice none 0 0) (none) ?_ (And.intro rfl (And.intro (by exact slot_int rfl (by first | omega)) (And.intro rfl (And.intro rfl (And.intro rfl trivial))))) ?_
 ·exact ⟨rfl, by omega, IRow.nil _ _, hO.nil_cons⟩
 intro j n v c w1 hIw1 ih2
 obtain ⟨hj, hn, hrw, hO1⟩ := hIw1
 show Run _ _ _ _ [(5, _), (12, _), (0, _), (1, _), (11, _)] _ _
 refine run_seq <| run_region <| rl_v rfl rfl rfl (ov_lss rfl rfl rfl) <| rl_nil <| run_seq ?_
 first | refine run_cond_dec rfl (fun h1 => ?_) (fun h1 => ?_) | refine run_cond rfl (fun h1 => ?_) (fun h1 => ?_)
 ·have h1' : j < (X.mem : Int) := h1
  have hlen := filL_len (X.othP i) n
  refine run_skip <| run_seq <| run_block <| run_seq <| run_region <| rl_v rfl rfl rfl (ov_move rfl rfl) <| rl_v rfl rfl rfl (ov_assign rfl rfl) <| rl_nil <| run_seq <| run_region <| rl_v rfl rfl rfl (ov_move rfl rfl) <| rl_v rfl rfl rfl (ov_move rfl rfl) <| rl_v rfl rfl rfl (ov_sub rfl rfl rfl (by omega)) ?_
  refine rl_v rfl rfl rfl (ov_neq rfl rfl rfl) <| rl_v rfl rfl rfl (ov_move rfl rfl) ?_
  first | refine rl_split_dec 19 rfl (fun o1 => ?_) (fun o1 => ?_) | refine rl_split 19 rfl (fun o1 => ?_) (fun o1 => ?_)
  ·refine rl_gv rfl rfl rfl rfl rfl (ov_move rfl rfl) <| rl_gv rfl rfl rfl rfl rfl (ov_nil rfl rfl) <| rl_gv rfl rfl rfl rfl rfl (ov_fieldS rfl Try.underlying124 rfl (fo := 17) rfl (by kernel_rfl) rfl) ?_
   refine rl_gv rfl rfl rfl rfl rfl (ov_load rfl Try.underlying120 rfl rfl (by exact hO1.cellL (k + 1) hk (off := 17) rfl)) ?_
   refine rl_gv rfl rfl rfl rfl rfl (ov_move rfl rfl) <| rl_gv rfl rfl rfl rfl rfl (ov_index rfl Try.underlying120 (by kernel_rfl) (s := 15) rfl rfl ⟨by omega, h1'⟩ rfl) ?_
   refine rl_gv rfl rfl rfl rfl rfl (ov_fieldS rfl Try.underlying127 rfl (fo := 14) rfl (by kernel_rfl) rfl) ?_
   refine rl_gv rfl rfl rfl rfl rfl (ov_load rfl Try.underlying4 rfl rfl (by exact (show _ = some (.bool (X.ac j).out) from hK.reads hO1 (kb + 1) hkb j (by omega) h1' 14 (by decide)))) ?_
   refine rl_gv rfl rfl rfl rfl rfl (ov_not rfl rfl) <| rl_v rfl rfl rfl (ov_pick_t rfl rfl rfl) <| rl_nil ?_
   first | refine run_cond_dec rfl (fun o2 => ?_) (fun o2 => ?_) | refine run_cond rfl (fun o2 => ?_) (fun o2 => ?_)
   ·have ep : X.othP i n = true := by rw [← hj]; unfold HM.othP; rw [decide_eq_true o1, o2]; rfl
    have el : filL (X.othP i) (n + 1) = filL (X.othP i) n ++ [(n : Int)] := by rw [filL_succ, if_pos ep]
    refine run_region <| rl_v rfl rfl rfl (ov_move rfl rfl) <| rl_v rfl rfl rfl (ov_move rfl rfl) <| rl_v rfl rfl rfl (ov_nil rfl rfl) <| rl_v rfl rfl rfl (ov_fieldS rfl Try.underlying124 rfl (fo := 17) rfl (by kernel_rfl) rfl) ?_
    refine rl_v rfl rfl rfl (ov_load rfl Try.underlying120 rfl rfl (by exact hO1.cellL (k + 1) hk (off := 17) rfl)) ?_
    refine rl_v rfl rfl rfl (ov_move rfl rfl) <| rl_v rfl rfl rfl (ov_index rfl Try.underlying120 (by kernel_rfl) (s := 15) rfl rfl ⟨by omega, h1'⟩ rfl) ?_
    refine rl_appV rfl rfl rfl rfl rfl rfl rfl rfl Try.underlying209 info_125 rfl hO1 0 hrw rfl rfl rfl rfl ⟨by omega, by omega⟩ (fun v2 c2 w4 hO5 hr2 hs6 => ?_)
    refine rl_v rfl rfl rfl (ov_assign rfl rfl) <| rl_nil <| run_inBlock <| run_region <| rl_v rfl rfl rfl (ov_add rfl rfl rfl (by omega)) ?_
    refine rl_v rfl rfl rfl (ov_move rfl rfl) <| rl_nil ?_
    refine Run.use (ih2 (j + 1) (n + 1) (v2) (c2) _ ?_ ?_) (And.intro rfl (And.intro (by exact slot_int rfl (by first | omega)) (And.intro rfl (And.intro rfl (And.intro rfl trivial)))))
    ·first | omega | (dsimp only; omega)
    ·exact ⟨by omega, by omega, by rw [el]; exact ptr_snoc (by rw [← hj]; exact hr2), hO5⟩
   ·have ep : ¬ X.othP i n = true := by rw [← hj]; unfold HM.othP; rw [o2]; simp
    have el : filL (X.othP i) (n + 1) = filL (X.othP i) n := by rw [filL_succ, if_neg ep]
    refine run_skip <| run_inBlock <| run_region <| rl_v rfl rfl rfl (ov_add rfl rfl rfl (by omega)) ?_
    refine rl_v rfl rfl rfl (ov_move rfl rfl) <| rl_nil ?_
    refine Run.use (ih2 (j + 1) (n + 1) (v) (c) _ ?_ ?_) (And.intro rfl (And.intro (by exact slot_int rfl (by first | omega)) (And.intro rfl (And.intro rfl (And.intro rfl trivial)))))
    ·first | omega | (dsimp only; omega)
    ·exact ⟨by omega, by omega, by rw [el]; exact hrw, hO1⟩
  ·have ep : ¬ X.othP i n = true := by rw [← hj]; unfold HM.othP; rw [decide_eq_false o1]; simp
   have el : filL (X.othP i) (n + 1) = filL (X.othP i) n := by rw [filL_succ, if_neg ep]
   refine rl_gskip rfl rfl rfl rfl rfl rfl <| rl_gskip rfl rfl rfl rfl rfl rfl <| rl_gskip rfl rfl rfl rfl rfl rfl <| rl_gskip rfl rfl rfl rfl rfl rfl <| rl_gskip rfl rfl rfl rfl rfl rfl <| rl_gskip rfl rfl rfl rfl rfl rfl <| rl_gskip rfl rfl rfl rfl rfl rfl <| rl_gskip rfl rfl rfl rfl rfl rfl <| rl_gskip rfl rfl rfl rfl rfl rfl <| rl_v rfl rfl rfl (ov_pick_f rfl rfl rfl) <| rl_nil <| run_cond_f rfl <| run_skip <| run_inBlock <| run_region <| rl_v rfl rfl rfl (ov_add rfl rfl rfl (by omega)) ?_
   refine rl_v rfl rfl rfl (ov_move rfl rfl) <| rl_nil ?_
   refine Run.use (ih2 (j + 1) (n + 1) (v) (c) _ ?_ ?_) (And.intro rfl (And.intro (by exact slot_int rfl (by first | omega)) (And.intro rfl (And.intro rfl (And.intro rfl trivial)))))
   ·first | omega | (dsimp only; omega)
   ·exact ⟨by omega, by omega, by rw [el]; exact hrw, hO1⟩
 ·have h1' : ¬ j < (X.mem : Int) := h1
  obtain rfl : X.mem = n := by omega
  refine run_exit rfl <| run_seq <| run_region <| rl_v rfl rfl rfl (ov_move rfl rfl) <| rl_v rfl rfl rfl (ov_assign rfl rfl) <| rl_nil <| run_ret Try.func111 (res1 Try.results111 rfl) ?_
  exact ⟨v, c, rfl, hrw, hO1⟩
end Go.Proofs.Ytfbbagnpdfafjaa
