import Derived.Test.YtfbbagnpdfafjaaHaH
set_option maxRecDepth 100000
namespace Go.Proofs.Ytfbbagnpdfafjaa
open Go.RowKit Go.Proofs
def glH (l : List Int) (i : Int) : Int := l.getD i.toNat 0
theorem glH_snoc {l : List Int} {x : Int} {v : Value} {E : TypeId} {c : Option Blk} (h : IRow v E (l.length + 1) (fun j => iv (upd (glH l) l.length x j)) c) : IRow v E (l ++ [x]).length (fun i => iv (glH (l ++ [x]) i)) c := by
 rw [List.length_append]
 refine h.congr fun i i0 i1 => ?_
 unfold upd glH
 simp only [List.getD_eq_getElem?_getD]
 by_cases e : i = l.length
 ·rw [if_pos e, List.getElem?_append_right (by omega), show i.toNat - l.length = 0 by omega]
  rfl
 ·rw [if_neg e, List.getElem?_append_left (by omega)]
def HM.unc (X : HM) (a : HA) : Prop := a.out = false ∧ ¬ X.need a ≤ a.cash
instance (X : HM) (a : HA) : Decidable (X.unc a) := by unfold HM.unc; exact inferInstance
def HM.cls (X : HM) : Nat → List Int
 | 0 => []
 | k + 1 => if X.unc (X.ac k) then X.cls k ++ [(k : Int) + 1] else X.cls k
theorem calls_any (hb B : Nat) (X : HM) (K : HK) (N H : List (Option Blk)) (w0 w : World) (hO : Own B w0 w H) (k kb : Nat) (hk : H[k]? = some (houB hb (X.r K))) (hkb : H[kb]? = some K.blk) (hK : HOk X K N) (hmv : SrcS H K.ma 12 X.k (fun i => monL (X.mv i)))
  (hmem : X.mem ≤ 64) (hB : HBd (X.r K) X.mv) (hp : ∀ i : Int, 0 ≤ i → i < X.mem → Bd (X.ac i).pos 2000000) (hr : PBd X.pr) :
  Calls Try.prog 32 #[ptr hb] w fun e w' => ∃ v c, e = .returned v ∧ IRow v 3 (X.cls X.mem).length (fun i => iv (glH (X.cls X.mem) i)) c ∧ (X.cls X.mem).length ≤ X.mem ∧ Own B w0 w' (c :: H) := by
 refine calls_of_run (F := [(0, _)]) Try.func32 rfl Try.ntmps32 rfl rfl <| run_seq <| run_region <| rl_v rfl rfl rfl (ov_assign rfl rfl) <| rl_nil <| run_seq <| run_seq <| run_region <| rl_v rfl rfl rfl (ov_move rfl rfl) <| rl_v rfl rfl rfl (ov_ptrnil rfl Try.underlying30 rfl) <| rl_nil <| run_cond_f rfl <| run_skip <| run_seq <| run_region <| rl_v rfl rfl rfl (ov_assign rfl rfl) <| rl_nil <| run_seq <| run_seq <| run_region <| rl_v rfl rfl rfl (ov_move rfl rfl) <| rl_v rfl rfl rfl (ov_nil rfl rfl) <| rl_v rfl rfl rfl (ov_fieldS rfl Try.underlying124 rfl (fo := 17) rfl (by kernel_rfl) rfl) ?_
 refine rl_v rfl rfl rfl (ov_load rfl Try.underlying120 rfl rfl (by exact hO.cellL k hk (off := 17) rfl)) ?_
 refine rl_v rfl rfl rfl (ov_len rfl Try.underlying120 rfl) <| rl_v rfl rfl rfl (ov_move rfl rfl) <| rl_nil <| run_block <| Run.keep [0, 3, 11, 12, 13] (F' := [(0, _), (3, _), (11, _), (12, _), (13, _)]) rfl <| run_loop4 (fun (i : Int) (n : Nat) (v : Value) (c : Option Blk) => [(3, v), (13, .int .i64 i)]) [0, 11, 12] (fun (i : Int) (n : Nat) (v : Value) (c : Option Blk) (w1 : World) => i = n ∧ n ≤ X.mem ∧ IRow v 3 (X.cls n).length (fun i => iv (glH (X.cls n) i)) c ∧ (X.cls n).length ≤ n ∧ Own B w0 w1 (c :: H)) (fun (i : Int) (n : Nat) (v : Value) (c : Option Blk) => X.mem - n) (0) (0) (.slice none 0 0) (none) ?_ (And.intro rfl (And.intro (by exact slot_int rfl (by first | omega)) (And.intro rfl (And.intro rfl (And.intro rfl trivial))))) ?_
 ·exact ⟨rfl, by omega, IRow.nil _ _, Nat.le_refl _, hO.nil_cons⟩
 intro i n v c w1 hIw1 ih2
 obtain ⟨hi, hn, hrw, hlen, hO1⟩ := hIw1
 show Run _ _ _ _ [(3, _), (13, _), (0, _), (11, _), (12, _)] _ _
 refine run_seq <| run_region <| rl_v rfl rfl rfl (ov_lss rfl rfl rfl) <| rl_nil <| run_seq ?_
 first | refine run_cond_dec rfl (fun h1 => ?_) (fun h1 => ?_) | refine run_cond rfl (fun h1 => ?_) (fun h1 => ?_)
 ·have h1' : i < (X.mem : Int) := h1
  refine run_skip <| run_seq <| run_block <| run_seq <| run_region <| rl_v rfl rfl rfl (ov_move rfl rfl) <| rl_v rfl rfl rfl (ov_index rfl Try.underlying120 (by kernel_rfl) (s := 15) rfl rfl ⟨by omega, h1'⟩ rfl) ?_
  refine rl_v rfl rfl rfl (ov_loadE rfl Try.underlying127 rfl (by kernel_rfl) rfl ⟨by omega, by omega⟩ rfl (hK.reads hO1 (kb + 1) hkb)) ?_
  refine rl_ow rfl (ow_alloc _ rfl rfl rfl zero_127 rfl hO1) ?_
  rintro _ w3 ⟨b5, rfl, hO4, hs5⟩
  refine rl_v rfl rfl rfl (ov_assign rfl rfl) <| rl_ow rfl (ow_storeW rfl rfl (by kernel_rfl) hO4 0 rfl rfl (by rfl) rfl (by rfl)) ?_
  rintro _ w6 ⟨rfl, hO7, hs8⟩
  refine rl_nil <| run_seq <| run_region <| rl_v rfl rfl rfl (ov_fieldS rfl Try.underlying127 rfl (fo := 14) rfl (by kernel_rfl) rfl) ?_
  refine rl_v rfl rfl rfl (ov_load rfl Try.underlying4 rfl rfl (by exact hO7.cellL 0 rfl (off := 14) rfl)) ?_
  refine rl_v rfl rfl rfl (ov_not rfl rfl) <| rl_v rfl rfl rfl (ov_move rfl rfl) ?_
  first | refine rl_split_dec 21 rfl (fun o1 => ?_) (fun o1 => ?_) | refine rl_split 21 rfl (fun o1 => ?_) (fun o1 => ?_)
  ·refine rl_gv rfl rfl rfl rfl rfl (ov_move rfl rfl) <| rl_gv rfl rfl rfl rfl rfl (ov_loadW rfl Try.underlying127 rfl (by kernel_rfl) rfl hO7 0 rfl) ?_
   refine rl_gcall callable_73 rfl rfl rfl rfl rfl rfl rfl rfl (covered_any hb B (k + 2) (X.r K) X.mv (X.ac i) _ w0 w6 hO7 hk hmv.cons.cons hB (hp i (by omega) h1') hr) (fun e10 w11 hp12 => ?_)
   obtain ⟨rfl, hO2⟩ := hp12
   refine ⟨_, rfl, ?_⟩
   have hO3 := hO2.tail
   refine rl_gv rfl rfl rfl rfl rfl (ov_not rfl rfl) <| rl_v rfl rfl rfl (ov_pick_t rfl rfl rfl) <| rl_nil ?_
   first | refine run_cond_dec rfl (fun c1 => ?_) (fun c1 => ?_) | refine run_cond rfl (fun c1 => ?_) (fun c1 => ?_)
   ·have hu : X.unc (X.ac n) := by rw [← hi]; exact ⟨by simpa using o1, ndt c1⟩
    have ec : X.cls (n + 1) = X.cls n ++ [(n : Int) + 1] := if_pos hu
    refine run_region <| rl_v rfl rfl rfl (ov_move rfl rfl) <| rl_v rfl rfl rfl (ov_move rfl rfl) <| rl_v rfl rfl rfl (ov_add rfl rfl rfl (by omega)) ?_
    refine rl_appI rfl rfl rfl rfl rfl rfl rfl rfl Try.underlying51 info_3 rfl hO3 0 hrw rfl rfl rfl ⟨by omega, by omega⟩ (fun v2 c2 w13 hO14 hr2 hs15 => ?_)
    refine rl_v rfl rfl rfl (ov_assign rfl rfl) <| rl_nil <| run_inBlock <| run_region <| rl_v rfl rfl rfl (ov_add rfl rfl rfl (by omega)) ?_
    refine rl_v rfl rfl rfl (ov_move rfl rfl) <| rl_nil ?_
    refine Run.use (ih2 (i + 1) (n + 1) (v2) (c2) _ ?_ ?_) (And.intro rfl (And.intro (by exact slot_int rfl (by first | omega)) (And.intro rfl (And.intro rfl (And.intro rfl trivial)))))
    ·first | omega | (dsimp only; omega)
    ·exact ⟨by omega, by omega, by rw [ec]; exact glH_snoc (hr2.congr fun j _ _ => by rw [hi]), by rw [ec, List.length_append]; exact Nat.succ_le_succ hlen, hO14⟩
   ·have hu : ¬ X.unc (X.ac n) := by rw [← hi]; exact fun h => h.2 (ndf c1)
    have ec : X.cls (n + 1) = X.cls n := if_neg hu
    refine run_skip <| run_inBlock <| run_region <| rl_v rfl rfl rfl (ov_add rfl rfl rfl (by omega)) ?_
    refine rl_v rfl rfl rfl (ov_move rfl rfl) <| rl_nil ?_
    refine Run.use (ih2 (i + 1) (n + 1) (v) (c) _ ?_ ?_) (And.intro rfl (And.intro (by exact slot_int rfl (by first | omega)) (And.intro rfl (And.intro rfl (And.intro rfl trivial)))))
    ·first | omega | (dsimp only; omega)
    ·exact ⟨by omega, by omega, by rw [ec]; exact hrw, by rw [ec]; omega, hO3⟩
  ·have hu : ¬ X.unc (X.ac n) := by rw [← hi]; exact fun h => by rw [h.1] at o1; cases o1
   have ec : X.cls (n + 1) = X.cls n := if_neg hu
   refine rl_gskip rfl rfl rfl rfl rfl rfl <| rl_gskip rfl rfl rfl rfl rfl rfl <| rl_gskip rfl rfl rfl rfl rfl rfl <| rl_gskip rfl rfl rfl rfl rfl rfl <| rl_v rfl rfl rfl (ov_pick_f rfl rfl rfl) <| rl_nil <| run_cond_f rfl ?_
   have hO4 := hO7.tail
   refine run_skip <| run_inBlock <| run_region <| rl_v rfl rfl rfl (ov_add rfl rfl rfl (by omega)) ?_
   refine rl_v rfl rfl rfl (ov_move rfl rfl) <| rl_nil ?_
   refine Run.use (ih2 (i + 1) (n + 1) (v) (c) _ ?_ ?_) (And.intro rfl (And.intro (by exact slot_int rfl (by first | omega)) (And.intro rfl (And.intro rfl (And.intro rfl trivial)))))
   ·first | omega | (dsimp only; omega)
   ·exact ⟨by omega, by omega, by rw [ec]; exact hrw, by rw [ec]; omega, hO4⟩
 ·have h1' : ¬ i < (X.mem : Int) := h1
  obtain rfl : X.mem = n := by omega
  refine run_exit rfl <| run_seq <| run_region <| rl_v rfl rfl rfl (ov_move rfl rfl) <| rl_v rfl rfl rfl (ov_assign rfl rfl) <| rl_nil <| run_ret Try.func32 (res1 Try.results32 rfl) ?_
  exact ⟨v, c, rfl, hrw, hlen, hO1⟩
def HM.mkA (X : HM) (m p : Int) (a : HA) : HA := { a with cash := a.cash + a.pos m * (p - X.pr m) }
theorem perm3 {a b c : Option Blk} {L : List (Option Blk)} : (a :: b :: c :: L).Perm (b :: c :: a :: L) := (List.Perm.swap b a (c :: L)).trans (List.Perm.cons b (List.Perm.swap c a L))
theorem HAt.shed {B : Nat} {w0 w : World} {hb : Nat} {X : HM} {Pl R : List (Option Blk)} {x : Option Blk} (h : HAt B w0 w hb X Pl (x :: R)) : HAt B w0 w hb X Pl R := by
 obtain ⟨K, N, hO, hK, hPl⟩ := h
 exact ⟨K, N, hO.sub (.cons_cons _ (.cons_cons _ (List.Sublist.append_left (.cons _ (.refl _)) _))), hK, hPl⟩
theorem HAt.push {B : Nat} {w0 w : World} {hb : Nat} {X : HM} {K : HK} {N Pl R : List (Option Blk)} {x : Option Blk} (hO : Own B w0 w (x :: houB hb (X.r K) :: K.blk :: (N ++ R))) (hK : HOk X K N) (hPl : Pl.Sublist N) : HAt B w0 w hb X Pl (x :: R) :=
 ⟨K, N, hO.perm (perm3.trans (.cons _ (.cons _ List.perm_middle.symm))), hK, hPl⟩
end Go.Proofs.Ytfbbagnpdfafjaa
