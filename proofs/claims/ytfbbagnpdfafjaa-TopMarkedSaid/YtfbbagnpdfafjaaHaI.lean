import Derived.Test.YtfbbagnpdfafjaaHaH
set_option maxRecDepth 100000
namespace Go.Proofs.Ytfbbagnpdfafjaa
open Go.RowKit Go.Proofs
def glH (l : List Int) (i : Int) : Int := l.getD i.toNat 0
theorem glH_snoc {l : List Int} {x : Int} {v : Value} {E : TypeId} {c : Option Blk} (h : IRow v E (l.length + 1) (fun j => iv (upd (glH l) l.length x j)) c) : IRow v E (l ++ [x]).length (fun i => iv (glH (l ++ [x]) i)) c := by
 rw [List.length_append]
 refine h.congr fun i i0 i1 => ?_
 unfold upd glH
 simp only [List.getD_eq_getElem?_getD]
 by_cases e : i = l.length
 ·rw [if_pos e, List.getElem?_append_right (by omega), show i.toNat - l.length = 0 by omega]
  rfl
 ·rw [if_neg e, List.getElem?_append_left (by omega)]
def HM.unc (X : HM) (a : HA) : Prop := a.out = false ∧ ¬ X.need a ≤ a.cash
instance (X : HM) (a : HA) : Decidable (X.unc a) := by unfold HM.unc; exact inferInstance
def HM.cls (X : HM) : Nat → List Int
 | 0 => []
 | k + 1 => if X.unc (X.ac k) then X.cls k ++ [(k : Int) + 1] else X.cls k
theorem calls_any (hb B : Nat) (X : HM) (K : HK) (N H : List (Option Blk)) (w0 w : World) (hO : Own B w0 w H) (k kb : Nat) (hk : H[k]? = some (houB hb (X.r K))) (hkb : H[kb]? = some K.blk) (hK : HOk X K N) (hmv : SrcS H K.ma 12 X.k (fun i => monL (X.mv i)))
  (hmem : X.mem ≤ 64) (hB : HBd (X.r K) X.mv) (hp : ∀ i : Int, 0 ≤ i → i < X.mem → Bd (X.ac i).pos 2000000) (hr : PBd X.pr) :
  Calls Try.prog 32 #[ptr hb] w fun e w' => ∃ v c, e = .returned v ∧ IRow v 3 (X.cls X.mem).length (fun i => iv (glH (X.cls X.mem) i)) c ∧ (X.cls X.mem).length ≤ X.mem ∧ Own B w0 w' (c :: H) := by
 refine calls_of_run (F := [(0, _)]) Try.func32 rfl Try.ntmps32 rfl rfl <| run_seq <| run_region <| rl_v rfl rfl rfl (ov_assign rfl rfl) <| rl_nil <| run_seq <| run_seq <| run_region <| rl_v rfl rfl rfl (ov_move rfl rfl) <| rl_v rfl rfl rfl (ov_ptrnil rfl Try.underlying30 rfl) <| rl_nil <| run_cond_f rfl <| run_skip <| run_seq <| run_region <| rl_v rfl rfl rfl (ov_assign rfl rfl) <| rl_nil <| run_seq <| run_seq <| run_region <| rl_v rfl rfl rfl (ov_move rfl rfl) <| rl_v rfl rfl rfl (ov_nil rfl rfl) <| rl_v rfl rfl rfl (ov_fieldS rfl Try.underlying124 rfl (fo := 17) rfl (by kernel_rfl) rfl) ?_
 refine rl_v rfl rfl rfl (ov_load rfl Try.underlying120 rfl rfl (by exact hO.cellL k hk (off := 17) rfl)) ?_
 refine rl_v rfl rfl rfl (ov_len rfl Try.underlying120 rfl) <| rl_v rfl rfl rfl (ov_move rfl rfl) <| rl_nil <| run_block <| Run.keep [0, 3, 11, 12, 13] (F' := [(0, _), (3, _), (11, _), (12, _), (13, _)]) rfl <| run_loop4 (fun (i : Int) (n : Nat) (v : Value) (c : Option Blk) => [(3, v), (13, .int .i64 i)]) [0, 11, 12] (fun (i : Int) (n : Nat) (v : Value) (c : Option Blk) (w1 : World) => i = n ∧ n ≤ X.mem ∧ IRow v 3 (X.cls n).length (fun i => iv (glH (X.cls n) i)) c ∧ (X.cls n).length ≤ n ∧ Own B w0 w1 (c :: H)) (fun (i : Int) (n : Nat) (v : Value) (c : Option Blk) => X.mem - n) (0) (0) (.slice none 0 0) (none) ?_ (And.intro rfl (And.intro (by exact slot_int rfl (by first | omega)) (And.intro rfl (And.intro rfl (And.intro rfl trivial))))) ?_
 ·exact ⟨rfl, by omega, IRow.nil _ _, Nat.le_refl _, hO.nil_cons⟩
 intro i n v c w1 hIw1 ih2
 obtain ⟨hi, hn, hrw, hlen, hO1⟩ := hIw1
 show Run _ _ _ _ [(3, _), (13, _), (0, _), (11, _), (12, _)] _ _
 refine run_seq <| run_region <| rl_v rfl rfl rfl (ov_lss rfl rfl rfl) <| rl_nil <| run_seq ?_
 first | refine run_cond_dec rfl (fun h1 => ?_) (fun h1 => ?_) | refine run_cond rfl (fun h1 => ?_) (fun h1 => ?_)
 ·have h1' : i < (X.mem : Int) := h1
  refine run_skip <| run_seq <| run_block <| run_seq <| run_region <| rl_v rfl rfl rfl (ov_move rfl rfl) <| rl_v rfl rfl rfl (ov_index rfl Try.underlying120 (by kernel_rfl) (s := 15) rfl rfl ⟨by omega, h1'⟩ rfl) ?_
  refine rl_v rfl rfl rfl (ov_loadE rfl Try.underlying127 rfl (by kernel_rfl) rfl ⟨by omega, by omega⟩ rfl (hK.reads hO1 (kb + 1) hkb)) ?_
  refine rl_ow rfl (ow_alloc _ rfl rfl rfl zero_127 rfl hO1) ?_
  rintro _ w3 ⟨b5, rfl, hO4, hs5⟩
  refine rl_v rfl rfl rfl (ov_assign rfl rfl) <| rl_ow rfl (ow_storeW rfl rfl (by kernel_rfl) hO4 0 rfl rfl (by rfl) rfl (by rfl)) ?_
  rintro _ w6 ⟨rfl, hO7, hs8⟩
  refine rl_nil <| run_seq <| run_region <| rl_v rfl rfl rfl (ov_fieldS rfl Try.underlying127 rfl (fo := 14) rfl (by kernel_rfl) rfl) ?_
  refine rl_v rfl rfl rfl (ov_load rfl Try.underlying4 rfl rfl (by exact hO7.cellL 0 rfl (off := 14) rfl)) ?_
  refine rl_v rfl rfl rfl (ov_not rfl rfl) <| rl_v rfl rfl rfl (ov_move rfl rfl) ?_
  first | refine rl_split_dec 21 rfl (fun o1 => ?_) (fun o1 => ?_) | refine rl_split 21 rfl (fun o1 => ?_) (fun o1 => ?_)
  ·refine rl_gv rfl rfl rfl rfl rfl (ov_move rfl rfl) <| rl_gv rfl rfl rfl rfl rfl (ov_loadW rfl Try.underlying127 rfl (by kernel_rfl) rfl hO7 0 rfl) ?_
   refine rl_gcall callable_73 rfl rfl rfl rfl rfl rfl rfl rfl (covered_any hb B (k + 2) (X.r K) X.mv (X.ac i) _ w0 w6 hO7 hk hmv.cons.cons hB (hp i (by omega) h1') hr) (fun e10 w11 hp12 => ?_)
   obtain ⟨rfl, hO2⟩ := hp12
   refine ⟨_, rfl, ?_⟩
   have hO3 := hO2.tail
   refine rl_gv rfl rfl rfl rfl rfl (ov_not rfl rfl) <| rl_v rfl rfl rfl (ov_pick_t rfl rfl rfl) <| rl_nil ?_
   first | refine run_cond_dec rfl (fun c1 => ?_) (fun c1 => ?_) | refine run_cond rfl (fun c1 => ?_) (fun c1 => ?_)
   ·have hu : X.unc (X.ac n) := by rw [← hi]; exact ⟨by simpa using o1, ndt c1⟩
    have ec : X.cls (n + 1) = X.cls n ++ [(n : Int) + 1] := if_pos hu
    refine run_region <| rl_v rfl rfl rfl (ov_move rfl rfl) <| rl_v rfl rfl rfl (ov_move rfl rfl) <| rl_v rfl rfl rfl (ov_add rfl rfl rfl (by omega)) ?_
    refine rl_appI rfl rfl rfl rfl rfl rfl rfl rfl Try.underlying51 info_3 rfl hO3 0 hrw rfl rfl rfl ⟨by omega, by omega⟩ (fun v2 c2 w13 hO14 hr2 hs15 => ?_)
    refine rl_v rfl rfl rfl (ov_assign rfl rfl) <| rl_nil <| run_inBlock <| run_region <| rl_v rfl rfl rfl (ov_add rfl rfl rfl (by omega)) ?_
    refine rl_v rfl rfl rfl (ov_move rfl rfl) <| rl_nil ?_
    refine Run.use (ih2 (i + 1) (n + 1) (v2) (c2) _ ?_ ?_) (And.intro rfl (And.intro (by exact slot_int rfl (by first | omega)) (And.intro rfl (And.intro rfl (And.intro rfl trivial)))))
    ·first | omega | (dsimp only; omega)
    ·exact ⟨by omega, by omega, by rw [ec]; exact glH_snoc (hr2.congr fun j _ _ => by rw [hi]), by rw [ec, List.length_append]; exact Nat.succ_le_succ hlen, hO14⟩
   ·have hu : ¬ X.unc (X.ac n) := by rw [← hi]; exact fun h => h.2 (ndf c1)
    have ec : X.cls (n + 1) = X.cls n := if_neg hu
    refine run_skip <| run_inBlock <| run_region <| rl_v rfl rfl rfl (ov_add rfl rfl rfl (by omega)) ?_
    refine rl_v rfl rfl rfl (ov_move rfl rfl) <| rl_nil ?_
    refine Run.use (ih2 (i + 1) (n + 1) (v) (c) _ ?_ ?_) (And.intro rfl (And.intro (by exact slot_int rfl (by first | omega)) (And.intro rfl (And.intro rfl (And.intro rfl trivial)))))
    ·first | omega | (dsimp only; omega)
    ·exact ⟨by omega, by omega, by rw [ec]; exact hrw, by rw [ec]; omega, hO3⟩
  ·have hu : ¬ X.unc (X.ac n) := by rw [← hi]; exact fun h => by rw [h.1] at o1; cases o1
   have ec : X.cls (n + 1) = X.cls n := if_neg hu
   refine rl_gskip rfl rfl rfl rfl rfl rfl <| rl_gskip rfl rfl rfl rfl rfl rfl <| rl_gskip rfl rfl rfl rfl rfl rfl <| rl_gskip rfl rfl rfl rfl rfl rfl <| rl_v rfl rfl rfl (ov_pick_f rfl rfl rfl) <| rl_nil <| run_cond_f rfl ?_
   have hO4 := hO7.tail
   refine run_skip <| run_inBlock <| run_region <| rl_v rfl rfl rfl (ov_add rfl rfl rfl (by omega)) ?_
   refine rl_v rfl rfl rfl (ov_move rfl rfl) <| rl_nil ?_
   refine Run.use (ih2 (i + 1) (n + 1) (v) (c) _ ?_ ?_) (And.intro rfl (And.intro (by exact slot_int rfl (by first | omega)) (And.intro rfl (And.intro rfl (And.intro rfl trivial)))))
   ·first | omega | (dsimp only; omega)
   ·exact ⟨by omega, by omega, by rw [ec]; exact hrw, by rw [ec]; omega, hO4⟩
 ·have h1' : ¬ i < (X.mem : Int) := h1
  obtain rfl : X.mem = n := by omega
  refine run_exit rfl <| run_seq <| run_region <| rl_v rfl rfl rfl (ov_move rfl rfl) <| rl_v rfl rfl rfl (ov_assign rfl rfl) <| rl_nil <| run_ret Try.func32 (res1 Try.results32 rfl) ?_
  exact ⟨v, c, rfl, hrw, hlen, hO1⟩
def HM.mrk (X : HM) (m p : Int) : Int := if m < 0 ∨ X.mo ≤ m then 4 else if 1 ≤ p ∧ p ≤ 1000000 then 0 else 1
def HM.mkA (X : HM) (m p : Int) (a : HA) : HA := { a with cash := a.cash + a.pos m * (p - X.pr m) }
def HM.mark (X : HM) (m p : Int) : HM := if X.mrk m p = 0 then { X with ac := fun j => X.mkA m p (X.ac j), pr := upd X.pr m p } else X
def HM.mkl (X : HM) (m p : Int) : List Int := if X.mrk m p = 0 then (X.mark m p).cls X.mem else []
theorem perm3 {a b c : Option Blk} {L : List (Option Blk)} : (a :: b :: c :: L).Perm (b :: c :: a :: L) := (List.Perm.swap b a (c :: L)).trans (List.Perm.cons b (List.Perm.swap c a L))
theorem HAt.shed {B : Nat} {w0 w : World} {hb : Nat} {X : HM} {Pl R : List (Option Blk)} {x : Option Blk} (h : HAt B w0 w hb X Pl (x :: R)) : HAt B w0 w hb X Pl R := by
 obtain ⟨K, N, hO, hK, hPl⟩ := h
 exact ⟨K, N, hO.sub (.cons_cons _ (.cons_cons _ (List.Sublist.append_left (.cons _ (.refl _)) _))), hK, hPl⟩
theorem HAt.push {B : Nat} {w0 w : World} {hb : Nat} {X : HM} {K : HK} {N Pl R : List (Option Blk)} {x : Option Blk} (hO : Own B w0 w (x :: houB hb (X.r K) :: K.blk :: (N ++ R))) (hK : HOk X K N) (hPl : Pl.Sublist N) : HAt B w0 w hb X Pl (x :: R) :=
 ⟨K, N, hO.perm (perm3.trans (.cons _ (.cons _ List.perm_middle.symm))), hK, hPl⟩
theorem mk_upd {X : HM} {m p i j : Int} : upd (fun j => accL (if j < i then X.mkA m p (X.ac j) else X.ac j)) i ((accL (if i < i then X.mkA m p (X.ac i) else X.ac i)).set 0 (iv ((X.ac i).cash + (X.ac i).pos m * (p - X.pr m)))) j = accL (if j < i + 1 then X.mkA m p (X.ac j) else X.ac j) := by
 unfold upd
 by_cases e : j = i
 ·rw [if_pos e, if_neg (by omega), if_pos (by omega), e]
  rfl
 ·rw [if_neg e]
  dsimp only
  by_cases c : j < i
  ·rw [if_pos c, if_pos (by omega)]
  ·rw [if_neg c, if_neg (by omega)]
theorem mark_any (hb B : Nat) (X : HM) (m p : Int) (Pl R : List (Option Blk)) (w0 w : World) (h : HAt B w0 w hb X Pl R) (hG : HG X) :
  Calls Try.prog 22 #[ptr hb, iv m, iv p] w fun e w' => ∃ v c, e = .returned (.tuple #[v, iv (X.mrk m p)]) ∧ IRow v 3 (X.mkl m p).length (fun i => iv (glH (X.mkl m p) i)) c ∧ (X.mkl m p).length ≤ 64 ∧ HAt B w0 w' hb (X.mark m p) Pl (c :: R) := by
 obtain ⟨K, N, hO, hK, hPl⟩ := h
 have hmem := hG.mem
 have hmo := hG.mo
 refine calls_of_run (F := [(0, _), (1, _), (2, _)]) Try.func22 rfl Try.ntmps22 rfl rfl <| run_seq <| run_region <| rl_v rfl rfl rfl (ov_assign rfl rfl) <| rl_v rfl rfl rfl (ov_assign rfl rfl) <| rl_nil <| run_seq <| run_seq <| run_region <| rl_v rfl rfl rfl (ov_move rfl rfl) <| rl_v rfl rfl rfl (ov_ptrnil rfl Try.underlying30 rfl) <| rl_nil <| run_cond_f rfl <| run_skip <| run_seq <| run_seq <| run_region <| rl_v rfl rfl rfl (ov_move rfl rfl) <| rl_v rfl rfl rfl (ov_lss rfl rfl rfl) <| rl_v rfl rfl rfl (ov_move rfl rfl) ?_
 first | refine rl_split_dec 14 rfl (fun g1 => ?_) (fun g1 => ?_) | refine rl_split 14 rfl (fun g1 => ?_) (fun g1 => ?_)
 ·refine rl_gskip rfl rfl rfl rfl rfl rfl <| rl_gskip rfl rfl rfl rfl rfl rfl <| rl_gskip rfl rfl rfl rfl rfl rfl <| rl_gskip rfl rfl rfl rfl rfl rfl <| rl_gskip rfl rfl rfl rfl rfl rfl <| rl_gskip rfl rfl rfl rfl rfl rfl <| rl_v rfl rfl rfl (ov_pick_t rfl rfl rfl) <| rl_nil <| run_cond_t rfl ?_
  have em : X.mrk m p = 4 := if_pos (.inl g1)
  have ex : X.mark m p = X := if_neg (by rw [em]; decide)
  have el : X.mkl m p = [] := if_neg (by rw [em]; decide)
  refine run_seq <| run_region <| rl_v rfl rfl rfl (ov_assign rfl rfl) <| rl_v rfl rfl rfl (ov_assign rfl rfl) <| rl_nil <| run_ret Try.func22 (res2 Try.results22 rfl rfl) ?_
  exact ⟨_, none, by rw [em], by rw [el]; exact IRow.nil _ _, by rw [el]; decide, by rw [ex]; exact HAt.push hO.nil_cons hK hPl⟩
 ·refine rl_gv rfl rfl rfl rfl rfl (ov_move rfl rfl) <| rl_gv rfl rfl rfl rfl rfl (ov_move rfl rfl) <| rl_gv rfl rfl rfl rfl rfl (ov_nil rfl rfl) <| rl_gv rfl rfl rfl rfl rfl (ov_fieldS rfl Try.underlying124 rfl (fo := 0) rfl (by kernel_rfl) rfl) ?_
  refine rl_gv rfl rfl rfl rfl rfl (ov_load rfl Try.underlying3 rfl rfl (by exact hO.cellL 0 rfl (off := 0) rfl)) ?_
  refine rl_gv rfl rfl rfl rfl rfl (ov_geq rfl rfl rfl) <| rl_v rfl rfl rfl (ov_pick_f rfl rfl rfl) <| rl_nil ?_
  first | refine run_cond_dec rfl (fun g2 => ?_) (fun g2 => ?_) | refine run_cond rfl (fun g2 => ?_) (fun g2 => ?_)
  ·have g2' : X.mo ≤ m := g2
   have em : X.mrk m p = 4 := if_pos (.inr g2')
   have ex : X.mark m p = X := if_neg (by rw [em]; decide)
   have el : X.mkl m p = [] := if_neg (by rw [em]; decide)
   refine run_seq <| run_region <| rl_v rfl rfl rfl (ov_assign rfl rfl) <| rl_v rfl rfl rfl (ov_assign rfl rfl) <| rl_nil <| run_ret Try.func22 (res2 Try.results22 rfl rfl) ?_
   exact ⟨_, none, by rw [em], by rw [el]; exact IRow.nil _ _, by rw [el]; decide, by rw [ex]; exact HAt.push hO.nil_cons hK hPl⟩
  ·have g2' : ¬ X.mo ≤ m := g2
   have em0 : X.mrk m p = if 1 ≤ p ∧ p ≤ 1000000 then 0 else 1 := if_neg fun h => h.elim g1 g2'
   refine run_skip <| run_seq <| run_seq <| run_region <| rl_v rfl rfl rfl (ov_move rfl rfl) ?_
   refine rl_call callable_54 rfl rfl rfl rfl rfl rfl (in_any p 1 1000000 w) (fun e2 w3 hp4 => ?_)
   obtain ⟨rfl, hw⟩ := hp4
   refine ⟨_, rfl, ?_⟩
   subst hw
   refine rl_v rfl rfl rfl (ov_not rfl rfl) <| rl_nil ?_
   first | refine run_cond_dec rfl (fun g3 => ?_) (fun g3 => ?_) | refine run_cond rfl (fun g3 => ?_) (fun g3 => ?_)
   ·have em : X.mrk m p = 1 := em0.trans (if_neg (ndt g3))
    have ex : X.mark m p = X := if_neg (by rw [em]; decide)
    have el : X.mkl m p = [] := if_neg (by rw [em]; decide)
    refine run_seq <| run_region <| rl_v rfl rfl rfl (ov_assign rfl rfl) <| rl_v rfl rfl rfl (ov_assign rfl rfl) <| rl_nil <| run_ret Try.func22 (res2 Try.results22 rfl rfl) ?_
    exact ⟨_, none, by rw [em], by rw [el]; exact IRow.nil _ _, by rw [el]; decide, by rw [ex]; exact HAt.push hO.nil_cons hK hPl⟩
   ·have g3' := ndf g3
    have em : X.mrk m p = 0 := em0.trans (if_pos g3')
    have ex : X.mark m p = { X with ac := fun j => X.mkA m p (X.ac j), pr := upd X.pr m p } := if_pos em
    have el : X.mkl m p = (X.mark m p).cls X.mem := if_pos em
    have hm0 : 0 ≤ m := by omega
    have hm1 : m < 12 := by omega
    have hpr := hG.pr m hm0 hm1
    refine run_skip <| run_seq <| run_seq <| run_region <| rl_v rfl rfl rfl (ov_move rfl rfl) <| rl_v rfl rfl rfl (ov_nil rfl rfl) <| rl_v rfl rfl rfl (ov_fieldS rfl Try.underlying124 rfl (fo := 17) rfl (by kernel_rfl) rfl) ?_
    refine rl_v rfl rfl rfl (ov_load rfl Try.underlying120 rfl rfl (by exact hO.cellL 0 rfl (off := 17) rfl)) ?_
    refine rl_v rfl rfl rfl (ov_len rfl Try.underlying120 rfl) <| rl_v rfl rfl rfl (ov_move rfl rfl) <| rl_nil <| run_block <| Run.keep [0, 1, 2, 29, 30] (F' := [(0, _), (1, _), (2, _), (29, _), (30, _)]) rfl <| run_loop2 (fun (i : Int) (c : Option Blk) => [(30, .int .i64 i)]) [0, 1, 2, 29] (fun (i : Int) (c : Option Blk) (w5 : World) => (0 ≤ i ∧ i ≤ X.mem) ∧ SRow (.slice (some ⟨K.ab, 0, none⟩) X.mem K.acap) 127 15 X.mem (fun j => accL (if j < i then X.mkA m p (X.ac j) else X.ac j)) c ∧ Own B w0 w5 (houB hb (X.r K) :: c :: (N ++ R))) (fun (i : Int) (c : Option Blk) => ((X.mem : Int) - i).toNat) (0) (K.blk) ?_ (And.intro (by exact slot_int rfl (by first | omega)) (And.intro rfl (And.intro rfl (And.intro rfl (And.intro rfl trivial))))) ?_
    ·exact ⟨by omega, hK.acc.congr (fun j j0 _ => by rw [if_neg (by omega)]), hO⟩
    intro i c w5 hIw5 ih6
    obtain ⟨hi, hrw, hO1⟩ := hIw5
    show Run _ _ _ _ [(30, _), (0, _), (1, _), (2, _), (29, _)] _ _
    refine run_seq <| run_region <| rl_v rfl rfl rfl (ov_lss rfl rfl rfl) <| rl_nil <| run_seq ?_
    first | refine run_cond_dec rfl (fun h1 => ?_) (fun h1 => ?_) | refine run_cond rfl (fun h1 => ?_) (fun h1 => ?_)
    ·have h1' : i < (X.mem : Int) := h1
     have hps := hG.pos i hi.1 h1' m hm0 hm1
     have hca := hG.cash i hi.1 h1'
     have hmul := mulAbs (a := (X.ac i).pos m) (b := p - X.pr m) (A := 1000000) (B := 1000000) (by omega) (by omega)
     have hrd : ∀ {w' : World}, Own B w0 w' (houB hb (X.r K) :: c :: (N ++ R)) → ∀ fo, fo < 15 → w'.cell? ⟨K.ab, 0 + i.toNat * 15 + fo, none⟩ = some ((accL (X.ac i)).getD fo undef) := fun hO' fo hf => by
      obtain ⟨b, e1, h⟩ := hrw.openS hO' 1 rfl
      have e2 := e1 (by omega)
      cases e2
      have := h i hi.1 h1' fo hf
      rw [if_neg (by omega)] at this
      exact this
     have hrp : ∀ {w' : World}, Own B w0 w' (houB hb (X.r K) :: c :: (N ++ R)) → w'.cell? ⟨K.ab, 0 + i.toNat * 15 + 2 + m.toNat, none⟩ = some (iv ((X.ac i).pos m)) := fun hO' => by
      have h := hrd hO' (2 + m.toNat) (by omega)
      rw [List.getD_eq_getElem?_getD, accL_pos _ hm0 hm1] at h
      rw [Nat.add_assoc]
      exact h
     refine run_skip <| run_seq <| run_block <| run_seq <| run_region <| rl_v rfl rfl rfl (ov_move rfl rfl) <| rl_v rfl rfl rfl (ov_assign rfl rfl) <| rl_nil <| run_seq <| run_region <| rl_v rfl rfl rfl (ov_move rfl rfl) <| rl_v rfl rfl rfl (ov_nil rfl rfl) <| rl_v rfl rfl rfl (ov_fieldS rfl Try.underlying124 rfl (fo := 17) rfl (by kernel_rfl) rfl) ?_
     refine rl_v rfl rfl rfl (ov_load rfl Try.underlying120 rfl rfl (by exact hO1.cellL 0 rfl (off := 17) rfl)) ?_
     refine rl_v rfl rfl rfl (ov_move rfl rfl) <| rl_v rfl rfl rfl (ov_index rfl Try.underlying120 (by kernel_rfl) (s := 15) rfl rfl ⟨hi.1, h1'⟩ rfl) ?_
     refine rl_v rfl rfl rfl (ov_assign rfl rfl) <| rl_nil <| run_tail 22 mixed (by kernel_rfl) ?_
     have hO8 := hO1.drew
     generalize World.drew w5 = w7 at hO8 ⊢
     refine rt_v rfl rfl rfl (ov_move rfl rfl) <| rt_v rfl rfl rfl (ov_nil rfl rfl) <| rt_v rfl rfl rfl (ov_fieldS rfl Try.underlying127 rfl (fo := 0) rfl (by kernel_rfl) rfl) ?_
     refine rt_v rfl rfl rfl (ov_load rfl Try.underlying2 rfl rfl (by exact (show _ = some (iv (X.ac i).cash) from hrd hO8 0 (by decide)))) ?_
     refine rt_v rfl rfl rfl (ov_move rfl rfl) <| rt_v rfl rfl rfl (ov_move rfl rfl) <| rt_v rfl rfl rfl (ov_nil rfl rfl) <| rt_v rfl rfl rfl (ov_fieldS rfl Try.underlying127 rfl (fo := 2) rfl (by kernel_rfl) rfl) ?_
     refine rt_v rfl rfl rfl (ov_indexA1 rfl Try.underlying118 (by kernel_rfl) rfl rfl ⟨by omega, by omega⟩) ?_
     refine rt_v rfl rfl rfl (ov_load rfl Try.underlying2 rfl rfl (by exact hrp hO8)) ?_
     refine rt_v rfl rfl rfl (ov_move rfl rfl) <| rt_v rfl rfl rfl (ov_move rfl rfl) <| rt_v rfl rfl rfl (ov_move rfl rfl) <| rt_v rfl rfl rfl (ov_nil rfl rfl) <| rt_v rfl rfl rfl (ov_fieldS rfl Try.underlying124 rfl (fo := 1) rfl (by kernel_rfl) rfl) ?_
     refine rt_v rfl rfl rfl (ov_indexA1 rfl Try.underlying118 (by kernel_rfl) rfl rfl ⟨by omega, by omega⟩) ?_
     refine rt_v rfl rfl rfl (ov_load rfl Try.underlying2 rfl rfl (by exact (show _ = some (iv (X.pr m)) from hO8.cellL 0 rfl (off := 1 + m.toNat) ((X.r K).pr_at hm0 hm1)))) ?_
     refine rt_v rfl rfl rfl (ov_sub rfl rfl rfl (by omega)) ?_
     refine rt_v rfl rfl rfl (ov_mul rfl rfl rfl (by omega)) ?_
     refine rt_v rfl rfl rfl (ov_add rfl rfl rfl (by omega)) ?_
     refine rt_v rfl rfl rfl (ov_nil rfl rfl) <| rt_v rfl rfl rfl (ov_fieldS rfl Try.underlying127 rfl (fo := 0) rfl (by kernel_rfl) rfl) ?_
     refine rt_nil <| rl_ow rfl (ow_storeR rfl rfl (by kernel_rfl) hO8 1 hrw rfl (fun _ => rfl) rfl ⟨hi.1, h1'⟩ rfl rfl rfl rfl) ?_
     rintro _ w9 ⟨c2, rfl, hO10, hR2, hs11⟩
     refine rl_nil <| run_inBlock <| run_region <| rl_v rfl rfl rfl (ov_add rfl rfl rfl (by omega)) ?_
     refine rl_v rfl rfl rfl (ov_move rfl rfl) <| rl_nil ?_
     refine Run.use (ih6 (i + 1) (c2) _ ?_ ?_) (And.intro (by exact slot_int rfl (by first | omega)) (And.intro rfl (And.intro rfl (And.intro rfl (And.intro rfl trivial)))))
     ·first | omega | (dsimp only; omega)
     ·exact ⟨by omega, hR2.congr fun j _ _ => mk_upd, hO10⟩
    ·have h1' : ¬ i < (X.mem : Int) := h1
     obtain rfl : i = X.mem := by omega
     refine run_exit rfl <| run_seq <| run_region <| rl_v rfl rfl rfl (ov_move rfl rfl) <| rl_v rfl rfl rfl (ov_move rfl rfl) <| rl_v rfl rfl rfl (ov_move rfl rfl) <| rl_v rfl rfl rfl (ov_nil rfl rfl) <| rl_v rfl rfl rfl (ov_fieldS rfl Try.underlying124 rfl (fo := 1) rfl (by kernel_rfl) rfl) ?_
     refine rl_v rfl rfl rfl (ov_indexA1 rfl Try.underlying118 (by kernel_rfl) rfl rfl ⟨by omega, by omega⟩) ?_
     refine rl_ow rfl (ow_storeLx rfl rfl (by kernel_rfl) hO1 0 rfl rfl (by show 0 + 1 + m.toNat < ((X.r K).l).length; simp [HR.l, monL]; omega) rfl rfl) ?_
     rintro _ w12 ⟨rfl, hO13, hs14⟩
     have eh : (X.r K).l.set (0 + 1 + m.toNat) (iv p) = ((X.mark m p).r { K with blk := c }).l := by rw [ex]; exact (X.r K).setPr hm0 hm1 p
     have hO2 : Own B w0 w12 (houB hb ((X.mark m p).r { K with blk := c }) :: c :: (N ++ R)) := by
      unfold houB
      rw [← eh]
      exact hO13
     have hK2 : HOk (X.mark m p) { K with blk := c } N := by
      rw [ex]
      exact ⟨hrw.congr fun j _ j1 => by rw [if_pos j1], hK.mv, hK.ct, hK.cz, hK.cc⟩
     have hX : (X.mark m p).mem = X.mem ∧ (X.mark m p).k = X.k ∧ (X.mark m p).mv = X.mv := by rw [ex]; exact ⟨rfl, rfl, rfl⟩
     refine rl_nil <| run_seq <| run_region <| rl_v rfl rfl rfl (ov_move rfl rfl) ?_
     refine rl_call callable_32 rfl rfl rfl rfl rfl rfl (calls_any hb B (X.mark m p) { K with blk := c } N _ w0 w12 hO2 0 1 rfl rfl hK2 (hK2.mv.sub (.cons _ (.cons _ (List.sublist_append_left _ _)))) (by rw [hX.1]; omega) (by rw [ex]; exact ⟨hG.rate, Nat.le_trans hG.k (by decide), hG.mv⟩) (by rw [ex]; exact fun i i0 i1 => (hG.pos i i0 i1).mono (by decide)) (by rw [ex]; exact ⟨fun j j0 j1 => by have := hG.pr j j0 j1; show 0 ≤ upd X.pr m p j ∧ upd X.pr m p j ≤ 3000000; unfold upd; split <;> omega⟩)) (fun e15 w16 hp17 => ?_)
     obtain ⟨v, cv, rfl, hrv, hlv, hO3⟩ := hp17
     refine ⟨_, rfl, ?_⟩
     rw [hX.1] at hrv hlv
     refine rl_v rfl rfl rfl (ov_assign rfl rfl) <| rl_v rfl rfl rfl (ov_assign rfl rfl) <| rl_nil <| run_ret Try.func22 (res2 Try.results22 rfl rfl) ?_
     exact ⟨v, cv, by rw [em], by rw [el]; exact hrv, by rw [el]; omega, HAt.push hO3 hK2 hPl⟩
end Go.Proofs.Ytfbbagnpdfafjaa
