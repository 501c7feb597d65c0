import Derived.Test.YtfbbagnpdfafjaaHcA
set_option maxRecDepth 100000
namespace Go.Proofs.Ytfbbagnpdfafjaa
open Go.RowKit Go.Proofs
theorem map_snoc (qb : Nat → Option Blk) (n : Nat) (x : Option Blk) : (List.range (n + 1)).map (fun r => if r = n then x else qb r) = (List.range n).map qb ++ [x] := by
 rw [List.range_succ, List.map_append]
 simp
 intro a ha e
 omega
theorem set_mid {qb : Nat → Option Blk} {m i : Nat} (hi : i < m) {H : List (Option Blk)} {x : Option Blk} : ((List.range m).map qb ++ H).set i x = (List.range m).map (fun j => if j = i then x else qb j) ++ H := by
 rw [List.set_append_left _ _ (by simpa using hi)]
 congr 1
 refine List.ext_getElem? fun j => ?_
 rw [List.getElem?_set, List.getElem?_map, List.getElem?_map]
 by_cases hj : j < m
 ·rw [List.getElem?_range hj]
  simp only [List.length_map, List.length_range, Option.map_some]
  by_cases e : i = j
  ·rw [if_pos e, if_pos (by omega), if_pos e.symm]
  ·rw [if_neg e, if_neg (fun h => e h.symm)]
 ·have : (List.range m)[j]? = none := List.getElem?_eq_none (by simpa using hj)
  rw [this]
  simp
  omega
theorem get_mid {qb : Nat → Option Blk} {m i : Nat} (hi : i < m) {H : List (Option Blk)} : ((List.range m).map qb ++ H)[i]? = some (qb i) := by
 rw [List.getElem?_append_left (by simpa using hi), List.getElem?_map, List.getElem?_range hi]
 rfl
structure GRo (R : List (Option Blk)) (X : HM) (K : GK) (pb ab cb : Option Blk) (qb : Nat → Option Blk) : Prop where
 pr : IRow (.slice K.pa X.mn K.pc) 2 X.mn (fun m => iv (X.pr m)) pb
 ar : SRow (.slice K.aa X.mem K.ac) 49 4 X.mem (fun i => gacL (X.ac i) (K.qa i) X.mn (K.qc i)) ab
 cr : SRow (.slice K.ca X.n K.cc) 146 5 X.n (fun i => ctL (X.ct i)) cb
 qr : ∀ i : Nat, i < X.mem → IRow (.slice (K.qa i) X.mn (K.qc i)) 2 X.mn (fun m => iv ((X.ac i).pos m)) (qb i)
 ms : SrcV R K.ma X.k (fun r => .slice (K.va r) X.mn (K.vc r))
 vv : ∀ i : Int, 0 ≤ i → i < X.k → SrcI R (K.va i) X.mn (X.mv i)
abbrev GL (X : HM) (pb ab cb : Option Blk) (qb : Nat → Option Blk) (H : List (Option Blk)) : List (Option Blk) := pb :: ab :: cb :: ((List.range X.mem).map qb ++ H)
theorem GRo.gin {R : List (Option Blk)} {X : HM} {K : GK} {pb ab cb : Option Blk} {qb : Nat → Option Blk} (h : GRo R X K pb ab cb qb) {H : List (Option Blk)} (hs : R.Sublist H) : GIn (GL X pb ab cb qb H) X K := by
 have hs' : R.Sublist (GL X pb ab cb qb H) := .cons _ (.cons _ (.cons _ (hs.trans (List.sublist_append_right _ H))))
 refine ⟨fun B w0 w hO => h.pr.reads hO 0 rfl, h.ms.sub hs', fun i i0 i1 => (h.vv i i0 i1).sub hs', Src.of_row h.ar (k := 1) rfl, fun i i0 i1 B w0 w hO => ?_, Src.of_row h.cr (k := 2) rfl⟩
 obtain ⟨q, rfl⟩ := Int.eq_ofNat_of_zero_le i0
 exact (h.qr q (by omega)).reads hO (q + 3) (get_mid (by omega))
theorem gFork_any (X : HM) (K : GK) (R : List (Option Blk)) (B : Nat) (H : List (Option Blk)) (w0 w : World) (hO : Own B w0 w H) (hK : GIn R X K) (hs : R.Sublist H) (hX : GG X) :
  Calls Try.prog 118 #[.agg (ghL X K).toArray] w fun e w' => ∃ L pb ab cb qb, e = .returned (.agg (ghL X L).toArray) ∧ GRo R X L pb ab cb qb ∧ Own B w0 w' (GL X pb ab cb qb H) := by
 have hG := hX.g
 have hmo := hG.mo
 have hmo1 := hX.mo
 have hmem := hG.mem
 have hnn := hG.n
 have hmn := X.mn_eq hX.mo
 obtain ⟨ab, ao, ea, ra⟩ := hK.av.at (by decide) (hO.sub hs) (by omega)
 refine calls_of_run (F := [(0, _)]) Try.func118 rfl Try.ntmps118 rfl rfl <| run_seq <| run_region <| rl_ow rfl (ow_box _ rfl rfl rfl rfl rfl hO) ?_
 rintro _ w1 ⟨b1, rfl, hO2, hs3⟩
 refine rl_ow rfl (ow_alloc _ rfl rfl rfl zero_34 rfl hO2) ?_
 rintro _ w4 ⟨b2, rfl, hO5, hs6⟩
 have hOn := hO5.nil_cons
 refine rl_nil <| run_seq <| run_region <| rl_v rfl rfl rfl (ov_assign rfl rfl) <| rl_nil <| run_seq <| run_region <| rl_v rfl rfl rfl (ov_assign rfl rfl) <| rl_nil <| run_seq <| run_region <| rl_v rfl rfl rfl (ov_assign rfl rfl) <| rl_nil <| run_seq <| run_region <| rl_v rfl rfl rfl (ov_move rfl rfl) <| rl_v rfl rfl rfl (ov_fieldS rfl Try.underlying34 rfl (fo := 6) rfl (by kernel_rfl) rfl) ?_
 refine rl_v rfl rfl rfl (ov_load rfl Try.underlying22 rfl rfl (by exact hOn.cellL 2 rfl (off := 6) rfl)) ?_
 refine rl_ow rfl (ow_appS rfl rfl rfl Try.underlying22 info_2 rfl hOn 0 (IRow.nil 2 (fun _ => iv 0)) rfl rfl rfl ((hK.pv B w0 _ (hOn.sub (.cons _ (.cons _ (.cons _ hs)))))) (fun _ => rfl) ⟨by omega, by omega⟩) ?_
 rintro _ w7 ⟨v12, c12, rfl, hO8, hr12, hs9⟩
 obtain ⟨a12, p12, rfl⟩ := hr12.val
 have hOn2 := hO8.nil_cons
 refine rl_v rfl rfl rfl (ov_assign rfl rfl) <| rl_nil <| run_seq <| run_region <| rl_v rfl rfl rfl (ov_move rfl rfl) <| rl_v rfl rfl rfl (ov_fieldS rfl Try.underlying34 rfl (fo := 8) rfl (by kernel_rfl) rfl) ?_
 refine rl_v rfl rfl rfl (ov_load rfl Try.underlying32 rfl rfl (by exact hOn2.cellL 3 rfl (off := 8) rfl)) ?_
 refine rl_ow rfl (ow_appSR (G := fun _ => []) rfl rfl rfl Try.underlying32 info_146 rfl rfl hOn2 0 (SRow.nil _ _ _) rfl rfl rfl (hK.cv B w0 _ (hOn2.sub (.cons _ (.cons _ (.cons _ (.cons _ hs)))))) (fun _ _ _ => ⟨rfl, rfl⟩) ⟨by omega, by omega⟩) ?_
 rintro _ w10 ⟨v16, c16, rfl, hO11, hr16, hs12⟩
 obtain ⟨a16, p16, rfl⟩ := hr16.val
 simp only [Nat.zero_add] at hr12 hr16
 have hrP : IRow (.slice a12 X.mn p12) 2 X.mn (fun m => iv (X.pr m)) c12 := hr12.congr fun i i0 i1 => by unfold joinF; rw [if_neg (by omega)]; exact congrArg (fun j => iv (X.pr j)) (by omega)
 have hrC : SRow (.slice a16 X.n p16) 146 5 X.n (fun i => ctL (X.ct i)) c16 := hr16.congr fun i i0 i1 => by unfold joinF; rw [if_neg (by omega)]; exact congrArg (fun j => ctL (X.ct j)) (by omega)
 obtain ⟨zz, hzz⟩ : ∃ zz, zz = some (lch b2 34 (ghL ⟨0, 0, fun _ => 0, 0, fun _ _ => 0, 0, 0, 0, fun _ => HA.z, 0, fun _ => Ct.z⟩ ⟨0, 0, 0, none, 0, 0, none, 0, none, 0, none, 0, none, 0, fun _ => none, fun _ => 0, fun _ => none, fun _ => 0⟩)) := ⟨_, rfl⟩
 have hO3 : Own B w0 w10 (some (lch b1 34 (ghL X K)) :: zz :: c16 :: c12 :: H) := by
  rw [hzz]
  exact hO11.perm ((List.perm_append_comm_assoc [_, _] [_, _] _).trans (.swap _ _ _))
 refine rl_v rfl rfl rfl (ov_assign rfl rfl) <| rl_nil <| run_seq <| run_seq <| run_region <| rl_v rfl rfl rfl (ov_assign rfl rfl) <| rl_nil <| run_block <| Run.keep [1, 2, 3, 4, 5, 6] (F' := [(1, _), (2, _), (3, _), (4, _), (5, _), (6, _)]) rfl <| run_loop4 (fun (i : Int) (n : Nat) (la : Option Addr) (lc : Nat) => [(4, .slice la n lc), (6, .int .i64 i)]) [1, 2, 3, 5] (fun (i : Int) (n : Nat) (la : Option Addr) (lc : Nat) (w13 : World) => i = n ∧ n ≤ X.mem ∧ ∃ (lb : Option Blk) (qa : Int → Option Addr) (qc : Int → Nat) (qb : Nat → Option Blk), SRow (.slice la n lc) 49 4 n (fun i => gacL (X.ac i) (qa i) X.mn (qc i)) lb ∧ (∀ j : Nat, j < n → IRow (.slice (qa j) X.mn (qc j)) 2 X.mn (fun m => iv ((X.ac j).pos m)) (qb j)) ∧ Own B w0 w13 (some (lch b1 34 (ghL X K)) :: zz :: lb :: ((List.range n).map qb ++ (c16 :: c12 :: H)))) (fun (i : Int) (n : Nat) (la : Option Addr) (lc : Nat) => X.mem - n) (0) (0) (none) (0) ?_ (And.intro rfl (And.intro (by exact slot_int rfl (by first | omega)) (And.intro rfl (And.intro rfl (And.intro rfl (And.intro rfl trivial)))))) ?_
 ·exact ⟨rfl, by omega, none, fun _ => none, fun _ => 0, fun _ => none, SRow.nil _ _ _, fun j hj => absurd hj (Nat.not_lt_zero _), hO3.nil_cons.perm (perm3 (a := none))⟩
 intro i n la lc w13 hIw13 ih14
 obtain ⟨hi, hn, lb, qa, qc, qb, hrl, hrq, hO4⟩ := hIw13
 show Run _ _ _ _ [(4, _), (6, _), (1, _), (2, _), (3, _), (5, _)] _ _
 refine run_seq <| run_seq <| run_region <| rl_v rfl rfl rfl (ov_move rfl rfl) <| rl_v rfl rfl rfl (ov_fieldS rfl Try.underlying34 rfl (fo := 7) rfl (by kernel_rfl) rfl) ?_
 refine rl_v rfl rfl rfl (ov_load rfl Try.underlying31 rfl rfl (by exact hO4.cellL 0 rfl (off := 7) rfl)) ?_
 refine rl_v rfl rfl rfl (ov_len rfl Try.underlying31 rfl) <| rl_v rfl rfl rfl (ov_lss rfl rfl rfl) <| rl_nil ?_
 first | refine run_cond_dec rfl (fun h1 => ?_) (fun h1 => ?_) | refine run_cond rfl (fun h1 => ?_) (fun h1 => ?_)
 ·have hsl : ∀ {a b c : Option Blk}, R.Sublist (a :: b :: c :: ((List.range n).map qb ++ (c16 :: c12 :: H))) := fun {a b c} => .cons _ (.cons _ (.cons _ ((List.Sublist.cons _ (.cons _ hs)).trans (List.sublist_append_right _ _))))
  have hqv := hK.qv i (by omega) (by omega)
  refine run_skip <| run_seq <| run_block <| run_seq <| run_region <| rl_v rfl rfl rfl (ov_fieldS rfl Try.underlying34 rfl (fo := 7) rfl (by kernel_rfl) rfl) ?_
  refine rl_v rfl rfl rfl (ov_load rfl Try.underlying31 rfl rfl (by exact hO4.cellL 0 rfl (off := 7) rfl)) ?_
  refine rl_v rfl rfl rfl (ov_move rfl rfl) <| rl_v rfl rfl rfl (ov_index rfl Try.underlying31 (by kernel_rfl) (s := 4) rfl rfl ⟨by omega, by omega⟩ (by exact (id ea))) ?_
  refine rl_v rfl rfl rfl (ov_loadE rfl Try.underlying49 rfl (by kernel_rfl) rfl ⟨by omega, by omega⟩ rfl (ra (hO4.sub hsl))) ?_
  refine rl_ow rfl (ow_alloc _ rfl rfl rfl zero_49 rfl hO4) ?_
  rintro _ w15 ⟨b7, rfl, hO16, hs17⟩
  refine rl_ow rfl (ow_storeW rfl rfl (by kernel_rfl) hO16 0 rfl rfl (by rfl) rfl (by rfl)) ?_
  rintro _ w18 ⟨rfl, hO19, hs20⟩
  have hOn3 := hO19.nil_cons
  refine rl_nil <| run_seq <| run_region <| rl_v rfl rfl rfl (ov_assign rfl rfl) <| rl_nil <| run_seq <| run_region <| rl_v rfl rfl rfl (ov_move rfl rfl) <| rl_v rfl rfl rfl (ov_fieldS rfl Try.underlying49 rfl (fo := 2) rfl (by kernel_rfl) rfl) ?_
  refine rl_v rfl rfl rfl (ov_load rfl Try.underlying22 rfl rfl (by exact hOn3.cellL 1 rfl (off := 2) rfl)) ?_
  refine rl_ow rfl (ow_appS rfl rfl rfl Try.underlying22 info_2 rfl hOn3 0 (IRow.nil 2 (fun _ => iv 0)) rfl rfl rfl ((hqv B w0 _ (hOn3.sub (.cons _ (.cons _ hsl))))) (fun _ => rfl) ⟨by omega, by omega⟩) ?_
  rintro _ w21 ⟨v32, c32, rfl, hO22, hr32, hs23⟩
  obtain ⟨a32, p32, rfl⟩ := hr32.val
  simp only [Nat.zero_add] at hr32
  refine rl_v rfl rfl rfl (ov_assign rfl rfl) <| rl_nil <| run_seq <| run_region <| rl_v rfl rfl rfl (ov_move rfl rfl) <| rl_v rfl rfl rfl (ov_fieldS rfl Try.underlying49 rfl (fo := 2) rfl (by kernel_rfl) rfl) ?_
  refine rl_ow rfl (ow_storeL rfl rfl (by kernel_rfl) hO22 1 rfl rfl rfl rfl rfl) ?_
  rintro _ w24 ⟨rfl, hO25, hs26⟩
  refine rl_nil <| run_region <| rl_v rfl rfl rfl (ov_move rfl rfl) <| rl_v rfl rfl rfl (ov_loadW rfl Try.underlying49 rfl (by kernel_rfl) rfl hO25 1 rfl) ?_
  refine rl_ow rfl (ow_build [_] rfl rfl rfl rfl rfl Try.underlying31 info_49 (by decide) hO25 rfl rfl) ?_
  rintro _ w27 ⟨b37, rfl, hO28, hs29⟩
  refine rl_ow rfl (ow_appR1 rfl rfl rfl Try.underlying31 info_49 rfl rfl hO28 4 hrl rfl rfl rfl rfl rfl ⟨by omega, by omega⟩) ?_
  rintro _ w30 ⟨v38, c38, rfl, hO31, hr38, hs32⟩
  obtain ⟨a38, p38, rfl⟩ := hr38.val
  have hO5 : Own B w0 w30 (some (lch b1 34 (ghL X K)) :: zz :: c38 :: ((List.range (n + 1)).map (fun r => if r = n then c32 else qb r) ++ (c16 :: c12 :: H))) := by
   rw [map_snoc, List.append_assoc]
   exact (hO31.sub (.cons_cons _ (.cons _ (.refl _)))).perm ((List.Perm.swap _ _ _).trans (.cons _ ((List.Perm.swap _ _ _).trans (.cons _ ((List.Perm.swap _ _ _).trans (.cons _ List.perm_middle.symm))))))
  simp only [Nat.zero_add] at hr38
  have hrl2 : SRow (.slice a38 (n + 1) p38) 49 4 (n + 1) (fun i => gacL (X.ac i) (upd qa n a32 i) X.mn (upd qc n p32 i)) c38 := hr38.congr fun j j0 j1 => by
   by_cases e : j = n
   ·rw [e, upd_same, upd_same, upd_same, ← hi]
    rfl
   ·rw [upd_ne _ _ e, upd_ne _ _ e, upd_ne _ _ e]
  have hrq2 : ∀ j : Nat, j < n + 1 → IRow (.slice (upd qa n a32 j) X.mn (upd qc n p32 j)) 2 X.mn (fun m => iv ((X.ac j).pos m)) (if j = n then c32 else qb j) := fun j hj => by
   by_cases e : j = n
   ·rw [if_pos e, e, upd_same, upd_same, ← hi]
    exact hr32.congr fun m m0 m1 => by unfold joinF; rw [if_neg (by omega)]; exact congrArg (fun k => iv ((X.ac i).pos k)) (by omega)
   ·rw [if_neg e, upd_ne _ _ (by omega), upd_ne _ _ (by omega)]
    exact hrq j (by omega)
  refine rl_v rfl rfl rfl (ov_assign rfl rfl) <| rl_nil <| run_inBlock <| run_region <| rl_v rfl rfl rfl (ov_move rfl rfl) <| rl_v rfl rfl rfl (ov_add rfl rfl rfl (by omega)) ?_
  refine rl_v rfl rfl rfl (ov_assign rfl rfl) <| rl_nil ?_
  refine Run.use (ih14 (i + 1) (n + 1) (a38) (p38) _ ?_ ?_) (And.intro rfl (And.intro (by exact slot_int rfl (by first | omega)) (And.intro rfl (And.intro rfl (And.intro rfl (And.intro rfl trivial))))))
  ·first | omega | (dsimp only; omega)
  ·exact ⟨by omega, by omega, c38, upd qa n a32, upd qc n p32, _, hrl2, hrq2, hO5⟩
 ·obtain rfl : X.mem = n := by omega
  refine run_exit rfl <| run_seq <| run_region <| rl_v rfl rfl rfl (ov_move rfl rfl) <| rl_v rfl rfl rfl (ov_fieldS rfl Try.underlying34 rfl (fo := 6) rfl (by kernel_rfl) rfl) ?_
  refine rl_ow rfl (ow_storeL rfl rfl (by kernel_rfl) hO4 0 rfl rfl rfl rfl rfl) ?_
  rintro _ w33 ⟨rfl, hO34, hs35⟩
  refine rl_nil <| run_seq <| run_region <| rl_v rfl rfl rfl (ov_move rfl rfl) <| rl_v rfl rfl rfl (ov_fieldS rfl Try.underlying34 rfl (fo := 8) rfl (by kernel_rfl) rfl) ?_
  refine rl_ow rfl (ow_storeL rfl rfl (by kernel_rfl) hO34 0 rfl rfl rfl rfl rfl) ?_
  rintro _ w36 ⟨rfl, hO37, hs38⟩
  refine rl_nil <| run_seq <| run_region <| rl_v rfl rfl rfl (ov_move rfl rfl) <| rl_v rfl rfl rfl (ov_fieldS rfl Try.underlying34 rfl (fo := 7) rfl (by kernel_rfl) rfl) ?_
  refine rl_ow rfl (ow_storeL rfl rfl (by kernel_rfl) hO37 0 rfl rfl rfl rfl rfl) ?_
  rintro _ w39 ⟨rfl, hO40, hs41⟩
  obtain ⟨L, hL⟩ : ∃ L : GK, L = { K with pa := a12, pc := p12, ca := a16, cc := p16, aa := la, ac := lc, qa := qa, qc := qc } := ⟨_, rfl⟩
  have hO6 : Own B w0 w39 (some (lch b1 34 (ghL X L)) :: some (lch b2 34 (ghL ⟨0, 0, fun _ => 0, 0, fun _ _ => 0, 0, 0, 0, fun _ => HA.z, 0, fun _ => Ct.z⟩ ⟨0, 0, 0, none, 0, 0, none, 0, none, 0, none, 0, none, 0, fun _ => none, fun _ => 0, fun _ => none, fun _ => 0⟩)) :: lb :: ((List.range X.mem).map qb ++ (c16 :: c12 :: H))) := by
   have h := hO40
   rw [hzz] at h
   simp only [Nat.zero_add] at h
   rw [hL]
   exact h
  refine rl_nil <| run_seq <| run_region <| rl_v rfl rfl rfl (ov_loadW rfl Try.underlying34 rfl (by kernel_rfl) rfl hO6 0 rfl) ?_
  refine rl_ow rfl (ow_storeW rfl rfl (by kernel_rfl) hO6 1 rfl rfl (by rfl) rfl (by rfl)) ?_
  rintro _ w42 ⟨rfl, hO43, hs44⟩
  have hO7 : Own B w0 w42 (GL X c12 lb c16 qb H) := hO43.tail.tail.perm ((List.Perm.cons _ (List.perm_middle.trans (.cons _ List.perm_middle))).trans (perm3.trans perm3))
  refine rl_nil <| run_ret Try.func118 (resW Try.results118 rfl Try.underlying34 rfl (by kernel_rfl) hO43 1 rfl) ?_
  exact ⟨L, c12, lb, c16, qb, rfl, by rw [hL]; exact ⟨hrP, hrl, hrC, hrq, hK.ms.sub (.refl _), hK.vv⟩, hO7⟩
theorem GRo.set {R : List (Option Blk)} {X : HM} {K : GK} {pb ab cb : Option Blk} {qb : Nat → Option Blk} (h : GRo R X K pb ab cb qb) {i : Int} {a : HA} {L : List Value} {c : Option Blk} (hp : a.pos = (X.acct i).pos) (hr : SRow (.slice K.aa X.mem K.ac) 49 4 X.mem (upd (fun i => gacL (X.ac i) (K.qa i) X.mn (K.qc i)) (i - 1) L) c) (e : L = gacL a (K.qa (i - 1)) X.mn (K.qc (i - 1))) : GRo R (X.setA i a) K pb c cb qb := by
 refine ⟨h.pr, hr.congr fun j _ _ => ?_, h.cr, fun j hj => ?_, h.ms, h.vv⟩
 ·show _ = gacL (upd X.ac (i - 1) a j) (K.qa j) X.mn (K.qc j)
  unfold upd
  split
  ·rename_i ej; rw [ej]; exact e
  ·rfl
 ·have h1 := h.qr j hj
  show IRow _ _ X.mn (fun m => iv ((upd X.ac (i - 1) a j).pos m)) (qb j)
  unfold upd
  split
  ·rename_i ej
   rw [hp]
   refine h1.congr fun m _ _ => ?_
   show iv ((X.ac j).pos m) = iv ((X.ac (i - 1)).pos m)
   rw [ej]
  ·exact h1
theorem gCash_any (X : HM) (K : GK) (i n : Int) (R : List (Option Blk)) (pb ab cb : Option Blk) (qb : Nat → Option Blk) (B : Nat) (H : List (Option Blk)) (w0 w : World) (hO : Own B w0 w (GL X pb ab cb qb H)) (hG : GRo R X K pb ab cb qb) (hi : 1 ≤ i ∧ i ≤ X.mem) (hm64 : X.mem ≤ 64) (hb : -9223372036854775808 ≤ (X.acct i).cash + n ∧ (X.acct i).cash + n ≤ 9223372036854775807) :
  Calls Try.prog 117 #[.agg (ghL X K).toArray, iv i, iv n] w fun e w' => e = .returned (.agg (ghL X K).toArray) ∧ ∃ ab', GRo R (X.setA i { X.acct i with cash := (X.acct i).cash + n }) K pb ab' cb qb ∧ Own B w0 w' (GL X pb ab' cb qb H) := by
 obtain ⟨a0, ea, hcap⟩ := hG.ar.atZero (by omega)
 have hidx : 0 ≤ i - 1 ∧ i - 1 < (X.mem : Int) := by omega
 refine calls_of_run (F := [(0, _), (1, _), (2, _)]) Try.func117 rfl Try.ntmps117 rfl rfl <| run_seq <| run_region <| rl_ow rfl (ow_box _ rfl rfl rfl rfl rfl hO) ?_
 rintro _ w1 ⟨b3, rfl, hO2, hs3⟩
 refine rl_ow rfl (ow_alloc _ rfl rfl rfl zero_34 rfl hO2) ?_
 rintro _ w4 ⟨b6, rfl, hO5, hs6⟩
 obtain ⟨a1, e1, ra⟩ := hG.ar.openS hO5 3 rfl
 have e2 := e1 (by omega)
 rw [ea] at e2
 cases e2
 refine rl_nil <| run_seq <| run_region <| rl_v rfl rfl rfl (ov_fieldS rfl Try.underlying34 rfl (fo := 7) rfl (by kernel_rfl) rfl) ?_
 refine rl_v rfl rfl rfl (ov_load rfl Try.underlying31 rfl rfl (by exact hO5.cellL 1 rfl (off := 7) rfl)) ?_
 refine rl_v rfl rfl rfl (ov_move rfl rfl) <| rl_v rfl rfl rfl (ov_sub rfl rfl rfl (by omega)) ?_
 refine rl_v rfl rfl rfl (ov_index rfl Try.underlying31 (by kernel_rfl) (s := 4) rfl rfl hidx (by exact (id ea))) ?_
 refine rl_v rfl rfl rfl (ov_loadE rfl Try.underlying49 rfl (by kernel_rfl) rfl ⟨by omega, by omega⟩ rfl (ra)) ?_
 refine rl_ow rfl (ow_alloc _ rfl rfl rfl zero_49 rfl hO5) ?_
 rintro _ w7 ⟨b7, rfl, hO8, hs9⟩
 refine rl_ow rfl (ow_storeW rfl rfl (by kernel_rfl) hO8 0 rfl rfl (by rfl) rfl (by rfl)) ?_
 rintro _ w10 ⟨rfl, hO11, hs12⟩
 refine rl_nil <| run_seq <| run_region <| rl_v rfl rfl rfl (ov_fieldS rfl Try.underlying49 rfl (fo := 0) rfl (by kernel_rfl) rfl) ?_
 refine rl_v rfl rfl rfl (ov_load rfl Try.underlying2 rfl rfl (by exact (show _ = some (iv (X.acct i).cash) from hO11.cellL 0 rfl (off := 0) rfl))) ?_
 refine rl_v rfl rfl rfl (ov_move rfl rfl) <| rl_v rfl rfl rfl (ov_add rfl rfl rfl hb) <| rl_v rfl rfl rfl (ov_fieldS rfl Try.underlying49 rfl (fo := 0) rfl (by kernel_rfl) rfl) ?_
 refine rl_ow rfl (ow_storeL rfl rfl (by kernel_rfl) hO11 0 rfl rfl rfl rfl rfl) ?_
 rintro _ w13 ⟨rfl, hO14, hs15⟩
 refine rl_nil <| run_seq <| run_region <| rl_v rfl rfl rfl (ov_fieldS rfl Try.underlying34 rfl (fo := 7) rfl (by kernel_rfl) rfl) ?_
 refine rl_v rfl rfl rfl (ov_load rfl Try.underlying31 rfl rfl (by exact hO14.cellL 2 rfl (off := 7) rfl)) ?_
 refine rl_v rfl rfl rfl (ov_move rfl rfl) <| rl_v rfl rfl rfl (ov_sub rfl rfl rfl (by omega)) ?_
 refine rl_v rfl rfl rfl (ov_loadW rfl Try.underlying49 rfl (by kernel_rfl) rfl hO14 0 rfl) ?_
 refine rl_v rfl rfl rfl (ov_index rfl Try.underlying31 (by kernel_rfl) (s := 4) rfl rfl hidx (by exact (id ea))) ?_
 refine rl_ow rfl (ow_storeS rfl rfl (by kernel_rfl) hO14 hG.ar (kk := 4) rfl (fun _ => ea) rfl hidx rfl rfl (by kernel_rfl)) ?_
 rintro _ w16 ⟨c9, rfl, hO17, hR2, hs18⟩
 refine rl_nil <| run_seq <| run_region <| rl_v rfl rfl rfl (ov_loadW rfl Try.underlying34 rfl (by kernel_rfl) rfl hO17 2 rfl) ?_
 refine rl_ow rfl (ow_storeW rfl rfl (by kernel_rfl) hO17 1 rfl rfl (by rfl) rfl (by rfl)) ?_
 rintro _ w19 ⟨rfl, hO20, hs21⟩
 refine rl_nil <| run_ret Try.func117 (resW Try.results117 rfl Try.underlying34 rfl (by kernel_rfl) hO20 1 rfl) ?_
 exact ⟨rfl, c9, hG.set (a := { X.acct i with cash := (X.acct i).cash + n }) rfl hR2 rfl, hO20.tail.tail.tail⟩
theorem gHold_any (X : HM) (K : GK) (i m n : Int) (R : List (Option Blk)) (pb ab cb : Option Blk) (qb : Nat → Option Blk) (B : Nat) (H : List (Option Blk)) (w0 w : World) (hO : Own B w0 w (GL X pb ab cb qb H)) (hG : GRo R X K pb ab cb qb) (hi : 1 ≤ i ∧ i ≤ X.mem) (hm64 : X.mem ≤ 64) (hmo : 1 ≤ X.mo ∧ X.mo ≤ 12) (hm : 0 ≤ m ∧ m < X.mo) (hb : -9223372036854775808 ≤ (X.acct i).pos m + n ∧ (X.acct i).pos m + n ≤ 9223372036854775807) :
  Calls Try.prog 121 #[.agg (ghL X K).toArray, iv i, iv m, iv n] w fun e w' => e = .returned (.agg (ghL X K).toArray) ∧ ∃ qb', GRo R (X.setA i { X.acct i with pos := upd (X.acct i).pos m ((X.acct i).pos m + n) }) K pb ab cb qb' ∧ Own B w0 w' (GL X pb ab cb qb' H) := by
 obtain ⟨a0, ea, hcap⟩ := hG.ar.atZero (by omega)
 have hmn := X.mn_eq hmo.1
 have hidx : 0 ≤ i - 1 ∧ i - 1 < (X.mem : Int) := by omega
 have hcast : (((i - 1).toNat : Nat) : Int) = i - 1 := Int.toNat_of_nonneg hidx.1
 have hqr := hG.qr (i - 1).toNat (by omega)
 rw [hcast] at hqr
 obtain ⟨q0, eq⟩ := hqr.addr
 have eq' := eq (by omega)
 refine calls_of_run (F := [(0, _), (1, _), (2, _), (3, _)]) Try.func121 rfl Try.ntmps121 rfl rfl <| run_seq <| run_region <| rl_ow rfl (ow_box _ rfl rfl rfl rfl rfl hO) ?_
 rintro _ w1 ⟨b4, rfl, hO2, hs3⟩
 refine rl_ow rfl (ow_alloc _ rfl rfl rfl zero_34 rfl hO2) ?_
 rintro _ w4 ⟨b8, rfl, hO5, hs6⟩
 obtain ⟨a1, e1, ra⟩ := hG.ar.openS hO5 3 rfl
 have e2 := e1 (by omega)
 rw [ea] at e2
 cases e2
 obtain ⟨q1, e3, rq⟩ := hqr.openS hO5 ((i - 1).toNat + 5) (get_mid (by omega))
 have e4 := e3 (by omega)
 rw [eq'] at e4
 cases e4
 refine rl_nil <| run_seq <| run_region <| rl_v rfl rfl rfl (ov_fieldS rfl Try.underlying34 rfl (fo := 7) rfl (by kernel_rfl) rfl) ?_
 refine rl_v rfl rfl rfl (ov_load rfl Try.underlying31 rfl rfl (by exact hO5.cellL 1 rfl (off := 7) rfl)) ?_
 refine rl_v rfl rfl rfl (ov_move rfl rfl) <| rl_v rfl rfl rfl (ov_sub rfl rfl rfl (by omega)) ?_
 refine rl_v rfl rfl rfl (ov_index rfl Try.underlying31 (by kernel_rfl) (s := 4) rfl rfl hidx (by exact (id ea))) ?_
 refine rl_v rfl rfl rfl (ov_fieldS rfl Try.underlying49 rfl (fo := 2) rfl (by kernel_rfl) rfl) ?_
 refine rl_v rfl rfl rfl (ov_load rfl Try.underlying22 rfl rfl (by exact (show _ = some (.slice (K.qa (i - 1)) X.mn (K.qc (i - 1))) from ra (i - 1) hidx.1 hidx.2 2 (by decide)))) ?_
 refine rl_v rfl rfl rfl (ov_assign rfl rfl) <| rl_nil <| run_seq <| run_region <| rl_v rfl rfl rfl (ov_move rfl rfl) <| rl_v rfl rfl rfl (ov_move rfl rfl) <| rl_v rfl rfl rfl (ov_move rfl rfl) <| rl_v rfl rfl rfl (ov_move rfl rfl) <| rl_v rfl rfl rfl (ov_index1 rfl Try.underlying22 (by kernel_rfl) rfl rfl ⟨by omega, by omega⟩ (by exact (id eq'))) ?_
 refine rl_v rfl rfl rfl (ov_load rfl Try.underlying2 rfl rfl (by exact (show _ = some (iv ((X.acct i).pos m)) from rq m hm.1 (by omega)))) ?_
 refine rl_v rfl rfl rfl (ov_move rfl rfl) <| rl_v rfl rfl rfl (ov_add rfl rfl rfl hb) <| rl_v rfl rfl rfl (ov_index1 rfl Try.underlying22 (by kernel_rfl) rfl rfl ⟨by omega, by omega⟩ (by exact (id eq'))) ?_
 refine rl_ow rfl (ow_storeI1 rfl rfl (by kernel_rfl) hO5 ((i - 1).toNat + 5) hqr (get_mid (by omega)) eq rfl ⟨hm.1, by omega⟩ rfl rfl) ?_
 rintro _ w7 ⟨c9, rfl, hO8, hR2, hs9⟩
 have hO5 : Own B w0 w7 (some (lch b8 _ _) :: some (lch b4 34 (ghL X K)) :: pb :: ab :: cb :: (((List.range X.mem).map qb ++ H).set (i - 1).toNat c9)) := hO8
 rw [set_mid (by omega)] at hO5
 refine rl_nil <| run_seq <| run_region <| rl_v rfl rfl rfl (ov_loadW rfl Try.underlying34 rfl (by kernel_rfl) rfl hO5 1 rfl) ?_
 refine rl_ow rfl (ow_storeW rfl rfl (by kernel_rfl) hO5 0 rfl rfl (by rfl) rfl (by rfl)) ?_
 rintro _ w10 ⟨rfl, hO11, hs12⟩
 have hG2 : GRo R (X.setA i { X.acct i with pos := upd (X.acct i).pos m ((X.acct i).pos m + n) }) K pb ab cb (fun j => if j = (i - 1).toNat then c9 else qb j) := by
  refine ⟨hG.pr, hG.ar.congr fun j _ _ => ?_, hG.cr, fun j hj => ?_, hG.ms, hG.vv⟩
  ·show _ = gacL (upd X.ac (i - 1) _ j) (K.qa j) X.mn (K.qc j)
   unfold upd
   split
   ·rename_i ej; rw [ej]; rfl
   ·rfl
  ·have h1 := hG.qr j hj
   show IRow _ _ X.mn (fun m' => iv ((upd X.ac (i - 1) _ j).pos m')) _
   by_cases ej : j = (i - 1).toNat
   ·rw [if_pos ej, show ((j : Nat) : Int) = i - 1 by omega, upd_same]
    refine hR2.congr fun m' _ _ => ?_
    show upd (fun m => iv ((X.ac (i - 1)).pos m)) m (iv ((X.acct i).pos m + n)) m' = iv (upd (X.acct i).pos m ((X.acct i).pos m + n) m')
    unfold upd
    split <;> rfl
   ·rw [if_neg ej, upd_ne _ _ (by omega)]
    exact h1
 refine rl_nil <| run_ret Try.func121 (resW Try.results121 rfl Try.underlying34 rfl (by kernel_rfl) hO11 0 rfl) ?_
 exact ⟨rfl, _, hG2, hO11.tail.tail⟩
end Go.Proofs.Ytfbbagnpdfafjaa
