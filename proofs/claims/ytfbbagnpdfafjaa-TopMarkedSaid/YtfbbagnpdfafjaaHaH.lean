import Derived.Test.YtfbbagnpdfafjaaHaG
import Derived.Test.YtfbbagnpdfafjaaLate
set_option maxRecDepth 100000
namespace Go.Proofs.Ytfbbagnpdfafjaa
open Go.RowKit Go.Proofs
section
variable {P : Program} {N : Nat} {o : Oper} {F : Fr} {w : World} {B : Nat} {w0 : World} {H : List (Option Blk)}
theorem ow_storeLx {T : TypeId} {p x : Operand} {b off : Nat} {t : TypeId} {vs : List Value} {v : Value} (hd : o.dst = none) (ho : o.op = .store T p x) (hi : (P.info? T).map (·.size) = some 1)
  (hO : Own B w0 w H) (kk : Nat) (hk : H[kk]? = some (some (lch b t vs))) (hp : Fr.ev F p = some (.pointer (some ⟨b, off, none⟩))) (hlt : off < vs.length) (hx : Fr.ev F x = some v) (h1 : v.oneCell' = true) :
  OpW P N o F w (fun F' w' => F' = F ∧ Own B w0 w' (H.set kk (some (lch b t (vs.set off v)))) ∧ w'.heap.size = w.heap.size) :=
 ow_storeL hd ho hi hO kk hk hp (by simpa [Nat.blt_eq] using hlt) hx h1
end
def HM.due (X : HM) (c : Ct) : Int := c.q * (X.pr c.m - c.p)
def HM.newB (X : HM) (c : Ct) : HA := { X.acct c.b with pos := upd (X.acct c.b).pos c.m ((X.acct c.b).pos c.m + c.q), cash := (X.acct c.b).cash + X.due c }
def HM.newS (X : HM) (c : Ct) : HA := { X.acct c.s with pos := upd (X.acct c.s).pos c.m ((X.acct c.s).pos c.m - c.q), cash := (X.acct c.s).cash - X.due c }
def HM.alw (X : HM) (a b : HA) : Prop := X.need b ≤ b.cash ∨ X.need b ≤ X.need a ∧ a.cash ≤ b.cash
instance (X : HM) (a b : HA) : Decidable (X.alw a b) := by unfold HM.alw; exact inferInstance
def HM.trd (X : HM) (c : Ct) : Int := if X.par c ≠ 0 then X.par c else if X.alw (X.acct c.b) (X.newB c) ∧ X.alw (X.acct c.s) (X.newS c) then 0 else 90
def HM.trade (X : HM) (c : Ct) : HM := if X.trd c = 0 then { (X.setA c.b (X.newB c)).setA c.s (X.newS c) with n := X.n + 1, ct := upd X.ct X.n c } else X
theorem accL_setPosO {B : Nat} {w0 w : World} {H : List (Option Blk)} {b : Nat} {t : TypeId} {a : HA} {m x : Int} (h : Own B w0 w (some (lch b t ((accL a).set (0 + 2 + m.toNat) (iv x))) :: H)) (h0 : 0 ≤ m) (h1 : m < 12) : Own B w0 w (some (lch b t (accL { a with pos := upd a.pos m x })) :: H) := by
 rw [← accL_setPos a h0 h1 x]
 exact h
theorem accL_getPos {B : Nat} {w0 w : World} {H : List (Option Blk)} (hO : Own B w0 w H) (k : Nat) {b : Nat} {t : TypeId} {a : HA} (hk : H[k]? = some (some (lch b t (accL a)))) {m : Int} (h0 : 0 ≤ m) (h1 : m < 12) : w.cell? ⟨b, 0 + 2 + m.toNat, none⟩ = some (iv (a.pos m)) := by
 exact hO.cellL k hk (off := 2 + m.toNat) (accL_pos a h0 h1)
theorem SRow.atZero {ao : Option Addr} {m cap : Nat} {E : TypeId} {s n : Nat} {G : Int → List Value} {c : Option Blk} (h : SRow (.slice ao m cap) E s n G c) (hn : 1 ≤ n) : ∃ b, ao = some ⟨b, 0, none⟩ ∧ n ≤ cap := by
 rcases h with ⟨h1, h0, h2⟩ | ⟨b, cap', g, h1, h2, h3, h4, h5⟩
 ·omega
 ·cases h1
  exact ⟨b, rfl, h2⟩
theorem HOk.ctReads {X : HM} {K : HK} {N : List (Option Blk)} (hK : HOk X K N) : ∃ b, (0 < X.n → K.ca = some ⟨b, 0, none⟩) ∧ ∀ {B : Nat} {w0 w : World}, Own B w0 w N → ∀ i : Int, 0 ≤ i → i < X.n → ∀ fo, fo < 5 → w.cell? ⟨b, 0 + i.toNat * 5 + fo, none⟩ = some ((ctL (X.ct i)).getD fo undef) := by
 obtain ⟨b, hb⟩ := hK.cz
 refine ⟨b, hb, fun {B w0 w} hO i i0 i1 fo hf => ?_⟩
 obtain ⟨b', off, e, h⟩ := (hK.ct B w0 w hO).open (by decide)
 have e1 := e (by omega)
 rw [hb (by omega)] at e1
 cases e1
 exact h w (Below.refl _ _) i i0 i1 fo hf
theorem pos_upd {p : Int → Int} {m x : Int} {A C : Nat} (h : Bd p A) (hA : A ≤ C) (hx : x.natAbs ≤ C) : Bd (upd p m x) C := fun j j0 j1 => by
 unfold upd
 split
 ·exact hx
 ·exact Nat.le_trans (h j j0 j1) hA
theorem trade_any (hb B : Nat) (X : HM) (c : Ct) (Pl R : List (Option Blk)) (w0 w : World) (h : HAt B w0 w hb X Pl R) (hG : HG X) :
  Calls Try.prog 25 #[ptr hb, .agg (ctL c).toArray] w fun e w' => e = .returned (.tuple #[iv (if X.trd c = 0 then X.n + 1 else 0), iv (X.trd c)]) ∧ HAt B w0 w' hb (X.trade c) Pl R := by
 obtain ⟨K, N, hO, hK, hPl⟩ := h
 refine calls_of_run (F := [(0, _), (1, _)]) Try.func25 rfl Try.ntmps25 rfl rfl <| run_seq <| run_region <| rl_ow rfl (ow_box _ rfl rfl rfl rfl rfl hO) ?_
 rintro _ w1 ⟨b3, rfl, hO2, hs3⟩
 refine rl_v rfl rfl rfl (ov_assign rfl rfl) <| rl_v rfl rfl rfl (ov_assign rfl rfl) <| rl_nil <| run_seq <| run_region <| rl_v rfl rfl rfl (ov_move rfl rfl) <| rl_v rfl rfl rfl (ov_loadW rfl Try.underlying45 rfl (by kernel_rfl) rfl hO2 0 rfl) ?_
 refine rl_call callable_64 rfl rfl rfl rfl rfl rfl (parties_any hb B X K c N _ w0 w1 hO2 1 2 rfl rfl hK hG) (fun e4 w5 hp6 => ?_)
 obtain ⟨p1, p2, rfl, hpp, hO2⟩ := hp6
 refine ⟨_, rfl, ?_⟩
 refine rl_v rfl rfl rfl (ov_move rfl rfl) <| rl_v rfl rfl rfl (ov_extract rfl rfl (by rfl)) ?_
 refine rl_v rfl rfl rfl (ov_extract rfl rfl (by rfl)) ?_
 refine rl_v rfl rfl rfl (ov_extract rfl rfl (by rfl)) ?_
 refine rl_v rfl rfl rfl (ov_assign rfl rfl) <| rl_v rfl rfl rfl (ov_assign rfl rfl) <| rl_v rfl rfl rfl (ov_assign rfl rfl) <| rl_nil <| run_seq <| run_seq <| run_region <| rl_v rfl rfl rfl (ov_move rfl rfl) <| rl_v rfl rfl rfl (ov_neq rfl rfl rfl) <| rl_nil ?_
 first | refine run_cond_dec rfl (fun hc => ?_) (fun hc => ?_) | refine run_cond rfl (fun hc => ?_) (fun hc => ?_)
 ·have et : X.trd c = X.par c := if_pos hc
  have ex : X.trade c = X := if_neg (by rw [et]; exact hc)
  refine run_seq <| run_region <| rl_v rfl rfl rfl (ov_move rfl rfl) <| rl_v rfl rfl rfl (ov_assign rfl rfl) <| rl_v rfl rfl rfl (ov_assign rfl rfl) <| rl_nil <| run_ret Try.func25 (res2 Try.results25 rfl rfl) ?_
  exact ⟨by rw [if_neg (by rw [et]; exact hc), et]; rfl, by rw [ex]; exact ⟨K, N, hO2.tail, hK, hPl⟩⟩
 ·have hc0 : X.par c = 0 := by omega
  obtain ⟨rfl, rfl, hP⟩ := hpp hc0
  have hmo := hG.mo
  have hPm := hP.m
  have hPb := hP.b
  have hPs := hP.s
  have hPq := hP.q
  have hPp := hP.p
  have hmem := hG.mem
  have hm0 : 0 ≤ c.m := hPm.1
  have hm1 : c.m < 12 := by omega
  have hpr := hG.pr c.m hm0 hm1
  have hcb : (X.acct c.b).cash.natAbs ≤ 10000000000000000 := hG.cash (c.b - 1) (by omega) (by omega)
  have hcs : (X.acct c.s).cash.natAbs ≤ 10000000000000000 := hG.cash (c.s - 1) (by omega) (by omega)
  have hbB : Bd (X.acct c.b).pos 1000000 := hG.pos (c.b - 1) (by omega) (by omega)
  have hbS : Bd (X.acct c.s).pos 1000000 := hG.pos (c.s - 1) (by omega) (by omega)
  have hpb := hbB c.m hm0 hm1
  have hps := hbS c.m hm0 hm1
  have hdue := mulAbs (a := c.q) (b := X.pr c.m - c.p) (A := 1000000) (B := 1000000) (by omega) (by omega)
  have hdu : (X.due c).natAbs ≤ 1000000000000 := hdue
  refine run_skip <| run_seq <| Run.keep [0, 3, 6, 7] (F' := [(0, _), (3, _), (6, _), (7, _)]) rfl <| run_join2 (fun (b9 : Nat) (b10 : Nat) => [(9, ptr b9), (10, ptr b10)]) [0, 3, 6, 7] (fun (b9 : Nat) (b10 : Nat) (w7 : World) => Own B w0 w7 (some (lch b9 127 (accL (X.acct c.b))) :: some (lch b10 127 (accL (X.acct c.s))) :: some (lch b3 45 (ctL c)) :: houB hb (X.r K) :: K.blk :: (N ++ R))) (fun hk8 => ?_) ?_
  ·refine run_late (fun w' => Own B w0 w' (some (lch b3 45 (ctL c)) :: houB hb (X.r K) :: K.blk :: (N ++ R))) 9 mixed ?_
   have hO10 := hO2.drew
   generalize World.drew w5 = w9 at hO10 ⊢
   have hS11 : Own B w0 w9 (some (lch b3 45 (ctL c)) :: houB hb (X.r K) :: K.blk :: (N ++ R)) := by first | exact hO10 | exact hO10.tail | exact hO10.tail.tail | exact hO10.tail.tail.tail
   refine rhl_v 0 rfl (by kernel_rfl) rfl rfl rfl hS11 (fun _ hS => ov_move rfl rfl) ?_
   refine rhl_v 1 rfl (by kernel_rfl) rfl rfl rfl hS11 (fun _ hS => ov_nil rfl rfl) ?_
   refine rhl_v 2 rfl (by kernel_rfl) rfl rfl rfl hS11 (fun _ hS => ov_loadE rfl Try.underlying127 rfl (by kernel_rfl) rfl ⟨by omega, by omega⟩ rfl (hK.reads hS 2 rfl)) ?_
   refine rhl_v 3 rfl (by kernel_rfl) rfl rfl rfl hS11 (fun _ hS => ov_move rfl rfl) ?_
   refine rhl_v 4 rfl (by kernel_rfl) rfl rfl rfl hS11 (fun _ hS => ov_nil rfl rfl) ?_
   refine rhl_v 5 rfl (by kernel_rfl) rfl rfl rfl hS11 (fun _ hS => ov_loadE rfl Try.underlying127 rfl (by kernel_rfl) rfl ⟨by omega, by omega⟩ rfl (hK.reads hS 2 rfl)) ?_
   refine rhl_any2 6 7 (by kernel_rfl) ?_ ?_
   ·refine rcl_op rfl rfl (ow_alloc _ rfl rfl rfl zero_127 rfl hO10) ?_
    rintro _ w12 ⟨b9, rfl, hO13, hs14⟩
    have hS15 : Own B w0 w12 (some (lch b3 45 (ctL c)) :: houB hb (X.r K) :: K.blk :: (N ++ R)) := by first | exact hO13 | exact hO13.tail | exact hO13.tail.tail | exact hO13.tail.tail.tail
    refine ⟨hS15, ?_⟩
    refine rhl_any1 7 (by kernel_rfl) ?_
    refine rcl_op rfl rfl (ow_alloc _ rfl rfl rfl zero_127 rfl hO13) ?_
    rintro _ w16 ⟨b10, rfl, hO17, hs18⟩
    have hS19 : Own B w0 w16 (some (lch b3 45 (ctL c)) :: houB hb (X.r K) :: K.blk :: (N ++ R)) := by first | exact hO17 | exact hO17.tail | exact hO17.tail.tail | exact hO17.tail.tail.tail
    refine ⟨hS19, ?_⟩
    refine rhl_any1 8 (by kernel_rfl) ?_
    refine rcl_op rfl rfl (ow_storeW rfl rfl (by kernel_rfl) hO17 1 rfl rfl (by rfl) rfl (by rfl)) ?_
    rintro _ w20 ⟨rfl, hO21, hs22⟩
    have hS23 : Own B w0 w20 (some (lch b3 45 (ctL c)) :: houB hb (X.r K) :: K.blk :: (N ++ R)) := by first | exact hO21 | exact hO21.tail | exact hO21.tail.tail | exact hO21.tail.tail.tail
    refine ⟨hS23, ?_⟩
    refine rhl_any1 9 (by kernel_rfl) ?_
    refine rcl_last rfl rfl (ow_storeW rfl rfl (by kernel_rfl) hO21 0 rfl rfl (by rfl) rfl (by rfl)) ?_
    rintro _ w24 ⟨rfl, hO25, hs26⟩
    refine rhl_done (by kernel_rfl) ?_
    refine Run.use (hk8 (b9) (b10) _ ?_) (And.intro rfl (And.intro rfl (And.intro rfl (And.intro rfl (And.intro rfl (And.intro rfl trivial))))))
    exact hO25.swap
   ·refine rcl_op rfl rfl (ow_alloc _ rfl rfl rfl zero_127 rfl hO10) ?_
    rintro _ w27 ⟨b10, rfl, hO28, hs29⟩
    have hS30 : Own B w0 w27 (some (lch b3 45 (ctL c)) :: houB hb (X.r K) :: K.blk :: (N ++ R)) := by first | exact hO28 | exact hO28.tail | exact hO28.tail.tail | exact hO28.tail.tail.tail
    refine ⟨hS30, ?_⟩
    refine rhl_any1 6 (by kernel_rfl) ?_
    refine rcl_op rfl rfl (ow_alloc _ rfl rfl rfl zero_127 rfl hO28) ?_
    rintro _ w31 ⟨b9, rfl, hO32, hs33⟩
    have hS34 : Own B w0 w31 (some (lch b3 45 (ctL c)) :: houB hb (X.r K) :: K.blk :: (N ++ R)) := by first | exact hO32 | exact hO32.tail | exact hO32.tail.tail | exact hO32.tail.tail.tail
    refine ⟨hS34, ?_⟩
    refine rhl_any1 8 (by kernel_rfl) ?_
    refine rcl_op rfl rfl (ow_storeW rfl rfl (by kernel_rfl) hO32 0 rfl rfl (by rfl) rfl (by rfl)) ?_
    rintro _ w35 ⟨rfl, hO36, hs37⟩
    have hS38 : Own B w0 w35 (some (lch b3 45 (ctL c)) :: houB hb (X.r K) :: K.blk :: (N ++ R)) := by first | exact hO36 | exact hO36.tail | exact hO36.tail.tail | exact hO36.tail.tail.tail
    refine ⟨hS38, ?_⟩
    refine rhl_any1 9 (by kernel_rfl) ?_
    refine rcl_last rfl rfl (ow_storeW rfl rfl (by kernel_rfl) hO36 1 rfl rfl (by rfl) rfl (by rfl)) ?_
    rintro _ w39 ⟨rfl, hO40, hs41⟩
    refine rhl_done (by kernel_rfl) ?_
    refine Run.use (hk8 (b9) (b10) _ ?_) (And.intro rfl (And.intro rfl (And.intro rfl (And.intro rfl (And.intro rfl (And.intro rfl trivial))))))
    exact hO40
  ·intro b9 b10 w7 hJw7
   have hO3 := hJw7
   show Run _ _ _ _ [(9, _), (10, _), (0, _), (3, _), (6, _), (7, _)] _ _
   refine run_seq <| run_quiet mixed (by kernel_rfl) ?_
   refine rq_v rfl rfl rfl (fun _ => ov_fieldS rfl Try.underlying45 rfl (fo := 3) rfl (by kernel_rfl) rfl) ?_
   refine rq_v rfl rfl rfl (fun _ => ov_load rfl Try.underlying2 rfl rfl (by show World.cell? w7 _ = _; first | exact hO3.cellL 2 rfl (off := 3) rfl)) ?_
   refine rq_v rfl rfl rfl (fun _ => ov_move rfl rfl) ?_
   refine rq_v rfl rfl rfl (fun _ => ov_fieldS rfl Try.underlying45 rfl (fo := 2) rfl (by kernel_rfl) rfl) ?_
   refine rq_v rfl rfl rfl (fun _ => ov_load rfl Try.underlying3 rfl rfl (by show World.cell? w7 _ = _; first | exact hO3.cellL 2 rfl (off := 2) rfl)) ?_
   refine rq_v rfl rfl rfl (fun _ => ov_nil rfl rfl) ?_
   refine rq_v rfl rfl rfl (fun _ => ov_fieldS rfl Try.underlying124 rfl (fo := 1) rfl (by kernel_rfl) rfl) ?_
   refine rq_v rfl rfl rfl (fun _ => ov_indexA1 rfl Try.underlying118 (by kernel_rfl) rfl rfl ⟨by omega, by omega⟩) ?_
   refine rq_v rfl rfl rfl (fun _ => ov_load rfl Try.underlying2 rfl rfl (by show World.cell? w7 _ = _; first | exact (show _ = some (iv (X.pr c.m)) from hO3.cellL 3 rfl (off := 1 + c.m.toNat) ((X.r K).pr_at hm0 hm1)))) ?_
   refine rq_v rfl rfl rfl (fun _ => ov_fieldS rfl Try.underlying45 rfl (fo := 4) rfl (by kernel_rfl) rfl) ?_
   refine rq_v rfl rfl rfl (fun _ => ov_load rfl Try.underlying2 rfl rfl (by show World.cell? w7 _ = _; first | exact hO3.cellL 2 rfl (off := 4) rfl)) ?_
   refine rq_v rfl rfl rfl (fun _ => ov_sub rfl rfl rfl (by omega)) ?_
   refine rq_v rfl rfl rfl (fun _ => ov_mul rfl rfl rfl (by omega)) ?_
   refine rq_v rfl rfl rfl (fun _ => ov_assign rfl rfl) ?_
   refine rq_nil (fun n42 => ?_)
   have hO44 := hO3.drewN n42
   generalize World.drewN w7 n42 = w43 at hO44 ⊢
   refine run_seq <| run_tail 10 mixed (by kernel_rfl) ?_
   have hO46 := hO44.drew
   generalize World.drew w43 = w45 at hO46 ⊢
   refine rt_v rfl rfl rfl (ov_fieldS rfl Try.underlying45 rfl (fo := 2) rfl (by kernel_rfl) rfl) ?_
   refine rt_v rfl rfl rfl (ov_load rfl Try.underlying3 rfl rfl (by exact hO46.cellL 2 rfl (off := 2) rfl)) ?_
   refine rt_v rfl rfl rfl (ov_fieldS rfl Try.underlying127 rfl (fo := 2) rfl (by kernel_rfl) rfl) ?_
   refine rt_v rfl rfl rfl (ov_indexA1 rfl Try.underlying118 (by kernel_rfl) rfl rfl ⟨by omega, by omega⟩) ?_
   refine rt_v rfl rfl rfl (ov_load rfl Try.underlying2 rfl rfl (by exact accL_getPos hO46 0 rfl hm0 hm1)) ?_
   refine rt_v rfl rfl rfl (ov_fieldS rfl Try.underlying45 rfl (fo := 3) rfl (by kernel_rfl) rfl) ?_
   refine rt_v rfl rfl rfl (ov_load rfl Try.underlying2 rfl rfl (by exact hO46.cellL 2 rfl (off := 3) rfl)) ?_
   refine rt_v rfl rfl rfl (ov_add rfl rfl rfl (by omega)) ?_
   refine rt_v rfl rfl rfl (ov_fieldS rfl Try.underlying127 rfl (fo := 2) rfl (by kernel_rfl) rfl) ?_
   refine rt_v rfl rfl rfl (ov_indexA1 rfl Try.underlying118 (by kernel_rfl) rfl rfl ⟨by omega, by omega⟩) ?_
   refine rt_nil <| rl_ow rfl (ow_storeLx rfl rfl (by kernel_rfl) hO46 0 rfl rfl (by rw [accL_len]; omega) rfl rfl) ?_
   rintro _ w47 ⟨rfl, hO48, hs49⟩
   have hO4 := accL_setPosO hO48 hm0 hm1
   refine rl_nil <| run_seq <| run_tail 10 mixed (by kernel_rfl) ?_
   have hO51 := hO4.drew
   generalize World.drew w47 = w50 at hO51 ⊢
   refine rt_v rfl rfl rfl (ov_fieldS rfl Try.underlying45 rfl (fo := 2) rfl (by kernel_rfl) rfl) ?_
   refine rt_v rfl rfl rfl (ov_load rfl Try.underlying3 rfl rfl (by exact hO51.cellL 2 rfl (off := 2) rfl)) ?_
   refine rt_v rfl rfl rfl (ov_fieldS rfl Try.underlying127 rfl (fo := 2) rfl (by kernel_rfl) rfl) ?_
   refine rt_v rfl rfl rfl (ov_indexA1 rfl Try.underlying118 (by kernel_rfl) rfl rfl ⟨by omega, by omega⟩) ?_
   refine rt_v rfl rfl rfl (ov_load rfl Try.underlying2 rfl rfl (by exact accL_getPos hO51 1 rfl hm0 hm1)) ?_
   refine rt_v rfl rfl rfl (ov_fieldS rfl Try.underlying45 rfl (fo := 3) rfl (by kernel_rfl) rfl) ?_
   refine rt_v rfl rfl rfl (ov_load rfl Try.underlying2 rfl rfl (by exact hO51.cellL 2 rfl (off := 3) rfl)) ?_
   refine rt_v rfl rfl rfl (ov_sub rfl rfl rfl (by omega)) ?_
   refine rt_v rfl rfl rfl (ov_fieldS rfl Try.underlying127 rfl (fo := 2) rfl (by kernel_rfl) rfl) ?_
   refine rt_v rfl rfl rfl (ov_indexA1 rfl Try.underlying118 (by kernel_rfl) rfl rfl ⟨by omega, by omega⟩) ?_
   refine rt_nil <| rl_ow rfl (ow_storeLx rfl rfl (by kernel_rfl) hO51 1 rfl rfl (by rw [accL_len]; omega) rfl rfl) ?_
   rintro _ w52 ⟨rfl, hO53, hs54⟩
   have hO5 := (accL_setPosO hO53.swap hm0 hm1).swap
   refine rl_nil <| run_seq <| run_region <| rl_v rfl rfl rfl (ov_fieldS rfl Try.underlying127 rfl (fo := 0) rfl (by kernel_rfl) rfl) ?_
   refine rl_v rfl rfl rfl (ov_load rfl Try.underlying2 rfl rfl (by exact (show _ = some (iv (X.acct c.b).cash) from hO5.cellL 0 rfl (off := 0) rfl))) ?_
   refine rl_v rfl rfl rfl (ov_move rfl rfl) <| rl_v rfl rfl rfl (ov_add rfl rfl rfl (by omega)) ?_
   refine rl_v rfl rfl rfl (ov_fieldS rfl Try.underlying127 rfl (fo := 0) rfl (by kernel_rfl) rfl) ?_
   refine rl_ow rfl (ow_storeL rfl rfl (by kernel_rfl) hO5 0 rfl rfl rfl rfl rfl) ?_
   rintro _ w55 ⟨rfl, hO56, hs57⟩
   refine rl_nil <| run_seq <| run_region <| rl_v rfl rfl rfl (ov_fieldS rfl Try.underlying127 rfl (fo := 0) rfl (by kernel_rfl) rfl) ?_
   refine rl_v rfl rfl rfl (ov_load rfl Try.underlying2 rfl rfl (by exact (show _ = some (iv (X.acct c.s).cash) from hO56.cellL 1 rfl (off := 0) rfl))) ?_
   refine rl_v rfl rfl rfl (ov_move rfl rfl) <| rl_v rfl rfl rfl (ov_sub rfl rfl rfl (by omega)) ?_
   refine rl_v rfl rfl rfl (ov_fieldS rfl Try.underlying127 rfl (fo := 0) rfl (by kernel_rfl) rfl) ?_
   refine rl_ow rfl (ow_storeL rfl rfl (by kernel_rfl) hO56 1 rfl rfl rfl rfl rfl) ?_
   rintro _ w58 ⟨rfl, hO59, hs60⟩
   have hO6 : Own B w0 w58 (some (lch b9 127 (accL (X.newB c))) :: some (lch b10 127 (accL (X.newS c))) :: some (lch b3 45 (ctL c)) :: houB hb (X.r K) :: K.blk :: (N ++ R)) := hO59
   have hmvs : SrcS (some (lch b9 127 (accL (X.newB c))) :: some (lch b10 127 (accL (X.newS c))) :: some (lch b3 45 (ctL c)) :: houB hb (X.r K) :: K.blk :: (N ++ R)) K.ma 12 X.k (fun i => monL (X.mv i)) := hK.mv.sub (.cons _ (.cons _ (.cons _ (.cons _ (.cons _ (List.sublist_append_left _ _))))))
   have hqB : Bd (X.newB c).pos 2000000 := pos_upd hbB (by decide) (by omega)
   have hqS : Bd (X.newS c).pos 2000000 := pos_upd hbS (by decide) (by omega)
   have et : X.trd c = if X.alw (X.acct c.b) (X.newB c) ∧ X.alw (X.acct c.s) (X.newS c) then 0 else 90 := if_neg (by rw [hc0]; decide)
   refine rl_nil <| run_seq <| run_seq <| run_class (Cl B w0 (some (lch b9 127 (accL (X.newB c))) :: some (lch b10 127 (accL (X.newS c))) :: some (lch b3 45 (ctL c)) :: houB hb (X.r K) :: K.blk :: (N ++ R))) (⟨hO6.drew⟩) mixed (by kernel_rfl) ?_
   refine rk_v rfl rfl rfl (fun wq hQ => ov_move rfl rfl) ?_
   refine rk_v rfl rfl rfl (fun wq hQ => ov_move rfl rfl) ?_
   refine rk_v rfl rfl rfl (fun wq hQ => ov_nil rfl rfl) ?_
   refine rk_v rfl rfl rfl (fun wq hQ => ov_loadE rfl Try.underlying127 rfl (by kernel_rfl) rfl ⟨by omega, by omega⟩ rfl (hK.reads (hQ.own) 4 rfl)) ?_
   refine rk_v rfl rfl rfl (fun wq hQ => ov_loadW rfl Try.underlying127 rfl (by kernel_rfl) rfl (hQ.own) 0 rfl) ?_
   refine rk_call callable_65 rfl rfl rfl rfl rfl rfl (fun wq hQ => (allows_any hb B 3 (X.r K) X.mv (X.acct c.b) (X.newB c) _ w0 wq (hQ.own) rfl hmvs (hG.bd K) (hbB.mono (by decide)) hqB hG.pbd).mono fun _ _ h => ⟨h.1, ⟨h.2⟩⟩) ?_
   refine rk_v rfl rfl rfl (fun wq hQ => ov_not rfl rfl) ?_
   refine rk_v rfl rfl rfl (fun wq hQ => ov_move rfl rfl) ?_
   first | refine rk_split_dec 78 rfl (fun a1 => ?_) (fun a1 => ?_) | refine rk_split 78 rfl (fun a1 => ?_) (fun a1 => ?_)
   ·refine rk_gskip rfl rfl rfl rfl rfl rfl <| rk_gskip rfl rfl rfl rfl rfl rfl <| rk_gskip rfl rfl rfl rfl rfl rfl <| rk_gskip rfl rfl rfl rfl rfl rfl <| rk_gskip rfl rfl rfl rfl rfl rfl <| rk_gskip rfl rfl rfl rfl rfl rfl <| rk_gskip rfl rfl rfl rfl rfl rfl <| rk_v rfl rfl rfl (fun wq hQ => ov_pick_t rfl rfl rfl) ?_
    refine rk_nil (fun w65 hQ => ?_)
    refine run_cond_t rfl ?_
    have n1 : ¬ X.alw (X.acct c.b) (X.newB c) := ndt a1
    have em : X.trd c = 90 := et.trans (if_neg fun h => n1 h.1)
    have ex : X.trade c = X := if_neg (by rw [em]; decide)
    refine run_seq <| run_region <| rl_v rfl rfl rfl (ov_assign rfl rfl) <| rl_v rfl rfl rfl (ov_assign rfl rfl) <| rl_nil <| run_ret Try.func25 (res2 Try.results25 rfl rfl) ?_
    exact ⟨by rw [if_neg (by rw [em]; decide), em], by rw [ex]; exact ⟨K, N, (hQ.own).tail.tail.tail, hK, hPl⟩⟩
   ·refine rk_gv rfl rfl rfl rfl rfl (fun wq hQ => ov_move rfl rfl) ?_
    refine rk_gv rfl rfl rfl rfl rfl (fun wq hQ => ov_move rfl rfl) ?_
    refine rk_gv rfl rfl rfl rfl rfl (fun wq hQ => ov_nil rfl rfl) ?_
    refine rk_gv rfl rfl rfl rfl rfl (fun wq hQ => ov_loadE rfl Try.underlying127 rfl (by kernel_rfl) rfl ⟨by omega, by omega⟩ rfl (hK.reads (hQ.own) 4 rfl)) ?_
    refine rk_gv rfl rfl rfl rfl rfl (fun wq hQ => ov_loadW rfl Try.underlying127 rfl (by kernel_rfl) rfl (hQ.own) 1 rfl) ?_
    refine rk_gcall callable_65 rfl rfl rfl rfl rfl rfl rfl rfl (fun wq hQ => (allows_any hb B 3 (X.r K) X.mv (X.acct c.s) (X.newS c) _ w0 wq (hQ.own) rfl hmvs (hG.bd K) (hbS.mono (by decide)) hqS hG.pbd).mono fun _ _ h => ⟨h.1, ⟨h.2⟩⟩) ?_
    refine rk_gv rfl rfl rfl rfl rfl (fun wq hQ => ov_not rfl rfl) ?_
    refine rk_v rfl rfl rfl (fun wq hQ => ov_pick_f rfl rfl rfl) ?_
    refine rk_nil (fun w69 hQ => ?_)
    first | refine run_cond_dec rfl (fun a2 => ?_) (fun a2 => ?_) | refine run_cond rfl (fun a2 => ?_) (fun a2 => ?_)
    ·have n2 : ¬ X.alw (X.acct c.s) (X.newS c) := ndt a2
     have em : X.trd c = 90 := et.trans (if_neg fun h => n2 h.2)
     have ex : X.trade c = X := if_neg (by rw [em]; decide)
     refine run_seq <| run_region <| rl_v rfl rfl rfl (ov_assign rfl rfl) <| rl_v rfl rfl rfl (ov_assign rfl rfl) <| rl_nil <| run_ret Try.func25 (res2 Try.results25 rfl rfl) ?_
     exact ⟨by rw [if_neg (by rw [em]; decide), em], by rw [ex]; exact ⟨K, N, (hQ.own).tail.tail.tail, hK, hPl⟩⟩
    ·have y1 : X.alw (X.acct c.b) (X.newB c) := ndf a1
     have y2 : X.alw (X.acct c.s) (X.newS c) := ndf a2
     have em : X.trd c = 0 := et.trans (if_pos ⟨y1, y2⟩)
     have ex : X.trade c = { (X.setA c.b (X.newB c)).setA c.s (X.newS c) with n := X.n + 1, ct := upd X.ct X.n c } := if_pos em
     have hnn := hG.n
     have hcc := hK.cc
     refine run_skip <| run_seq <| run_held (fun w' => Own B w0 w' ([some (lch b9 127 (accL (X.newB c))), some (lch b10 127 (accL (X.newS c)))])) mixed ?_
     have hO71 := (hQ.own).drew
     generalize World.drew w69 = w70 at hO71 ⊢
     have hS72 : Own B w0 w70 ([some (lch b9 127 (accL (X.newB c))), some (lch b10 127 (accL (X.newS c)))]) := by exact hO71.sub (.cons_cons _ (.cons_cons _ (List.nil_sublist _)))
     refine rh_v 0 rfl (by kernel_rfl) rfl rfl rfl hS72 (fun _ hS => ov_move rfl rfl) ?_
     refine rh_v 1 rfl (by kernel_rfl) rfl rfl rfl hS72 (fun _ hS => ov_move rfl rfl) ?_
     refine rh_v 2 rfl (by kernel_rfl) rfl rfl rfl hS72 (fun _ hS => ov_loadW rfl Try.underlying127 rfl (by kernel_rfl) rfl hS 0 rfl) ?_
     refine rh_v 3 rfl (by kernel_rfl) rfl rfl rfl hS72 (fun _ hS => ov_loadW rfl Try.underlying127 rfl (by kernel_rfl) rfl hS 1 rfl) ?_
     refine rh_v 4 rfl (by kernel_rfl) rfl rfl rfl hS72 (fun _ hS => ov_nil rfl rfl) ?_
     refine rh_any1 5 (by kernel_rfl) ?_
     refine rc_op rfl rfl (ow_storeS rfl rfl (by kernel_rfl) hO71 hK.acc (kk := 4) rfl (fun _ => rfl) rfl ⟨by omega, by omega⟩ accL_len rfl (by kernel_rfl)) ?_
     rintro _ w73 ⟨c1, rfl, hO74, hR1, hs75⟩
     have hS76 : Own B w0 w73 ([some (lch b9 127 (accL (X.newB c))), some (lch b10 127 (accL (X.newS c)))]) := by exact hO74.sub (.cons_cons _ (.cons_cons _ (List.nil_sublist _)))
     refine ⟨hS76, ?_⟩
     refine rh_v 6 rfl (by kernel_rfl) rfl rfl rfl hS76 (fun _ hS => ov_nil rfl rfl) ?_
     refine rh_any1 7 (by kernel_rfl) ?_
     refine rc_op rfl rfl (ow_storeS rfl rfl (by kernel_rfl) hO74 hR1 (kk := 4) rfl (fun _ => rfl) rfl ⟨by omega, by omega⟩ accL_len rfl (by kernel_rfl)) ?_
     rintro _ w77 ⟨c2, rfl, hO78, hR2, hs79⟩
     have hS80 : Own B w0 w77 ([some (lch b9 127 (accL (X.newB c))), some (lch b10 127 (accL (X.newS c)))]) := by exact hO78.sub (.cons_cons _ (.cons_cons _ (List.nil_sublist _)))
     refine ⟨hS80, ?_⟩
     obtain ⟨cb, hca, hcr⟩ := hK.ctReads
     refine rh_done (by kernel_rfl) ?_
     refine run_seq <| run_late (fun w' => Own B w0 w' ([some (lch b3 45 (ctL c)), houB hb (X.r K)])) 21 mixed ?_
     have hO82 := hO78.drew
     generalize World.drew w77 = w81 at hO82 ⊢
     have hS83 : Own B w0 w81 ([some (lch b3 45 (ctL c)), houB hb (X.r K)]) := by first | exact hO82.sub (.cons _ (.cons _ (.cons_cons _ (.cons_cons _ (List.nil_sublist _))))) | exact hO82.sub (.cons _ (.cons _ (.cons _ (.cons_cons _ (.cons_cons _ (List.nil_sublist _))))))
     refine rhl_v 0 rfl (by kernel_rfl) rfl rfl rfl hS83 (fun _ hS => ov_move rfl rfl) ?_
     refine rhl_v 1 rfl (by kernel_rfl) rfl rfl rfl hS83 (fun _ hS => ov_move rfl rfl) ?_
     refine rhl_v 2 rfl (by kernel_rfl) rfl rfl rfl hS83 (fun _ hS => ov_nil rfl rfl) ?_
     refine rhl_v 3 rfl (by kernel_rfl) rfl rfl rfl hS83 (fun _ hS => ov_fieldS rfl Try.underlying124 rfl (fo := 18) rfl (by kernel_rfl) rfl) ?_
     refine rhl_v 4 rfl (by kernel_rfl) rfl rfl rfl hS83 (fun _ hS => ov_load rfl Try.underlying122 rfl rfl (by exact hS.cellL 1 rfl (off := 18) rfl)) ?_
     refine rhl_v 5 rfl (by kernel_rfl) rfl rfl rfl hS83 (fun _ hS => ov_move rfl rfl) ?_
     refine rhl_v 6 rfl (by kernel_rfl) rfl rfl rfl hS83 (fun _ hS => ov_nil rfl rfl) ?_
     refine rhl_v 7 rfl (by kernel_rfl) rfl rfl rfl hS83 (fun _ hS => ov_fieldS rfl Try.underlying124 rfl (fo := 18) rfl (by kernel_rfl) rfl) ?_
     refine rhl_v 8 rfl (by kernel_rfl) rfl rfl rfl hS83 (fun _ hS => ov_load rfl Try.underlying122 rfl rfl (by exact hS.cellL 1 rfl (off := 18) rfl)) ?_
     refine rhl_v 9 rfl (by kernel_rfl) rfl rfl rfl hS83 (fun _ hS => ov_len rfl Try.underlying122 rfl) ?_
     refine rhl_v 10 rfl (by kernel_rfl) rfl rfl rfl hS83 (fun _ hS => ov_move rfl rfl) ?_
     refine rhl_v 11 rfl (by kernel_rfl) rfl rfl rfl hS83 (fun _ hS => ov_nil rfl rfl) ?_
     refine rhl_v 12 rfl (by kernel_rfl) rfl rfl rfl hS83 (fun _ hS => ov_fieldS rfl Try.underlying124 rfl (fo := 18) rfl (by kernel_rfl) rfl) ?_
     refine rhl_v 13 rfl (by kernel_rfl) rfl rfl rfl hS83 (fun _ hS => ov_load rfl Try.underlying122 rfl rfl (by exact hS.cellL 1 rfl (off := 18) rfl)) ?_
     refine rhl_v 14 rfl (by kernel_rfl) rfl rfl rfl hS83 (fun _ hS => ov_len rfl Try.underlying122 rfl) ?_
     refine rhl_v 15 rfl (by kernel_rfl) rfl rfl rfl hS83 (fun _ hS => ov_slice3 X.n rfl Try.underlying122 (by kernel_rfl) (s := 5) rfl rfl rfl rfl rfl hcc) ?_
     refine rhl_v 16 rfl (by kernel_rfl) rfl rfl rfl hS83 (fun _ hS => ov_loadW rfl Try.underlying45 rfl (by kernel_rfl) rfl hS 0 rfl) ?_
     refine rhl_any1 17 (by kernel_rfl) ?_
     refine rcl_op rfl rfl (ow_build [_] rfl rfl rfl rfl rfl Try.underlying122 info_45 (by decide) hO82 rfl rfl) ?_
     rintro _ w84 ⟨b110, rfl, hO85, hs86⟩
     have hS87 : Own B w0 w84 ([some (lch b3 45 (ctL c)), houB hb (X.r K)]) := by first | exact hO85.sub (.cons _ (.cons _ (.cons_cons _ (.cons_cons _ (List.nil_sublist _))))) | exact hO85.sub (.cons _ (.cons _ (.cons _ (.cons_cons _ (.cons_cons _ (List.nil_sublist _))))))
     refine ⟨hS87, ?_⟩
     refine rhl_any1 18 (by kernel_rfl) ?_
     refine rcl_op rfl rfl (ow_appG rfl rfl rfl Try.underlying122 info_45 rfl rfl hO85 rfl rfl rfl hca (hcr (hO85.tail.sub (.cons _ (.cons _ (.cons _ (.cons _ (.cons _ (List.sublist_append_left _ _)))))))) ⟨by omega, by omega⟩) ?_
     rintro _ w88 ⟨v11, blk, rfl, hO89, hr11, hs90⟩
     have hS91 : Own B w0 w88 ([some (lch b3 45 (ctL c)), houB hb (X.r K)]) := by first | exact hO89.sub (.cons _ (.cons _ (.cons_cons _ (.cons_cons _ (List.nil_sublist _))))) | exact hO89.sub (.cons _ (.cons _ (.cons _ (.cons_cons _ (.cons_cons _ (List.nil_sublist _))))))
     refine ⟨hS91, ?_⟩
     obtain ⟨a11, c11, rfl⟩ := hr11.val
     refine rhl_any1 19 (by kernel_rfl) ?_
     refine rcl_op rfl rfl (ow_v rfl rfl (ov_nil rfl rfl)) ?_
     rintro _ _ ⟨rfl, hw92⟩
     replace hw92 := hw92.symm; subst hw92
     refine ⟨hS91, ?_⟩
     refine rhl_v 20 rfl (by kernel_rfl) rfl rfl rfl hS91 (fun _ hS => ov_fieldS rfl Try.underlying124 rfl (fo := 18) rfl (by kernel_rfl) rfl) ?_
     refine rhl_any1 21 (by kernel_rfl) ?_
     refine rcl_last rfl rfl (ow_storeL rfl rfl (by kernel_rfl) hO89 4 rfl rfl rfl rfl rfl) ?_
     rintro _ w93 ⟨rfl, hO94, hs95⟩
     obtain ⟨b11, hb11, hcap11⟩ := hr11.atZero (by omega)
     have hO9 := (hO94.sub (.cons_cons _ (.cons _ (.cons _ (.cons _ (List.Sublist.refl _)))))).perm (List.perm_middle (l₁ := [_, _])).symm
     have hK9 : HOk (X.trade c) { K with blk := c2, ca := a11, cc := c11 } (some blk :: N) := by
      rw [ex]
      refine ⟨hR2.congr fun j _ _ => ?_, hK.mv.cons, fun B w0 w hO => (hr11.congr (fun i _ _ => ?_)).reads hO 0 rfl, ⟨b11, fun _ => hb11⟩, hcap11⟩
      ·show _ = accL (upd (upd X.ac (c.b - 1) (X.newB c)) (c.s - 1) (X.newS c) j)
       unfold upd
       split
       ·rfl
       ·split <;> rfl
      ·show _ = ctL (upd X.ct X.n c i)
       unfold upd
       split <;> rfl
     have hO10 : Own B w0 w93 (houB hb ((X.trade c).r { K with blk := c2, ca := a11, cc := c11 }) :: c2 :: ((some blk :: N) ++ R)) := by rw [ex]; exact hO9
     refine rhl_done (by kernel_rfl) ?_
     refine run_seq <| run_region <| rl_v rfl rfl rfl (ov_move rfl rfl) <| rl_v rfl rfl rfl (ov_nil rfl rfl) <| rl_v rfl rfl rfl (ov_fieldS rfl Try.underlying124 rfl (fo := 18) rfl (by kernel_rfl) rfl) ?_
     refine rl_v rfl rfl rfl (ov_load rfl Try.underlying122 rfl rfl (by exact hO94.cellL 4 rfl (off := 18) rfl)) ?_
     refine rl_v rfl rfl rfl (ov_len rfl Try.underlying122 rfl) <| rl_v rfl rfl rfl (ov_assign rfl rfl) <| rl_v rfl rfl rfl (ov_assign rfl rfl) <| rl_nil <| run_ret Try.func25 (res2 Try.results25 rfl rfl) ?_
     exact ⟨by rw [if_pos em, em]; rfl, _, _, hO10, hK9, hPl.cons _⟩
end Go.Proofs.Ytfbbagnpdfafjaa
