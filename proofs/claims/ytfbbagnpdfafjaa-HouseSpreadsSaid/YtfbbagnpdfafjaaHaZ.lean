import Derived.Test.YtfbbagnpdfafjaaHaY
set_option maxRecDepth 100000
namespace Go.Proofs.Ytfbbagnpdfafjaa
open Go.RowKit Go.Proofs
theorem newE_zero {mem mon : Int} {pn mn : Nat} {P : Int → Int} {L : Int → Nat} {F : Int → Int → Int} {rate cap : Int} (h1 : ¬ BadA mem mon rate cap) (h2 : ¬ BadB mon pn mn L) (h3 : ¬ BadC pn P) (h4 : ¬ BadD mn L F) : newE mem mon pn mn P L F rate cap = 0 := (if_neg h1).trans ((if_neg h2).trans (if_neg fun h => h.elim h3 h4))
theorem newGood (mem mon : Int) (pa ma : Option Addr) (pn pc mn mc : Nat) (rate cap : Int) (P : Int → Int) (L : Int → Nat) (F : Int → Int → Int) (B : Nat) (H : List (Option Blk)) (w0 w : World) (hO : Own B w0 w H) (hP : SrcI H pa pn P) (hT : TSrc H ma mn L F) (hm : 2 ≤ mem ∧ mem ≤ 64) (hn : 1 ≤ mon ∧ mon ≤ 12) (hr : 0 ≤ rate ∧ rate ≤ 1000) (hc : 0 ≤ cap ∧ cap ≤ 1000000000000) (hpn : (pn : Int) = mon) (hmn : mn ≤ 64) (hL : ∀ i : Int, 0 ≤ i → i < mn → (L i : Int) = mon) (hPr : ∀ i : Int, 0 ≤ i → i < pn → 1 ≤ P i ∧ P i ≤ 1000000) (hF : ∀ i : Int, 0 ≤ i → i < mn → ∀ m : Int, 0 ≤ m → m < L i → -1000000 ≤ F i m ∧ F i m ≤ 1000000) :
  Calls Try.prog 17 #[.agg (cfL mem mon pa pn pc ma mn mc rate cap).toArray] w fun e w' => ∃ hb, e = .returned (.tuple #[ptr hb, iv 0]) ∧ HAt B w0 w' hb (HM.new mem mon mn P F rate cap) [] H := by
 have h0 : newE mem mon pn mn P L F rate cap = 0 := newE_zero (fun h => h.elim (fun h => h hm) fun h => h.elim (fun h => h hn) fun h => h.elim (fun h => h hr) fun h => h hc) (fun h => h.elim (fun h => h hpn) fun h => h.elim (fun h => by omega) fun ⟨i, i0, i1, h⟩ => h (hL i i0 i1)) (fun ⟨i, i0, i1, h⟩ => h (hPr i i0 i1)) (fun ⟨i, i0, i1, m, m0, m1, h⟩ => h (hF i i0 i1 m m0 m1))
 exact (new_any mem mon pa ma pn pc mn mc rate cap P L F B H w0 w hO hP hT (by omega) (by omega) (fun i i0 i1 => by have := hL i i0 i1; omega)).mono fun e w' h => h.elim (fun h => absurd h0 h.1) (fun h => h.2)
theorem HAt.fr {B : Nat} {w0 w : World} {hb : Nat} {X : HM} {Pl R : List (Option Blk)} (h : HAt B w0 w hb X Pl R) : Own B w0 w R := by
 obtain ⟨K, N, hO, _⟩ := h
 exact hO.sub (.cons _ (.cons _ (List.sublist_append_right N R)))
def awH : HM := HM.new 3 1 2 (fun _ => 100) (fun i _ => if i = 0 then 10 else -20) 0 50
def awC : Ct := ⟨1, 2, 0, 5, 100⟩
def awH2 : HM := (awH.deposit 1 100).deposit 2 100
theorem awA : awH.mny 1 100 = 0 := by kernel_rfl
theorem awB : (awH.deposit 1 100).mny 2 100 = 0 := by kernel_rfl
theorem awD : awH2.trd awC = 0 := by kernel_rfl
theorem awE : (awH2.trade awC).mar 1 = 100 := by kernel_rfl
theorem awF : (awH2.trade awC).total = 250 := by kernel_rfl
theorem awN : (awH2.trade awC).non 1 = 0 := by kernel_rfl
theorem awG : HB 0 awH := HB.new (by decide) (by decide) (by decide) (fun m _ _ => by decide) (fun i _ _ m _ _ => by show (if i = 0 then (10 : Int) else -20).natAbs ≤ 1000; split <;> decide) (by decide) (by decide)
theorem awake_any (B : Nat) (H : List (Option Blk)) (w0 w : World) (hO : Own B w0 w H) :
  Calls Try.prog 21 #[] w fun e w' => e = .returned (.bool true) ∧ Own B w0 w' H := by
 have g1 := awG.deposit 1 100
 have g2 := g1.deposit 2 100
 have g3 := g2.trade awC (by decide)
 refine calls_of_run (F := []) Try.func21 rfl Try.ntmps21 rfl rfl <| run_seq <| run_region <| rl_v rfl rfl rfl (ov_assign rfl rfl) <| rl_nil <| run_seq <| run_region <| rl_ow rfl (ow_one rfl rfl rfl Try.underlying22 info_2 rfl hO rfl rfl) ?_
 rintro _ w1 ⟨b8, rfl, hO2, hs3⟩
 refine rl_ow rfl (ow_one rfl rfl rfl Try.underlying22 info_2 rfl hO2 rfl rfl) ?_
 rintro _ w4 ⟨b9, rfl, hO5, hs6⟩
 refine rl_ow rfl (ow_one rfl rfl rfl Try.underlying22 info_2 rfl hO5 rfl rfl) ?_
 rintro _ w7 ⟨b10, rfl, hO8, hs9⟩
 refine rl_ow rfl (ow_build1 [_, _] rfl rfl rfl rfl rfl Try.underlying23 info_22 (by decide) hO8 rfl rfl) ?_
 rintro _ w10 ⟨b11, rfl, hO11, hs12⟩
 have hT : TSrc (some (vch b11 22 2 fun i => [Value.slice (some ⟨b9, 0, none⟩) 1 1, Value.slice (some ⟨b10, 0, none⟩) 1 1].getD i.toNat undef) :: some (vch b10 2 1 fun _ => .int .i64 (-20)) :: some (vch b9 2 1 fun _ => .int .i64 10) :: some (vch b8 2 1 fun _ => .int .i64 100) :: H) (some ⟨b11, 0, none⟩) 2 (fun _ => 1) (fun i _ => if i = 0 then 10 else -20) :=
  ⟨fun r => if r = 0 then some ⟨b9, 0, none⟩ else some ⟨b10, 0, none⟩, fun _ => 1, fun B w0 w hO => (hO.readsI 0 rfl).congr fun i i0 i1 => (by
   have : i = 0 ∨ i = 1 := by omega
   rcases this with rfl | rfl <;> rfl), fun r r0 r1 B w0 w hO => (by
   have : r = 0 ∨ r = 1 := by omega
   rcases this with rfl | rfl
   ·exact hO.readsI 2 rfl
   ·exact hO.readsI 1 rfl), fun _ _ _ => Nat.le_refl 1⟩
 refine rl_v rfl rfl rfl (ov_buildL rfl lay_40 rfl (us := [_, _, _, _, _, _]) rfl) ?_
 refine rl_call callable_17 rfl rfl rfl rfl rfl rfl (newGood 3 1 (some ⟨b8, 0, none⟩) (some ⟨b11, 0, none⟩) 1 1 2 2 0 50 (fun _ => 100) (fun _ => 1) (fun i _ => if i = 0 then 10 else -20) B _ w0 w10 hO11 (fun B w0 w hO => hO.readsI 3 rfl) hT (by decide) (by decide) (by decide) (by decide) rfl (by decide) (fun _ _ _ => rfl) (fun _ _ _ => by decide) (fun i _ _ _ _ _ => by split <;> decide)) (fun e13 w14 hp15 => ?_)
 obtain ⟨hb, rfl, hH⟩ := hp15
 refine ⟨_, rfl, ?_⟩
 replace hH : HAt B w0 w14 hb awH [] _ := hH
 refine rl_v rfl rfl rfl (ov_move rfl rfl) <| rl_v rfl rfl rfl (ov_extract rfl rfl (by rfl)) ?_
 refine rl_v rfl rfl rfl (ov_extract rfl rfl (by rfl)) ?_
 refine rl_v rfl rfl rfl (ov_assign rfl rfl) <| rl_v rfl rfl rfl (ov_assign rfl rfl) <| rl_nil <| run_seq <| run_seq <| run_region <| rl_v rfl rfl rfl (ov_move rfl rfl) <| rl_v rfl rfl rfl (ov_neq rfl rfl rfl) <| rl_v rfl rfl rfl (ov_move rfl rfl) ?_
 first | refine rl_noD 18 rfl (fun h => h rfl) ?_ | refine rl_no 18 rfl (fun h => h rfl) ?_
 refine rl_gv rfl rfl rfl rfl rfl (ov_move rfl rfl) <| rl_gv rfl rfl rfl rfl rfl (ov_ptrnil rfl Try.underlying30 rfl) <| rl_v rfl rfl rfl (ov_pick_f rfl rfl rfl) <| rl_v rfl rfl rfl (ov_move rfl rfl) <| rl_gv rfl rfl rfl rfl rfl (ov_move rfl rfl) ?_
 refine rl_gcall callable_23 rfl rfl rfl rfl rfl rfl rfl rfl (deposit_any hb B awH 1 100 [] _ w0 w14 hH (awG.hg (by decide))) (fun e16 w17 hp18 => ?_)
 obtain ⟨rfl, hH2⟩ := hp18
 refine ⟨_, rfl, ?_⟩
 refine rl_gv rfl rfl rfl rfl rfl (ov_neq rfl rfl rfl) <| rl_v rfl rfl rfl (ov_pick_f rfl rfl rfl) <| rl_v rfl rfl rfl (ov_move rfl rfl) ?_
 first | refine rl_noD 27 rfl (fun h => h awA) ?_ | refine rl_no 27 rfl (fun h => h awA) ?_
 refine rl_gv rfl rfl rfl rfl rfl (ov_move rfl rfl) ?_
 refine rl_gcall callable_23 rfl rfl rfl rfl rfl rfl rfl rfl (deposit_any hb B (awH.deposit 1 100) 2 100 [] _ w0 w17 hH2 (g1.hg (by decide))) (fun e19 w20 hp21 => ?_)
 obtain ⟨rfl, hH3⟩ := hp21
 refine ⟨_, rfl, ?_⟩
 refine rl_gv rfl rfl rfl rfl rfl (ov_neq rfl rfl rfl) <| rl_v rfl rfl rfl (ov_pick_f rfl rfl rfl) <| rl_nil ?_
 first | refine run_cond_dec rfl (fun c1 => ?_) (fun c1 => ?_) | refine run_cond rfl (fun c1 => ?_) (fun c1 => ?_)
 ·exfalso; exact c1 awB
 ·refine run_skip <| run_seq <| run_region <| rl_v rfl rfl rfl (ov_move rfl rfl) <| rl_v rfl rfl rfl (ov_buildL rfl lay_45 rfl (us := [_, _, _, _, _]) rfl) ?_
  refine rl_call callable_25 rfl rfl rfl rfl rfl rfl (trade_any hb B awH2 awC [] _ w0 w20 hH3 (g2.hg (by decide))) (fun e22 w23 hp24 => ?_)
  obtain ⟨rfl, hH4⟩ := hp24
  refine ⟨_, rfl, ?_⟩
  refine rl_v rfl rfl rfl (ov_move rfl rfl) <| rl_v rfl rfl rfl (ov_extract rfl rfl (by rfl)) ?_
  refine rl_v rfl rfl rfl (ov_extract rfl rfl (by rfl)) ?_
  refine rl_v rfl rfl rfl (ov_assign rfl rfl) <| rl_v rfl rfl rfl (ov_assign rfl rfl) <| rl_nil <| run_seq <| run_region <| rl_v rfl rfl rfl (ov_move rfl rfl) ?_
  refine rl_call callable_24 rfl rfl rfl rfl rfl rfl (margin2_any hb B (awH2.trade awC) 1 [] _ w0 w23 hH4 (g3.hg (by decide))) (fun e25 w26 hp27 => ?_)
  obtain ⟨rfl, hH5⟩ := hp27
  refine ⟨_, rfl, ?_⟩
  refine rl_v rfl rfl rfl (ov_move rfl rfl) <| rl_v rfl rfl rfl (ov_extract rfl rfl (by rfl)) ?_
  refine rl_v rfl rfl rfl (ov_extract rfl rfl (by rfl)) ?_
  refine rl_v rfl rfl rfl (ov_assign rfl rfl) <| rl_v rfl rfl rfl (ov_assign rfl rfl) <| rl_nil <| run_seq <| run_region <| rl_v rfl rfl rfl (ov_move rfl rfl) <| rl_v rfl rfl rfl (ov_eql rfl rfl rfl) <| rl_v rfl rfl rfl (ov_move rfl rfl) ?_
  first | refine rl_yesD 45 rfl (awD) ?_ | refine rl_yes 45 rfl (awD) ?_
  refine rl_gv rfl rfl rfl rfl rfl (ov_move rfl rfl) <| rl_gv rfl rfl rfl rfl rfl (ov_eql rfl rfl rfl) <| rl_v rfl rfl rfl (ov_pick_t rfl rfl rfl) <| rl_v rfl rfl rfl (ov_move rfl rfl) ?_
  first | refine rl_yesD 49 rfl ((show (if awH2.trd awC = 0 then (awH2.n : Int) + 1 else 0) = 1 by kernel_rfl)) ?_ | refine rl_yes 49 rfl ((show (if awH2.trd awC = 0 then (awH2.n : Int) + 1 else 0) = 1 by kernel_rfl)) ?_
  refine rl_gv rfl rfl rfl rfl rfl (ov_move rfl rfl) <| rl_gv rfl rfl rfl rfl rfl (ov_eql rfl rfl rfl) <| rl_v rfl rfl rfl (ov_pick_t rfl rfl rfl) <| rl_v rfl rfl rfl (ov_move rfl rfl) ?_
  first | refine rl_yesD 53 rfl (awN) ?_ | refine rl_yes 53 rfl (awN) ?_
  refine rl_gv rfl rfl rfl rfl rfl (ov_move rfl rfl) <| rl_gv rfl rfl rfl rfl rfl (ov_eql rfl rfl rfl) <| rl_v rfl rfl rfl (ov_pick_t rfl rfl rfl) <| rl_v rfl rfl rfl (ov_move rfl rfl) ?_
  first | refine rl_yesD 57 rfl (awE) ?_ | refine rl_yes 57 rfl (awE) ?_
  refine rl_gv rfl rfl rfl rfl rfl (ov_move rfl rfl) ?_
  refine rl_gcall callable_30 rfl rfl rfl rfl rfl rfl rfl rfl (total_any hb B (awH2.trade awC) [] _ w0 w26 hH5 (g3.hg (by decide))) (fun e28 w29 hp30 => ?_)
  obtain ⟨rfl, hH6⟩ := hp30
  refine ⟨_, rfl, ?_⟩
  refine rl_gv rfl rfl rfl rfl rfl (ov_eql rfl rfl rfl) <| rl_v rfl rfl rfl (ov_pick_t rfl rfl rfl) <| rl_v rfl rfl rfl (ov_assign rfl rfl) <| rl_nil <| run_ret Try.func21 (res1 Try.results21 rfl) ?_
  exact ⟨by rw [awF]; rfl, hH6.fr.tail.tail.tail.tail⟩
end Go.Proofs.Ytfbbagnpdfafjaa
