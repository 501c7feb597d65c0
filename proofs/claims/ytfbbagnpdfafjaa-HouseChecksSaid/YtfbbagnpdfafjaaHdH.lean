import Derived.Test.YtfbbagnpdfafjaaHdG
import Derived.Test.YtfbbagnpdfafjaaRowOpenA
import Derived.Test.YtfbbagnpdfafjaaRowOpenH
set_option maxRecDepth 100000
namespace Go.Proofs.Ytfbbagnpdfafjaa
open Go.RowKit Go.Proofs
theorem sameLk (a b c d e : Int) : ∀ f ∈ (Try.prog.fieldsOf 60).toList, ∃ (kk : IntKind) (q : Int), Try.prog.underlying f.type = some (.int kk) ∧ (lossV [a, b, c, d, e]).toArray[f.offset]? = some (.int kk q) := by
 unfold Program.fieldsOf
 rw [Try.underlying60]
 intro f hf
 simp only [List.mem_cons, List.not_mem_nil, or_false] at hf
 rcases hf with rfl | rfl | rfl | rfl | rfl
 ·exact ⟨.i64, a, Try.underlying2, rfl⟩
 ·exact ⟨.i64, b, Try.underlying2, rfl⟩
 ·exact ⟨.i64, c, Try.underlying2, rfl⟩
 ·exact ⟨.i64, d, Try.underlying2, rfl⟩
 ·exact ⟨.i64, e, Try.underlying2, rfl⟩
theorem ov_neqLk {N : Nat} {o : Oper} {F : Fr} {w : World} {x y : Operand} {U : TypeId} {a b c d e : Int} (ho : o.op = .binOp .neq 60 x y U) (hx : Fr.ev F x = some (.agg (lossV [a, b, c, d, e]).toArray)) (hy : Fr.ev F y = some (.agg (lossV [a, b, c, d, e]).toArray)) : OpV Try.prog N o F w (.bool false) :=
 ov_neqS ho (by unfold Program.fieldsOf; rw [Try.underlying60]) (sameLk a b c d e) (by kernel_rfl) (by kernel_rfl) hx hy
theorem ov_neqCh {N : Nat} {o : Oper} {F : Fr} {w : World} {x y : Operand} {U : TypeId} {c : Ct} (ho : o.op = .binOp .neq 45 x y U) (hx : Fr.ev F x = some (.agg (ctL c).toArray)) (hy : Fr.ev F y = some (.agg (ctL c).toArray)) : OpV Try.prog N o F w (.bool false) :=
 ov_neqS ho (by unfold Program.fieldsOf; rw [Try.underlying45]) (sameCh c) (by kernel_rfl) (by kernel_rfl) hx hy
theorem CfRd.of_arg {B : Nat} {w0 : World} {H : List (Option Blk)} {pa : Option Addr} {pn pc : Nat} {ma : Option Addr} {mk : Nat} {P : Int → Int} {L : Int → Nat} {F : Int → Int → Int} (hpc : pn ≤ pc) (hP : IAt B w0 pa pn (fun i => iv (P i))) (hT : HTab B w0 ma mk L F) : CfRd B w0 H pa pn pc ma mk P L F := by
 obtain ⟨A, C, h1, h2, h3⟩ := hT
 exact ⟨hpc, fun w hO => hO.iat hP, A, C, fun w hO => hO.iat h1, fun r r0 r1 w hO => hO.iat (h3 r r0 r1), h2⟩
theorem giveO2_any (mm mn : Int) (pa ma : Option Addr) (pn pc mk mc : Nat) (rt cp : Int) (P : Int → Int) (L : Int → Nat) (F : Int → Int → Int) (B : Nat) (H : List (Option Blk)) (w0 w : World) (hO : Own B w0 w H) (hR : CfRd B w0 H pa pn pc ma mk P L F) (h1 : pn ≤ 20) (h2 : mk ≤ 66) (h3 : ∀ r, L r ≤ 20) :
  Calls Try.prog 18 #[.agg (cfL mm mn pa pn pc ma mk mc rt cp).toArray] w fun e w' => ∃ pa' ma' pc' mc' cb Hm, e = .returned (.agg (cfL mm mn pa' pn pc' ma' mk mc' rt cp).toArray) ∧ (pn ≤ pc' ∧ IRow (.slice pa' pn pc') 2 pn (fun i => iv (P i)) cb ∧ OTab (.slice ma' mk mc') 22 2 mk L (fun r c => iv (F r c)) Hm) ∧ Own B w0 w' (cb :: (Hm ++ H)) := by
 have h := giveO_any mm mn pa ma pn pc mk mc rt cp P L F B H w0 w hO hR
 rw [show min pn 20 = pn by omega, show min mk 66 = mk by omega, show (fun r => min (L r) 20) = L from funext fun r => by have := h3 r; omega] at h
 exact h
section
variable (mem mon : Int) (pa ma : Option Addr) (pn pc mn mc : Nat) (rate cap : Int) (P : Int → Int) (L : Int → Nat) (F : Int → Int → Int) (B : Nat) (H : List (Option Blk)) (w0 w : World) (hO : Own B w0 w H) (hP : SrcI H pa pn P) (hT : TSrc H ma mn L F) (hpn : pn ≤ 1000000) (hmn : mn ≤ 1000000) (hL : ∀ i : Int, 0 ≤ i → i < mn → L i ≤ 1000000)
include hO hP hT hpn hmn hL
theorem newBad (hE : newE mem mon pn mn P L F rate cap ≠ 0) : Calls Try.prog 17 #[.agg (cfL mem mon pa pn pc ma mn mc rate cap).toArray] w fun e w' => e = .returned (.tuple #[.pointer none, iv (newE mem mon pn mn P L F rate cap)]) ∧ Own B w0 w' H :=
 (new_any mem mon pa ma pn pc mn mc rate cap P L F B H w0 w hO hP hT hpn hmn hL).mono fun _ _ h => h.elim (fun h => h.2) (fun h => absurd h.1 hE)
theorem newOk9 (hE : newE mem mon pn mn P L F rate cap = 0) : Calls Try.prog 17 #[.agg (cfL mem mon pa pn pc ma mn mc rate cap).toArray] w fun e w' => ∃ hb, e = .returned (.tuple #[ptr hb, iv 0]) ∧ HAt B w0 w' hb (HM.new mem mon mn P F rate cap) [] H :=
 (new_any mem mon pa ma pn pc mn mc rate cap P L F B H w0 w hO hP hT hpn hmn hL).mono fun _ _ h => h.elim (fun h => absurd hE h.1) (fun h => h.2)
end
theorem newE_good {mem mon : Int} {pn mn : Nat} {P : Int → Int} {L : Int → Nat} {F : Int → Int → Int} {rate cap : Int} (h : newE mem mon pn mn P L F rate cap = 0) :
  (2 ≤ mem ∧ mem ≤ 64) ∧ (1 ≤ mon ∧ mon ≤ 12) ∧ (0 ≤ rate ∧ rate ≤ 1000) ∧ (0 ≤ cap ∧ cap ≤ 1000000000000) ∧ (pn : Int) = mon ∧ mn ≤ 64 ∧ (∀ i : Int, 0 ≤ i → i < mn → (L i : Int) = mon) ∧ (∀ i : Int, 0 ≤ i → i < pn → 1 ≤ P i ∧ P i ≤ 1000000) ∧ ∀ i : Int, 0 ≤ i → i < mn → ∀ m : Int, 0 ≤ m → m < L i → -1000000 ≤ F i m ∧ F i m ≤ 1000000 := by
 have hA : ¬ BadA mem mon rate cap := fun hA => by rw [newE_A hA] at h; cases h
 have hB : ¬ BadB mon pn mn L := fun hB => by rw [newE_B hA hB] at h; cases h
 have hC : ¬ (BadC pn P ∨ BadD mn L F) := fun hC => by rw [newE_C hA hB hC] at h; cases h
 refine ⟨Classical.byContradiction fun h => hA (.inl h), Classical.byContradiction fun h => hA (.inr (.inl h)), Classical.byContradiction fun h => hA (.inr (.inr (.inl h))), Classical.byContradiction fun h => hA (.inr (.inr (.inr h))), Classical.byContradiction fun h => hB (.inl h), Classical.byContradiction fun h => hB (.inr (.inl (by omega))), fun i i0 i1 => Classical.byContradiction fun h => hB (.inr (.inr ⟨i, i0, i1, h⟩)), fun i i0 i1 => Classical.byContradiction fun h => hC (.inl ⟨i, i0, i1, h⟩), fun i i0 i1 m m0 m1 => Classical.byContradiction fun h => hC (.inr ⟨i, i0, i1, m, m0, m1, h⟩)⟩
theorem GG.new {mem mon : Int} {mn : Nat} {P : Int → Int} {F : Int → Int → Int} {rate cap : Int} (hm : 2 ≤ mem ∧ mem ≤ 64) (hn : 1 ≤ mon ∧ mon ≤ 12) (hr : 0 ≤ rate ∧ rate ≤ 1000) (hc : 0 ≤ cap ∧ cap ≤ 1000000000000) (hk : mn ≤ 64) (hP : ∀ m : Int, 0 ≤ m → m < mon → 1 ≤ P m ∧ P m ≤ 1000000) (hF : ∀ i : Int, 0 ≤ i → i < mn → ∀ m : Int, 0 ≤ m → m < mon → -1000000 ≤ F i m ∧ F i m ≤ 1000000) : GG (HM.new mem mon mn P F rate cap) := by
 refine ⟨⟨by show 1 ≤ mem.toNat ∧ mem.toNat ≤ 64; omega, by show 0 ≤ mon ∧ mon ≤ 12; omega, fun m m0 m1 => ?_, hk, fun i i0 i1 m m0 m1 => ?_, hr, hc, by show (0 : Int) ≤ 0 ∧ (0 : Int) ≤ _; decide, fun i i0 i1 m m0 m1 => Nat.zero_le _, fun i i0 i1 => Nat.zero_le _, fun i i0 i1 => ⟨Int.le_refl _, by show (0 : Int) ≤ _; decide⟩, Nat.zero_le _⟩, hn.1, fun i i0 i1 m hm' => rfl⟩
 ·show 0 ≤ cutM mon P m ∧ cutM mon P m ≤ 1000000
  unfold cutM
  split
  ·have := hP m m0 ‹_›
   omega
  ·decide
 ·show (cutM mon (F i) m).natAbs ≤ 1000000
  unfold cutM
  split
  ·have := hF i i0 i1 m m0 ‹_›
   omega
  ·exact Nat.zero_le _
set_option maxHeartbeats 4000000 in
theorem checksBad9 (mm mn : Int) (pa ma : Option Addr) (pn pc mk mc : Nat) (rt cp : Int) (P : Int → Int) (L0 : Int → Nat) (F : Int → Int → Int) (w : World) (hpc : pn ≤ pc) (hP : IAt w.heap.size w pa pn (fun i => iv (P i))) (hT : HTab w.heap.size w ma mk L0 F) (hE : newE mm mn (min pn 20) (min mk 66) P (fun r => min (L0 r) 20) F rt cp ≠ 0) :
  Calls Try.prog 10 #[.agg (cfL mm mn pa pn pc ma mk mc rt cp).toArray] w fun e w' => e = .returned (.bool true) ∧ Below w.heap.size w w' := by
 refine calls_of_run (F := [(0, _)]) Try.func10 rfl Try.ntmps10 rfl rfl <| run_seq <| run_region <| rl_ow rfl (ow_box _ rfl rfl rfl rfl rfl (Own.init w)) ?_
 rintro _ w1 ⟨b1, rfl, hO2, hs3⟩
 refine rl_v rfl rfl rfl (ov_assign rfl rfl) <| rl_nil <| run_seq <| run_region <| rl_v rfl rfl rfl (ov_assign rfl rfl) <| rl_nil <| run_seq <| run_region <| rl_v rfl rfl rfl (ov_move rfl rfl) <| rl_v rfl rfl rfl (ov_buildL rfl lay_45 rfl (us := [_, _, _, _, _]) rfl) ?_
 refine rl_call callable_25 rfl rfl rfl rfl rfl rfl (n9trade Ct.z w.heap.size _ w w1 hO2) (fun e4 w5 hp6 => ?_)
 obtain ⟨rfl, hOa⟩ := hp6
 refine ⟨_, rfl, ?_⟩
 refine rl_v rfl rfl rfl (ov_move rfl rfl) <| rl_v rfl rfl rfl (ov_extract rfl rfl (by rfl)) ?_
 refine rl_v rfl rfl rfl (ov_extract rfl rfl (by rfl)) ?_
 refine rl_v rfl rfl rfl (ov_assign rfl rfl) <| rl_v rfl rfl rfl (ov_assign rfl rfl) <| rl_nil <| run_seq <| run_region <| rl_v rfl rfl rfl (ov_move rfl rfl) ?_
 refine rl_call callable_22 rfl rfl rfl rfl rfl rfl (n9mark 0 1 w.heap.size _ w w5 hOa) (fun e7 w8 hp9 => ?_)
 obtain ⟨rfl, hOa⟩ := hp9
 refine ⟨_, rfl, ?_⟩
 refine rl_v rfl rfl rfl (ov_move rfl rfl) <| rl_v rfl rfl rfl (ov_extract rfl rfl (by rfl)) ?_
 refine rl_v rfl rfl rfl (ov_extract rfl rfl (by rfl)) ?_
 refine rl_v rfl rfl rfl (ov_assign rfl rfl) <| rl_v rfl rfl rfl (ov_assign rfl rfl) <| rl_nil <| run_seq <| run_region <| rl_v rfl rfl rfl (ov_move rfl rfl) ?_
 refine rl_call callable_29 rfl rfl rfl rfl rfl rfl (n9default 1 w.heap.size _ w w8 hOa) (fun e10 w11 hp12 => ?_)
 obtain ⟨rfl, hOa⟩ := hp12
 refine ⟨_, rfl, ?_⟩
 refine rl_v rfl rfl rfl (ov_move rfl rfl) <| rl_v rfl rfl rfl (ov_extract rfl rfl (by rfl)) ?_
 refine rl_v rfl rfl rfl (ov_extract rfl rfl (by rfl)) ?_
 refine rl_ow rfl (ow_alloc _ rfl rfl rfl zero_60 rfl hOa) ?_
 rintro _ w13 ⟨b8, rfl, hO14, hs15⟩
 refine rl_ow rfl (ow_storeW rfl rfl (by kernel_rfl) hO14 0 rfl rfl (by rfl) rfl (by rfl)) ?_
 rintro _ w16 ⟨rfl, hO17, hs18⟩
 refine rl_v rfl rfl rfl (ov_assign rfl rfl) <| rl_nil <| run_seq <| run_region <| rl_v rfl rfl rfl (ov_move rfl rfl) ?_
 refine rl_call callable_31 rfl rfl rfl rfl rfl rfl (n9account 1 w.heap.size _ w w16 hO17) (fun e19 w20 hp21 => ?_)
 obtain ⟨rfl, hOa⟩ := hp21
 refine ⟨_, rfl, ?_⟩
 refine rl_v rfl rfl rfl (ov_move rfl rfl) <| rl_v rfl rfl rfl (ov_extract rfl rfl (by rfl)) ?_
 refine rl_v rfl rfl rfl (ov_extract rfl rfl (by rfl)) ?_
 refine rl_ow rfl (ow_alloc _ rfl rfl rfl zero_64 rfl hOa) ?_
 rintro _ w22 ⟨b10, rfl, hO23, hs24⟩
 refine rl_ow rfl (ow_storeW rfl rfl (by kernel_rfl) hO23 0 rfl rfl (by rfl) rfl (by rfl)) ?_
 rintro _ w25 ⟨rfl, hO26, hs27⟩
 refine rl_v rfl rfl rfl (ov_assign rfl rfl) <| rl_nil <| run_seq <| run_region <| rl_v rfl rfl rfl (ov_move rfl rfl) ?_
 refine rl_call callable_24 rfl rfl rfl rfl rfl rfl (n9margin 1 w.heap.size _ w w25 hO26) (fun e28 w29 hp30 => ?_)
 obtain ⟨rfl, hOa⟩ := hp30
 refine ⟨_, rfl, ?_⟩
 refine rl_v rfl rfl rfl (ov_move rfl rfl) <| rl_v rfl rfl rfl (ov_extract rfl rfl (by rfl)) ?_
 refine rl_v rfl rfl rfl (ov_extract rfl rfl (by rfl)) ?_
 refine rl_v rfl rfl rfl (ov_assign rfl rfl) <| rl_v rfl rfl rfl (ov_assign rfl rfl) <| rl_nil <| run_seq <| run_region <| rl_v rfl rfl rfl (ov_move rfl rfl) ?_
 refine rl_call callable_38 rfl rfl rfl rfl rfl rfl (n9worst 1 w.heap.size _ w w29 hOa) (fun e31 w32 hp33 => ?_)
 obtain ⟨rfl, hOa⟩ := hp33
 refine ⟨_, rfl, ?_⟩
 refine rl_v rfl rfl rfl (ov_move rfl rfl) <| rl_v rfl rfl rfl (ov_extract rfl rfl (by rfl)) ?_
 refine rl_v rfl rfl rfl (ov_extract rfl rfl (by rfl)) ?_
 refine rl_v rfl rfl rfl (ov_extract rfl rfl (by rfl)) ?_
 refine rl_v rfl rfl rfl (ov_assign rfl rfl) <| rl_v rfl rfl rfl (ov_assign rfl rfl) <| rl_v rfl rfl rfl (ov_assign rfl rfl) <| rl_nil <| run_seq <| run_region <| rl_v rfl rfl rfl (ov_move rfl rfl) ?_
 refine rl_call callable_20 rfl rfl rfl rfl rfl rfl (n9price 0 w.heap.size _ w w32 hOa) (fun e34 w35 hp36 => ?_)
 obtain ⟨rfl, hOa⟩ := hp36
 refine ⟨_, rfl, ?_⟩
 refine rl_v rfl rfl rfl (ov_move rfl rfl) <| rl_v rfl rfl rfl (ov_extract rfl rfl (by rfl)) ?_
 refine rl_v rfl rfl rfl (ov_extract rfl rfl (by rfl)) ?_
 refine rl_v rfl rfl rfl (ov_assign rfl rfl) <| rl_v rfl rfl rfl (ov_assign rfl rfl) <| rl_nil <| run_seq <| run_region <| rl_v rfl rfl rfl (ov_move rfl rfl) ?_
 refine rl_call callable_39 rfl rfl rfl rfl rfl rfl (n9contract 1 w.heap.size _ w w35 hOa) (fun e37 w38 hp39 => ?_)
 obtain ⟨rfl, hOa⟩ := hp39
 refine ⟨_, rfl, ?_⟩
 refine rl_v rfl rfl rfl (ov_move rfl rfl) <| rl_v rfl rfl rfl (ov_extract rfl rfl (by rfl)) ?_
 refine rl_v rfl rfl rfl (ov_extract rfl rfl (by rfl)) ?_
 refine rl_ow rfl (ow_alloc _ rfl rfl rfl zero_45 rfl hOa) ?_
 rintro _ w40 ⟨b19, rfl, hO41, hs42⟩
 refine rl_ow rfl (ow_storeW rfl rfl (by kernel_rfl) hO41 0 rfl rfl (by rfl) rfl (by rfl)) ?_
 rintro _ w43 ⟨rfl, hO44, hs45⟩
 refine rl_v rfl rfl rfl (ov_assign rfl rfl) <| rl_nil <| run_seq <| run_region <| rl_v rfl rfl rfl (ov_move rfl rfl) ?_
 refine rl_call callable_40 rfl rfl rfl rfl rfl rfl (n9stress 0 w.heap.size _ w w43 hO44) (fun e46 w47 hp48 => ?_)
 obtain ⟨rfl, hOa⟩ := hp48
 refine ⟨_, rfl, ?_⟩
 refine rl_v rfl rfl rfl (ov_move rfl rfl) <| rl_v rfl rfl rfl (ov_extract rfl rfl (by rfl)) ?_
 refine rl_v rfl rfl rfl (ov_extract rfl rfl (by rfl)) ?_
 refine rl_v rfl rfl rfl (ov_assign rfl rfl) <| rl_v rfl rfl rfl (ov_assign rfl rfl) <| rl_nil <| run_seq <| run_region <| rl_v rfl rfl rfl (ov_move rfl rfl) ?_
 refine rl_call callable_41 rfl rfl rfl rfl rfl rfl (n9capital w.heap.size _ w w47 hOa) (fun e49 w50 hp51 => ?_)
 obtain ⟨rfl, hOa⟩ := hp51
 refine ⟨_, rfl, ?_⟩
 refine rl_v rfl rfl rfl (ov_move rfl rfl) <| rl_v rfl rfl rfl (ov_extract rfl rfl (by rfl)) ?_
 refine rl_v rfl rfl rfl (ov_extract rfl rfl (by rfl)) ?_
 refine rl_v rfl rfl rfl (ov_assign rfl rfl) <| rl_v rfl rfl rfl (ov_assign rfl rfl) <| rl_nil <| run_seq <| run_seq <| run_region <| rl_v rfl rfl rfl (ov_move rfl rfl) <| rl_v rfl rfl rfl (ov_neq rfl rfl rfl) <| rl_v rfl rfl rfl (ov_move rfl rfl) ?_
 first | refine rl_noD 86 rfl (fun h => h rfl) ?_ | refine rl_no 86 rfl (fun h => h rfl) ?_
 refine rl_gv rfl rfl rfl rfl rfl (ov_move rfl rfl) <| rl_gv rfl rfl rfl rfl rfl (ov_neq rfl rfl rfl) <| rl_v rfl rfl rfl (ov_pick_f rfl rfl rfl) <| rl_v rfl rfl rfl (ov_move rfl rfl) ?_
 first | refine rl_noD 90 rfl (fun h => h rfl) ?_ | refine rl_no 90 rfl (fun h => h rfl) ?_
 refine rl_gv rfl rfl rfl rfl rfl (ov_move rfl rfl) <| rl_gv rfl rfl rfl rfl rfl (ov_len rfl Try.underlying51 rfl) <| rl_gv rfl rfl rfl rfl rfl (ov_neq rfl rfl rfl) <| rl_v rfl rfl rfl (ov_pick_f rfl rfl rfl) <| rl_v rfl rfl rfl (ov_move rfl rfl) ?_
 first | refine rl_noD 95 rfl (fun h => h rfl) ?_ | refine rl_no 95 rfl (fun h => h rfl) ?_
 refine rl_gv rfl rfl rfl rfl rfl (ov_move rfl rfl) <| rl_gv rfl rfl rfl rfl rfl (ov_neq rfl rfl rfl) <| rl_v rfl rfl rfl (ov_pick_f rfl rfl rfl) <| rl_v rfl rfl rfl (ov_move rfl rfl) ?_
 first | refine rl_noD 99 rfl (fun h => h rfl) ?_ | refine rl_no 99 rfl (fun h => h rfl) ?_
 refine rl_gv rfl rfl rfl rfl rfl (ov_loadW rfl Try.underlying60 rfl (by kernel_rfl) rfl hOa 2 rfl) ?_
 refine rl_gv rfl rfl rfl rfl rfl (ov_buildL rfl lay_60 rfl (us := [_, _, _, _, _]) rfl) <| rl_gv rfl rfl rfl rfl rfl (ov_neqLk (a := 0) (b := 0) (c := 0) (d := 0) (e := 0) rfl rfl rfl) <| rl_v rfl rfl rfl (ov_pick_f rfl rfl rfl) <| rl_v rfl rfl rfl (ov_move rfl rfl) ?_
 first | refine rl_noD 104 rfl (rfl) ?_ | refine rl_no 104 rfl (rfl) ?_
 refine rl_gv rfl rfl rfl rfl rfl (ov_move rfl rfl) <| rl_gv rfl rfl rfl rfl rfl (ov_neq rfl rfl rfl) <| rl_v rfl rfl rfl (ov_pick_f rfl rfl rfl) <| rl_v rfl rfl rfl (ov_move rfl rfl) ?_
 first | refine rl_noD 108 rfl (fun h => h rfl) ?_ | refine rl_no 108 rfl (fun h => h rfl) ?_
 refine rl_gv rfl rfl rfl rfl rfl (ov_fieldS rfl Try.underlying64 rfl (fo := 0) rfl (by kernel_rfl) rfl) ?_
 refine rl_gv rfl rfl rfl rfl rfl (ov_load rfl Try.underlying2 rfl rfl (by exact (show _ = some (iv 0) from hOa.cellL 1 rfl (off := 0) rfl))) ?_
 refine rl_gv rfl rfl rfl rfl rfl (ov_neq rfl rfl rfl) <| rl_v rfl rfl rfl (ov_pick_f rfl rfl rfl) <| rl_v rfl rfl rfl (ov_move rfl rfl) ?_
 first | refine rl_noD 113 rfl (fun h => h rfl) ?_ | refine rl_no 113 rfl (fun h => h rfl) ?_
 refine rl_gv rfl rfl rfl rfl rfl (ov_fieldS rfl Try.underlying64 rfl (fo := 1) rfl (by kernel_rfl) rfl) ?_
 refine rl_gv rfl rfl rfl rfl rfl (ov_load rfl Try.underlying2 rfl rfl (by exact (show _ = some (iv 0) from hOa.cellL 1 rfl (off := 1) rfl))) ?_
 refine rl_gv rfl rfl rfl rfl rfl (ov_neq rfl rfl rfl) <| rl_v rfl rfl rfl (ov_pick_f rfl rfl rfl) <| rl_v rfl rfl rfl (ov_move rfl rfl) ?_
 first | refine rl_noD 118 rfl (fun h => h rfl) ?_ | refine rl_no 118 rfl (fun h => h rfl) ?_
 refine rl_gv rfl rfl rfl rfl rfl (ov_fieldS rfl Try.underlying64 rfl (fo := 2) rfl (by kernel_rfl) rfl) ?_
 refine rl_gv rfl rfl rfl rfl rfl (ov_load rfl Try.underlying22 rfl rfl (by exact (show _ = some (.slice none 0 0) from hOa.cellL 1 rfl (off := 2) rfl))) ?_
 refine rl_gv rfl rfl rfl rfl rfl (ov_len rfl Try.underlying22 rfl) <| rl_gv rfl rfl rfl rfl rfl (ov_neq rfl rfl rfl) <| rl_v rfl rfl rfl (ov_pick_f rfl rfl rfl) <| rl_v rfl rfl rfl (ov_move rfl rfl) ?_
 first | refine rl_noD 124 rfl (fun h => h rfl) ?_ | refine rl_no 124 rfl (fun h => h rfl) ?_
 refine rl_gv rfl rfl rfl rfl rfl (ov_fieldS rfl Try.underlying64 rfl (fo := 3) rfl (by kernel_rfl) rfl) ?_
 refine rl_gv rfl rfl rfl rfl rfl (ov_load rfl Try.underlying4 rfl rfl (by exact (show _ = some (.bool false) from hOa.cellL 1 rfl (off := 3) rfl))) ?_
 refine rl_v rfl rfl rfl (ov_pick_f rfl rfl rfl) <| rl_v rfl rfl rfl (ov_move rfl rfl) ?_
 first | refine rl_noD 128 rfl (rfl) ?_ | refine rl_no 128 rfl (rfl) ?_
 refine rl_gv rfl rfl rfl rfl rfl (ov_move rfl rfl) <| rl_gv rfl rfl rfl rfl rfl (ov_neq rfl rfl rfl) <| rl_v rfl rfl rfl (ov_pick_f rfl rfl rfl) <| rl_v rfl rfl rfl (ov_move rfl rfl) ?_
 first | refine rl_noD 132 rfl (fun h => h rfl) ?_ | refine rl_no 132 rfl (fun h => h rfl) ?_
 refine rl_gv rfl rfl rfl rfl rfl (ov_move rfl rfl) <| rl_gv rfl rfl rfl rfl rfl (ov_neq rfl rfl rfl) <| rl_v rfl rfl rfl (ov_pick_f rfl rfl rfl) <| rl_v rfl rfl rfl (ov_move rfl rfl) ?_
 first | refine rl_noD 136 rfl (fun h => h rfl) ?_ | refine rl_no 136 rfl (fun h => h rfl) ?_
 refine rl_gv rfl rfl rfl rfl rfl (ov_move rfl rfl) <| rl_gv rfl rfl rfl rfl rfl (ov_neq rfl rfl rfl) <| rl_v rfl rfl rfl (ov_pick_f rfl rfl rfl) <| rl_v rfl rfl rfl (ov_move rfl rfl) ?_
 first | refine rl_noD 140 rfl (fun h => h rfl) ?_ | refine rl_no 140 rfl (fun h => h rfl) ?_
 refine rl_gv rfl rfl rfl rfl rfl (ov_move rfl rfl) <| rl_gv rfl rfl rfl rfl rfl (ov_neq rfl rfl rfl) <| rl_v rfl rfl rfl (ov_pick_f rfl rfl rfl) <| rl_v rfl rfl rfl (ov_move rfl rfl) ?_
 first | refine rl_noD 144 rfl (fun h => h rfl) ?_ | refine rl_no 144 rfl (fun h => h rfl) ?_
 refine rl_gv rfl rfl rfl rfl rfl (ov_move rfl rfl) <| rl_gv rfl rfl rfl rfl rfl (ov_neq rfl rfl rfl) <| rl_v rfl rfl rfl (ov_pick_f rfl rfl rfl) <| rl_v rfl rfl rfl (ov_move rfl rfl) ?_
 first | refine rl_noD 148 rfl (fun h => h rfl) ?_ | refine rl_no 148 rfl (fun h => h rfl) ?_
 refine rl_gv rfl rfl rfl rfl rfl (ov_move rfl rfl) <| rl_gv rfl rfl rfl rfl rfl (ov_neq rfl rfl rfl) <| rl_v rfl rfl rfl (ov_pick_f rfl rfl rfl) <| rl_v rfl rfl rfl (ov_move rfl rfl) ?_
 first | refine rl_noD 152 rfl (fun h => h rfl) ?_ | refine rl_no 152 rfl (fun h => h rfl) ?_
 refine rl_gv rfl rfl rfl rfl rfl (ov_move rfl rfl) <| rl_gv rfl rfl rfl rfl rfl (ov_neq rfl rfl rfl) <| rl_v rfl rfl rfl (ov_pick_f rfl rfl rfl) <| rl_v rfl rfl rfl (ov_move rfl rfl) ?_
 first | refine rl_noD 156 rfl (fun h => h rfl) ?_ | refine rl_no 156 rfl (fun h => h rfl) ?_
 refine rl_gv rfl rfl rfl rfl rfl (ov_move rfl rfl) <| rl_gv rfl rfl rfl rfl rfl (ov_neq rfl rfl rfl) <| rl_v rfl rfl rfl (ov_pick_f rfl rfl rfl) <| rl_v rfl rfl rfl (ov_move rfl rfl) ?_
 first | refine rl_noD 160 rfl (fun h => h rfl) ?_ | refine rl_no 160 rfl (fun h => h rfl) ?_
 refine rl_gv rfl rfl rfl rfl rfl (ov_loadW rfl Try.underlying45 rfl (by kernel_rfl) rfl hOa 0 rfl) ?_
 refine rl_gv rfl rfl rfl rfl rfl (ov_buildL rfl lay_45 rfl (us := [_, _, _, _, _]) rfl) <| rl_gv rfl rfl rfl rfl rfl (ov_neqCh (c := Ct.z) rfl rfl rfl) <| rl_v rfl rfl rfl (ov_pick_f rfl rfl rfl) <| rl_v rfl rfl rfl (ov_move rfl rfl) ?_
 first | refine rl_noD 165 rfl (rfl) ?_ | refine rl_no 165 rfl (rfl) ?_
 refine rl_gv rfl rfl rfl rfl rfl (ov_move rfl rfl) <| rl_gv rfl rfl rfl rfl rfl (ov_neq rfl rfl rfl) <| rl_v rfl rfl rfl (ov_pick_f rfl rfl rfl) <| rl_v rfl rfl rfl (ov_move rfl rfl) ?_
 first | refine rl_noD 169 rfl (fun h => h rfl) ?_ | refine rl_no 169 rfl (fun h => h rfl) ?_
 refine rl_gv rfl rfl rfl rfl rfl (ov_move rfl rfl) <| rl_gv rfl rfl rfl rfl rfl (ov_len rfl Try.underlying22 rfl) <| rl_gv rfl rfl rfl rfl rfl (ov_neq rfl rfl rfl) <| rl_v rfl rfl rfl (ov_pick_f rfl rfl rfl) <| rl_v rfl rfl rfl (ov_move rfl rfl) ?_
 first | refine rl_noD 174 rfl (fun h => h rfl) ?_ | refine rl_no 174 rfl (fun h => h rfl) ?_
 refine rl_gv rfl rfl rfl rfl rfl (ov_move rfl rfl) <| rl_gv rfl rfl rfl rfl rfl (ov_neq rfl rfl rfl) <| rl_v rfl rfl rfl (ov_pick_f rfl rfl rfl) <| rl_v rfl rfl rfl (ov_move rfl rfl) ?_
 first | refine rl_noD 178 rfl (fun h => h rfl) ?_ | refine rl_no 178 rfl (fun h => h rfl) ?_
 refine rl_gv rfl rfl rfl rfl rfl (ov_move rfl rfl) <| rl_gv rfl rfl rfl rfl rfl (ov_neq rfl rfl rfl) <| rl_v rfl rfl rfl (ov_pick_f rfl rfl rfl) <| rl_v rfl rfl rfl (ov_move rfl rfl) ?_
 first | refine rl_noD 182 rfl (fun h => h rfl) ?_ | refine rl_no 182 rfl (fun h => h rfl) ?_
 refine rl_gv rfl rfl rfl rfl rfl (ov_move rfl rfl) <| rl_gv rfl rfl rfl rfl rfl (ov_neq rfl rfl rfl) <| rl_v rfl rfl rfl (ov_pick_f rfl rfl rfl) <| rl_nil ?_
 first | refine run_cond_dec rfl (fun bad => ?_) (fun bad => ?_) | refine run_cond rfl (fun bad => ?_) (fun bad => ?_)
 ·exfalso; exact bad rfl
 ·refine run_skip <| run_seq <| run_seq <| run_region <| rl_v rfl rfl rfl (ov_move rfl rfl) ?_
  refine rl_call callable_23 rfl rfl rfl rfl rfl rfl (n9deposit 1 1 w.heap.size _ w w50 hOa) (fun e52 w53 hp54 => ?_)
  obtain ⟨rfl, hOa⟩ := hp54
  refine ⟨_, rfl, ?_⟩
  refine rl_v rfl rfl rfl (ov_neq rfl rfl rfl) <| rl_v rfl rfl rfl (ov_move rfl rfl) ?_
  first | refine rl_noD 189 rfl (fun h => h rfl) ?_ | refine rl_no 189 rfl (fun h => h rfl) ?_
  refine rl_gv rfl rfl rfl rfl rfl (ov_move rfl rfl) ?_
  refine rl_gcall callable_26 rfl rfl rfl rfl rfl rfl rfl rfl (n9withdraw 1 1 w.heap.size _ w w53 hOa) (fun e55 w56 hp57 => ?_)
  obtain ⟨rfl, hOa⟩ := hp57
  refine ⟨_, rfl, ?_⟩
  refine rl_gv rfl rfl rfl rfl rfl (ov_neq rfl rfl rfl) <| rl_v rfl rfl rfl (ov_pick_f rfl rfl rfl) <| rl_v rfl rfl rfl (ov_move rfl rfl) ?_
  first | refine rl_noD 194 rfl (fun h => h rfl) ?_ | refine rl_no 194 rfl (fun h => h rfl) ?_
  refine rl_gv rfl rfl rfl rfl rfl (ov_move rfl rfl) ?_
  refine rl_gcall callable_27 rfl rfl rfl rfl rfl rfl rfl rfl (n9contribute 1 1 w.heap.size _ w w56 hOa) (fun e58 w59 hp60 => ?_)
  obtain ⟨rfl, hOa⟩ := hp60
  refine ⟨_, rfl, ?_⟩
  refine rl_gv rfl rfl rfl rfl rfl (ov_neq rfl rfl rfl) <| rl_v rfl rfl rfl (ov_pick_f rfl rfl rfl) <| rl_v rfl rfl rfl (ov_move rfl rfl) ?_
  first | refine rl_noD 199 rfl (fun h => h rfl) ?_ | refine rl_no 199 rfl (fun h => h rfl) ?_
  refine rl_gv rfl rfl rfl rfl rfl (ov_move rfl rfl) ?_
  refine rl_gcall callable_28 rfl rfl rfl rfl rfl rfl rfl rfl (n9deliver 1 2 0 1 w.heap.size _ w w59 hOa) (fun e61 w62 hp63 => ?_)
  obtain ⟨rfl, hOa⟩ := hp63
  refine ⟨_, rfl, ?_⟩
  refine rl_gv rfl rfl rfl rfl rfl (ov_neq rfl rfl rfl) <| rl_v rfl rfl rfl (ov_pick_f rfl rfl rfl) <| rl_v rfl rfl rfl (ov_move rfl rfl) ?_
  first | refine rl_noD 204 rfl (fun h => h rfl) ?_ | refine rl_no 204 rfl (fun h => h rfl) ?_
  refine rl_gv rfl rfl rfl rfl rfl (ov_move rfl rfl) ?_
  refine rl_gcall callable_32 rfl rfl rfl rfl rfl rfl rfl rfl (n9calls w.heap.size _ w w62 hOa) (fun e64 w65 hp66 => ?_)
  obtain ⟨rfl, hOa⟩ := hp66
  refine ⟨_, rfl, ?_⟩
  refine rl_gv rfl rfl rfl rfl rfl (ov_len rfl Try.underlying51 rfl) <| rl_gv rfl rfl rfl rfl rfl (ov_neq rfl rfl rfl) <| rl_v rfl rfl rfl (ov_pick_f rfl rfl rfl) <| rl_v rfl rfl rfl (ov_move rfl rfl) ?_
  first | refine rl_noD 210 rfl (fun h => h rfl) ?_ | refine rl_no 210 rfl (fun h => h rfl) ?_
  refine rl_gv rfl rfl rfl rfl rfl (ov_move rfl rfl) ?_
  refine rl_gcall callable_30 rfl rfl rfl rfl rfl rfl rfl rfl (n9total w.heap.size _ w w65 hOa) (fun e67 w68 hp69 => ?_)
  obtain ⟨rfl, hOa⟩ := hp69
  refine ⟨_, rfl, ?_⟩
  refine rl_gv rfl rfl rfl rfl rfl (ov_neq rfl rfl rfl) <| rl_v rfl rfl rfl (ov_pick_f rfl rfl rfl) <| rl_v rfl rfl rfl (ov_move rfl rfl) ?_
  first | refine rl_noD 215 rfl (fun h => h rfl) ?_ | refine rl_no 215 rfl (fun h => h rfl) ?_
  refine rl_gv rfl rfl rfl rfl rfl (ov_move rfl rfl) ?_
  refine rl_gcall callable_42 rfl rfl rfl rfl rfl rfl rfl rfl (n9fork w.heap.size _ w w68 hOa) (fun e70 w71 hp72 => ?_)
  obtain ⟨rfl, hOa⟩ := hp72
  refine ⟨_, rfl, ?_⟩
  refine rl_gv rfl rfl rfl rfl rfl (ov_ptrne rfl Try.underlying30 rfl) <| rl_v rfl rfl rfl (ov_pick_f rfl rfl rfl) <| rl_nil <| run_cond_f rfl <| run_skip <| run_seq <| run_region <| rl_v rfl rfl rfl (ov_loadW rfl Try.underlying25 rfl (by kernel_rfl) rfl hOa 3 rfl) ?_
  refine rl_call callable_43 rfl rfl rfl rfl rfl rfl (copied_any mm mn pa ma pn pc mk mc rt cp P L0 F w.heap.size _ w w71 hOa (CfRd.of_arg hpc hP hT)) (fun e73 w74 hp75 => ?_)
  obtain ⟨pa1, ma1, pc1, mc1, N1, rfl, hN1, hO1⟩ := hp75
  refine ⟨_, rfl, ?_⟩
  obtain ⟨pn1, hpn1⟩ : ∃ pn1, pn1 = min pn 20 := ⟨_, rfl⟩
  obtain ⟨k1, hk1⟩ : ∃ k1, k1 = min mk 66 := ⟨_, rfl⟩
  obtain ⟨L, hL⟩ : ∃ L : Int → Nat, L = fun r => min (L0 r) 20 := ⟨_, rfl⟩
  rw [← hpn1, ← hk1, ← hL] at hN1
  have hL20 : ∀ r, L r ≤ 20 := fun r => by rw [hL]; exact Nat.min_le_right _ _
  refine rl_ow rfl (ow_alloc _ rfl rfl rfl zero_25 rfl hO1) ?_
  rintro _ w76 ⟨b25, rfl, hO77, hs78⟩
  rw [← hpn1, ← hk1]
  refine rl_ow rfl (ow_storeW rfl rfl (by kernel_rfl) hO77 0 rfl rfl (by rfl) rfl (by rfl)) ?_
  rintro _ w79 ⟨rfl, hO80, hs81⟩
  obtain ⟨RR, hRR⟩ : ∃ RR, RR = some (lch b25 25 (cfL mm mn pa1 pn1 pc1 ma1 k1 mc1 rt cp)) :: (N1 ++ [some (lch b19 45 (ctL Ct.z)), some (lch b10 64 [iv 0, iv 0, .slice none 0 0, .bool false]), some (lch b8 60 (lossV [0, 0, 0, 0, 0])), some (lch b1 25 (cfL mm mn pa pn pc ma mk mc rt cp))]) := ⟨_, rfl⟩
  have hO2 : Own w.heap.size w w79 RR := by rw [hRR]; exact hO80
  have hsN : N1.Sublist RR := by rw [hRR]; exact .cons _ (List.sublist_append_left _ _)
  have hs25 : [some (lch b25 25 (cfL mm mn pa1 pn1 pc1 ma1 k1 mc1 rt cp))].Sublist RR := by rw [hRR]; exact .cons_cons _ (List.nil_sublist _)
  clear hRR
  rw [← hpn1, ← hk1, ← hL] at hE
  refine rl_nil <| run_seq <| run_region <| rl_v rfl rfl rfl (ov_loadW rfl Try.underlying25 rfl (by kernel_rfl) rfl (hO2.sub hs25) 0 rfl) ?_
  refine rl_call callable_18 rfl rfl rfl rfl rfl rfl (giveO2_any mm mn pa1 ma1 pn1 pc1 k1 mc1 rt cp P L F w.heap.size _ w w79 hO2 (CfRd.of_src hN1.1 hN1.2.1 hN1.2.2 hsN) (by omega) (by omega) hL20) (fun e82 w83 hp84 => ?_)
  obtain ⟨pa2, ma2, pc2, mc2, c0, M0, rfl, ⟨hpc2, hrP0, hTb0⟩, hO3⟩ := hp84
  refine ⟨_, rfl, ?_⟩
  refine rl_ow rfl (ow_alloc _ rfl rfl rfl zero_40 rfl hO3) ?_
  rintro _ w85 ⟨b26, rfl, hO86, hs87⟩
  refine rl_ow rfl (ow_storeW rfl rfl (by kernel_rfl) hO86 0 rfl rfl (by rfl) rfl (by rfl)) ?_
  rintro _ w88 ⟨rfl, hO89, hs90⟩
  have hSP : SrcI (some (lch b26 40 (cfL mm mn pa2 pn1 pc2 ma2 k1 mc2 rt cp)) :: c0 :: (M0 ++ RR)) pa2 pn1 P := fun B w0 w hO => hrP0.reads hO 1 rfl
  have hST : TSrc (some (lch b26 40 (cfL mm mn pa2 pn1 pc2 ma2 k1 mc2 rt cp)) :: c0 :: (M0 ++ RR)) ma2 k1 L F := hTb0.tsrc.sub (.cons _ (.cons _ (List.sublist_append_left _ _)))
  refine rl_nil <| run_seq <| run_region <| rl_v rfl rfl rfl (ov_loadW rfl Try.underlying40 rfl (by kernel_rfl) rfl hO89 0 rfl) ?_
  refine rl_call callable_17 rfl rfl rfl rfl rfl rfl (newBad mm mn pa2 ma2 pn1 pc2 k1 mc2 rt cp P L F w.heap.size _ w w88 hO89 hSP hST (by omega) (by omega) (fun i _ _ => by have := hL20 i; omega) hE) (fun e91 w92 hp93 => ?_)
  obtain ⟨rfl, hO4⟩ := hp93
  refine ⟨_, rfl, ?_⟩
  refine rl_v rfl rfl rfl (ov_move rfl rfl) <| rl_v rfl rfl rfl (ov_extract rfl rfl (by rfl)) ?_
  refine rl_v rfl rfl rfl (ov_extract rfl rfl (by rfl)) ?_
  refine rl_v rfl rfl rfl (ov_assign rfl rfl) <| rl_v rfl rfl rfl (ov_assign rfl rfl) <| rl_nil <| run_seq <| run_region <| rl_v rfl rfl rfl (ov_loadW rfl Try.underlying25 rfl (by kernel_rfl) rfl (hO4.sub (.cons _ (.cons _ (hs25.trans (List.sublist_append_right _ _))))) 0 rfl) ?_
  refine rl_call callable_44 rfl rfl rfl rfl rfl rfl (gCheck_any mm mn pa1 ma1 pn1 pc1 k1 mc1 rt cp P L F w.heap.size _ w w92 hO4 (hN1.2.1.sub (.cons _ (.cons _ (hsN.trans (List.sublist_append_right _ _))))) (hN1.2.2.sub (.cons _ (.cons _ (hsN.trans (List.sublist_append_right _ _))))) (by omega)) (fun e94 w95 hp96 => ?_)
  obtain ⟨rfl, hO5⟩ := hp96
  refine ⟨_, rfl, ?_⟩
  refine rl_v rfl rfl rfl (ov_assign rfl rfl) <| rl_nil <| run_seq <| run_seq <| run_region <| rl_v rfl rfl rfl (ov_move rfl rfl) <| rl_v rfl rfl rfl (ov_move rfl rfl) <| rl_v rfl rfl rfl (ov_neq rfl rfl rfl) <| rl_v rfl rfl rfl (ov_move rfl rfl) ?_
  first | refine rl_noD 234 rfl (fun h => h rfl) ?_ | refine rl_no 234 rfl (fun h => h rfl) ?_
  refine rl_gv rfl rfl rfl rfl rfl (ov_move rfl rfl) <| rl_gv rfl rfl rfl rfl rfl (ov_ptrnil rfl Try.underlying30 rfl) <| rl_gv rfl rfl rfl rfl rfl (ov_move rfl rfl) <| rl_gv rfl rfl rfl rfl rfl (ov_neq rfl rfl rfl) <| rl_gv rfl rfl rfl rfl rfl (ov_neqB rfl Try.underlying4 rfl rfl) <| rl_v rfl rfl rfl (ov_pick_f rfl rfl rfl) <| rl_nil ?_
  first | refine run_cond_dec rfl (fun bad => ?_) (fun bad => ?_) | refine run_cond rfl (fun bad => ?_) (fun bad => ?_)
  ·exfalso; exact bad (decide_eq_true hE).symm
  ·refine run_skip <| run_seq <| run_seq <| run_region <| rl_v rfl rfl rfl (ov_move rfl rfl) <| rl_v rfl rfl rfl (ov_neq rfl rfl rfl) <| rl_nil ?_
   first | refine run_cond_dec rfl (fun c => ?_) (fun c => ?_) | refine run_cond rfl (fun c => ?_) (fun c => ?_)
   ·refine run_seq <| run_region ?_
    refine rl_call callable_21 rfl rfl rfl rfl rfl rfl (awake_any w.heap.size _ w w95 hO5) (fun e97 w98 hp99 => ?_)
    obtain ⟨rfl, hO6⟩ := hp99
    refine ⟨_, rfl, ?_⟩
    refine rl_v rfl rfl rfl (ov_assign rfl rfl) <| rl_nil <| run_ret Try.func10 (res1 Try.results10 rfl) ?_
    exact ⟨rfl, hO6.below⟩
   ·exfalso; exact c hE
set_option maxHeartbeats 4000000 in
theorem checksGood9 (mm mn : Int) (pa ma : Option Addr) (pn pc mk mc : Nat) (rt cp : Int) (P : Int → Int) (L0 : Int → Nat) (F : Int → Int → Int) (w : World) (hpc : pn ≤ pc) (hP : IAt w.heap.size w pa pn (fun i => iv (P i))) (hT : HTab w.heap.size w ma mk L0 F) (hE : newE mm mn (min pn 20) (min mk 66) P (fun r => min (L0 r) 20) F rt cp = 0) :
  Calls Try.prog 10 #[.agg (cfL mm mn pa pn pc ma mk mc rt cp).toArray] w fun e w' => e = .returned (.bool true) ∧ Below w.heap.size w w' := by
 refine calls_of_run (F := [(0, _)]) Try.func10 rfl Try.ntmps10 rfl rfl <| run_seq <| run_region <| rl_ow rfl (ow_box _ rfl rfl rfl rfl rfl (Own.init w)) ?_
 rintro _ w1 ⟨b1, rfl, hO2, hs3⟩
 refine rl_v rfl rfl rfl (ov_assign rfl rfl) <| rl_nil <| run_seq <| run_region <| rl_v rfl rfl rfl (ov_assign rfl rfl) <| rl_nil <| run_seq <| run_region <| rl_v rfl rfl rfl (ov_move rfl rfl) <| rl_v rfl rfl rfl (ov_buildL rfl lay_45 rfl (us := [_, _, _, _, _]) rfl) ?_
 refine rl_call callable_25 rfl rfl rfl rfl rfl rfl (n9trade Ct.z w.heap.size _ w w1 hO2) (fun e4 w5 hp6 => ?_)
 obtain ⟨rfl, hOa⟩ := hp6
 refine ⟨_, rfl, ?_⟩
 refine rl_v rfl rfl rfl (ov_move rfl rfl) <| rl_v rfl rfl rfl (ov_extract rfl rfl (by rfl)) ?_
 refine rl_v rfl rfl rfl (ov_extract rfl rfl (by rfl)) ?_
 refine rl_v rfl rfl rfl (ov_assign rfl rfl) <| rl_v rfl rfl rfl (ov_assign rfl rfl) <| rl_nil <| run_seq <| run_region <| rl_v rfl rfl rfl (ov_move rfl rfl) ?_
 refine rl_call callable_22 rfl rfl rfl rfl rfl rfl (n9mark 0 1 w.heap.size _ w w5 hOa) (fun e7 w8 hp9 => ?_)
 obtain ⟨rfl, hOa⟩ := hp9
 refine ⟨_, rfl, ?_⟩
 refine rl_v rfl rfl rfl (ov_move rfl rfl) <| rl_v rfl rfl rfl (ov_extract rfl rfl (by rfl)) ?_
 refine rl_v rfl rfl rfl (ov_extract rfl rfl (by rfl)) ?_
 refine rl_v rfl rfl rfl (ov_assign rfl rfl) <| rl_v rfl rfl rfl (ov_assign rfl rfl) <| rl_nil <| run_seq <| run_region <| rl_v rfl rfl rfl (ov_move rfl rfl) ?_
 refine rl_call callable_29 rfl rfl rfl rfl rfl rfl (n9default 1 w.heap.size _ w w8 hOa) (fun e10 w11 hp12 => ?_)
 obtain ⟨rfl, hOa⟩ := hp12
 refine ⟨_, rfl, ?_⟩
 refine rl_v rfl rfl rfl (ov_move rfl rfl) <| rl_v rfl rfl rfl (ov_extract rfl rfl (by rfl)) ?_
 refine rl_v rfl rfl rfl (ov_extract rfl rfl (by rfl)) ?_
 refine rl_ow rfl (ow_alloc _ rfl rfl rfl zero_60 rfl hOa) ?_
 rintro _ w13 ⟨b8, rfl, hO14, hs15⟩
 refine rl_ow rfl (ow_storeW rfl rfl (by kernel_rfl) hO14 0 rfl rfl (by rfl) rfl (by rfl)) ?_
 rintro _ w16 ⟨rfl, hO17, hs18⟩
 refine rl_v rfl rfl rfl (ov_assign rfl rfl) <| rl_nil <| run_seq <| run_region <| rl_v rfl rfl rfl (ov_move rfl rfl) ?_
 refine rl_call callable_31 rfl rfl rfl rfl rfl rfl (n9account 1 w.heap.size _ w w16 hO17) (fun e19 w20 hp21 => ?_)
 obtain ⟨rfl, hOa⟩ := hp21
 refine ⟨_, rfl, ?_⟩
 refine rl_v rfl rfl rfl (ov_move rfl rfl) <| rl_v rfl rfl rfl (ov_extract rfl rfl (by rfl)) ?_
 refine rl_v rfl rfl rfl (ov_extract rfl rfl (by rfl)) ?_
 refine rl_ow rfl (ow_alloc _ rfl rfl rfl zero_64 rfl hOa) ?_
 rintro _ w22 ⟨b10, rfl, hO23, hs24⟩
 refine rl_ow rfl (ow_storeW rfl rfl (by kernel_rfl) hO23 0 rfl rfl (by rfl) rfl (by rfl)) ?_
 rintro _ w25 ⟨rfl, hO26, hs27⟩
 refine rl_v rfl rfl rfl (ov_assign rfl rfl) <| rl_nil <| run_seq <| run_region <| rl_v rfl rfl rfl (ov_move rfl rfl) ?_
 refine rl_call callable_24 rfl rfl rfl rfl rfl rfl (n9margin 1 w.heap.size _ w w25 hO26) (fun e28 w29 hp30 => ?_)
 obtain ⟨rfl, hOa⟩ := hp30
 refine ⟨_, rfl, ?_⟩
 refine rl_v rfl rfl rfl (ov_move rfl rfl) <| rl_v rfl rfl rfl (ov_extract rfl rfl (by rfl)) ?_
 refine rl_v rfl rfl rfl (ov_extract rfl rfl (by rfl)) ?_
 refine rl_v rfl rfl rfl (ov_assign rfl rfl) <| rl_v rfl rfl rfl (ov_assign rfl rfl) <| rl_nil <| run_seq <| run_region <| rl_v rfl rfl rfl (ov_move rfl rfl) ?_
 refine rl_call callable_38 rfl rfl rfl rfl rfl rfl (n9worst 1 w.heap.size _ w w29 hOa) (fun e31 w32 hp33 => ?_)
 obtain ⟨rfl, hOa⟩ := hp33
 refine ⟨_, rfl, ?_⟩
 refine rl_v rfl rfl rfl (ov_move rfl rfl) <| rl_v rfl rfl rfl (ov_extract rfl rfl (by rfl)) ?_
 refine rl_v rfl rfl rfl (ov_extract rfl rfl (by rfl)) ?_
 refine rl_v rfl rfl rfl (ov_extract rfl rfl (by rfl)) ?_
 refine rl_v rfl rfl rfl (ov_assign rfl rfl) <| rl_v rfl rfl rfl (ov_assign rfl rfl) <| rl_v rfl rfl rfl (ov_assign rfl rfl) <| rl_nil <| run_seq <| run_region <| rl_v rfl rfl rfl (ov_move rfl rfl) ?_
 refine rl_call callable_20 rfl rfl rfl rfl rfl rfl (n9price 0 w.heap.size _ w w32 hOa) (fun e34 w35 hp36 => ?_)
 obtain ⟨rfl, hOa⟩ := hp36
 refine ⟨_, rfl, ?_⟩
 refine rl_v rfl rfl rfl (ov_move rfl rfl) <| rl_v rfl rfl rfl (ov_extract rfl rfl (by rfl)) ?_
 refine rl_v rfl rfl rfl (ov_extract rfl rfl (by rfl)) ?_
 refine rl_v rfl rfl rfl (ov_assign rfl rfl) <| rl_v rfl rfl rfl (ov_assign rfl rfl) <| rl_nil <| run_seq <| run_region <| rl_v rfl rfl rfl (ov_move rfl rfl) ?_
 refine rl_call callable_39 rfl rfl rfl rfl rfl rfl (n9contract 1 w.heap.size _ w w35 hOa) (fun e37 w38 hp39 => ?_)
 obtain ⟨rfl, hOa⟩ := hp39
 refine ⟨_, rfl, ?_⟩
 refine rl_v rfl rfl rfl (ov_move rfl rfl) <| rl_v rfl rfl rfl (ov_extract rfl rfl (by rfl)) ?_
 refine rl_v rfl rfl rfl (ov_extract rfl rfl (by rfl)) ?_
 refine rl_ow rfl (ow_alloc _ rfl rfl rfl zero_45 rfl hOa) ?_
 rintro _ w40 ⟨b19, rfl, hO41, hs42⟩
 refine rl_ow rfl (ow_storeW rfl rfl (by kernel_rfl) hO41 0 rfl rfl (by rfl) rfl (by rfl)) ?_
 rintro _ w43 ⟨rfl, hO44, hs45⟩
 refine rl_v rfl rfl rfl (ov_assign rfl rfl) <| rl_nil <| run_seq <| run_region <| rl_v rfl rfl rfl (ov_move rfl rfl) ?_
 refine rl_call callable_40 rfl rfl rfl rfl rfl rfl (n9stress 0 w.heap.size _ w w43 hO44) (fun e46 w47 hp48 => ?_)
 obtain ⟨rfl, hOa⟩ := hp48
 refine ⟨_, rfl, ?_⟩
 refine rl_v rfl rfl rfl (ov_move rfl rfl) <| rl_v rfl rfl rfl (ov_extract rfl rfl (by rfl)) ?_
 refine rl_v rfl rfl rfl (ov_extract rfl rfl (by rfl)) ?_
 refine rl_v rfl rfl rfl (ov_assign rfl rfl) <| rl_v rfl rfl rfl (ov_assign rfl rfl) <| rl_nil <| run_seq <| run_region <| rl_v rfl rfl rfl (ov_move rfl rfl) ?_
 refine rl_call callable_41 rfl rfl rfl rfl rfl rfl (n9capital w.heap.size _ w w47 hOa) (fun e49 w50 hp51 => ?_)
 obtain ⟨rfl, hOa⟩ := hp51
 refine ⟨_, rfl, ?_⟩
 refine rl_v rfl rfl rfl (ov_move rfl rfl) <| rl_v rfl rfl rfl (ov_extract rfl rfl (by rfl)) ?_
 refine rl_v rfl rfl rfl (ov_extract rfl rfl (by rfl)) ?_
 refine rl_v rfl rfl rfl (ov_assign rfl rfl) <| rl_v rfl rfl rfl (ov_assign rfl rfl) <| rl_nil <| run_seq <| run_seq <| run_region <| rl_v rfl rfl rfl (ov_move rfl rfl) <| rl_v rfl rfl rfl (ov_neq rfl rfl rfl) <| rl_v rfl rfl rfl (ov_move rfl rfl) ?_
 first | refine rl_noD 86 rfl (fun h => h rfl) ?_ | refine rl_no 86 rfl (fun h => h rfl) ?_
 refine rl_gv rfl rfl rfl rfl rfl (ov_move rfl rfl) <| rl_gv rfl rfl rfl rfl rfl (ov_neq rfl rfl rfl) <| rl_v rfl rfl rfl (ov_pick_f rfl rfl rfl) <| rl_v rfl rfl rfl (ov_move rfl rfl) ?_
 first | refine rl_noD 90 rfl (fun h => h rfl) ?_ | refine rl_no 90 rfl (fun h => h rfl) ?_
 refine rl_gv rfl rfl rfl rfl rfl (ov_move rfl rfl) <| rl_gv rfl rfl rfl rfl rfl (ov_len rfl Try.underlying51 rfl) <| rl_gv rfl rfl rfl rfl rfl (ov_neq rfl rfl rfl) <| rl_v rfl rfl rfl (ov_pick_f rfl rfl rfl) <| rl_v rfl rfl rfl (ov_move rfl rfl) ?_
 first | refine rl_noD 95 rfl (fun h => h rfl) ?_ | refine rl_no 95 rfl (fun h => h rfl) ?_
 refine rl_gv rfl rfl rfl rfl rfl (ov_move rfl rfl) <| rl_gv rfl rfl rfl rfl rfl (ov_neq rfl rfl rfl) <| rl_v rfl rfl rfl (ov_pick_f rfl rfl rfl) <| rl_v rfl rfl rfl (ov_move rfl rfl) ?_
 first | refine rl_noD 99 rfl (fun h => h rfl) ?_ | refine rl_no 99 rfl (fun h => h rfl) ?_
 refine rl_gv rfl rfl rfl rfl rfl (ov_loadW rfl Try.underlying60 rfl (by kernel_rfl) rfl hOa 2 rfl) ?_
 refine rl_gv rfl rfl rfl rfl rfl (ov_buildL rfl lay_60 rfl (us := [_, _, _, _, _]) rfl) <| rl_gv rfl rfl rfl rfl rfl (ov_neqLk (a := 0) (b := 0) (c := 0) (d := 0) (e := 0) rfl rfl rfl) <| rl_v rfl rfl rfl (ov_pick_f rfl rfl rfl) <| rl_v rfl rfl rfl (ov_move rfl rfl) ?_
 first | refine rl_noD 104 rfl (rfl) ?_ | refine rl_no 104 rfl (rfl) ?_
 refine rl_gv rfl rfl rfl rfl rfl (ov_move rfl rfl) <| rl_gv rfl rfl rfl rfl rfl (ov_neq rfl rfl rfl) <| rl_v rfl rfl rfl (ov_pick_f rfl rfl rfl) <| rl_v rfl rfl rfl (ov_move rfl rfl) ?_
 first | refine rl_noD 108 rfl (fun h => h rfl) ?_ | refine rl_no 108 rfl (fun h => h rfl) ?_
 refine rl_gv rfl rfl rfl rfl rfl (ov_fieldS rfl Try.underlying64 rfl (fo := 0) rfl (by kernel_rfl) rfl) ?_
 refine rl_gv rfl rfl rfl rfl rfl (ov_load rfl Try.underlying2 rfl rfl (by exact (show _ = some (iv 0) from hOa.cellL 1 rfl (off := 0) rfl))) ?_
 refine rl_gv rfl rfl rfl rfl rfl (ov_neq rfl rfl rfl) <| rl_v rfl rfl rfl (ov_pick_f rfl rfl rfl) <| rl_v rfl rfl rfl (ov_move rfl rfl) ?_
 first | refine rl_noD 113 rfl (fun h => h rfl) ?_ | refine rl_no 113 rfl (fun h => h rfl) ?_
 refine rl_gv rfl rfl rfl rfl rfl (ov_fieldS rfl Try.underlying64 rfl (fo := 1) rfl (by kernel_rfl) rfl) ?_
 refine rl_gv rfl rfl rfl rfl rfl (ov_load rfl Try.underlying2 rfl rfl (by exact (show _ = some (iv 0) from hOa.cellL 1 rfl (off := 1) rfl))) ?_
 refine rl_gv rfl rfl rfl rfl rfl (ov_neq rfl rfl rfl) <| rl_v rfl rfl rfl (ov_pick_f rfl rfl rfl) <| rl_v rfl rfl rfl (ov_move rfl rfl) ?_
 first | refine rl_noD 118 rfl (fun h => h rfl) ?_ | refine rl_no 118 rfl (fun h => h rfl) ?_
 refine rl_gv rfl rfl rfl rfl rfl (ov_fieldS rfl Try.underlying64 rfl (fo := 2) rfl (by kernel_rfl) rfl) ?_
 refine rl_gv rfl rfl rfl rfl rfl (ov_load rfl Try.underlying22 rfl rfl (by exact (show _ = some (.slice none 0 0) from hOa.cellL 1 rfl (off := 2) rfl))) ?_
 refine rl_gv rfl rfl rfl rfl rfl (ov_len rfl Try.underlying22 rfl) <| rl_gv rfl rfl rfl rfl rfl (ov_neq rfl rfl rfl) <| rl_v rfl rfl rfl (ov_pick_f rfl rfl rfl) <| rl_v rfl rfl rfl (ov_move rfl rfl) ?_
 first | refine rl_noD 124 rfl (fun h => h rfl) ?_ | refine rl_no 124 rfl (fun h => h rfl) ?_
 refine rl_gv rfl rfl rfl rfl rfl (ov_fieldS rfl Try.underlying64 rfl (fo := 3) rfl (by kernel_rfl) rfl) ?_
 refine rl_gv rfl rfl rfl rfl rfl (ov_load rfl Try.underlying4 rfl rfl (by exact (show _ = some (.bool false) from hOa.cellL 1 rfl (off := 3) rfl))) ?_
 refine rl_v rfl rfl rfl (ov_pick_f rfl rfl rfl) <| rl_v rfl rfl rfl (ov_move rfl rfl) ?_
 first | refine rl_noD 128 rfl (rfl) ?_ | refine rl_no 128 rfl (rfl) ?_
 refine rl_gv rfl rfl rfl rfl rfl (ov_move rfl rfl) <| rl_gv rfl rfl rfl rfl rfl (ov_neq rfl rfl rfl) <| rl_v rfl rfl rfl (ov_pick_f rfl rfl rfl) <| rl_v rfl rfl rfl (ov_move rfl rfl) ?_
 first | refine rl_noD 132 rfl (fun h => h rfl) ?_ | refine rl_no 132 rfl (fun h => h rfl) ?_
 refine rl_gv rfl rfl rfl rfl rfl (ov_move rfl rfl) <| rl_gv rfl rfl rfl rfl rfl (ov_neq rfl rfl rfl) <| rl_v rfl rfl rfl (ov_pick_f rfl rfl rfl) <| rl_v rfl rfl rfl (ov_move rfl rfl) ?_
 first | refine rl_noD 136 rfl (fun h => h rfl) ?_ | refine rl_no 136 rfl (fun h => h rfl) ?_
 refine rl_gv rfl rfl rfl rfl rfl (ov_move rfl rfl) <| rl_gv rfl rfl rfl rfl rfl (ov_neq rfl rfl rfl) <| rl_v rfl rfl rfl (ov_pick_f rfl rfl rfl) <| rl_v rfl rfl rfl (ov_move rfl rfl) ?_
 first | refine rl_noD 140 rfl (fun h => h rfl) ?_ | refine rl_no 140 rfl (fun h => h rfl) ?_
 refine rl_gv rfl rfl rfl rfl rfl (ov_move rfl rfl) <| rl_gv rfl rfl rfl rfl rfl (ov_neq rfl rfl rfl) <| rl_v rfl rfl rfl (ov_pick_f rfl rfl rfl) <| rl_v rfl rfl rfl (ov_move rfl rfl) ?_
 first | refine rl_noD 144 rfl (fun h => h rfl) ?_ | refine rl_no 144 rfl (fun h => h rfl) ?_
 refine rl_gv rfl rfl rfl rfl rfl (ov_move rfl rfl) <| rl_gv rfl rfl rfl rfl rfl (ov_neq rfl rfl rfl) <| rl_v rfl rfl rfl (ov_pick_f rfl rfl rfl) <| rl_v rfl rfl rfl (ov_move rfl rfl) ?_
 first | refine rl_noD 148 rfl (fun h => h rfl) ?_ | refine rl_no 148 rfl (fun h => h rfl) ?_
 refine rl_gv rfl rfl rfl rfl rfl (ov_move rfl rfl) <| rl_gv rfl rfl rfl rfl rfl (ov_neq rfl rfl rfl) <| rl_v rfl rfl rfl (ov_pick_f rfl rfl rfl) <| rl_v rfl rfl rfl (ov_move rfl rfl) ?_
 first | refine rl_noD 152 rfl (fun h => h rfl) ?_ | refine rl_no 152 rfl (fun h => h rfl) ?_
 refine rl_gv rfl rfl rfl rfl rfl (ov_move rfl rfl) <| rl_gv rfl rfl rfl rfl rfl (ov_neq rfl rfl rfl) <| rl_v rfl rfl rfl (ov_pick_f rfl rfl rfl) <| rl_v rfl rfl rfl (ov_move rfl rfl) ?_
 first | refine rl_noD 156 rfl (fun h => h rfl) ?_ | refine rl_no 156 rfl (fun h => h rfl) ?_
 refine rl_gv rfl rfl rfl rfl rfl (ov_move rfl rfl) <| rl_gv rfl rfl rfl rfl rfl (ov_neq rfl rfl rfl) <| rl_v rfl rfl rfl (ov_pick_f rfl rfl rfl) <| rl_v rfl rfl rfl (ov_move rfl rfl) ?_
 first | refine rl_noD 160 rfl (fun h => h rfl) ?_ | refine rl_no 160 rfl (fun h => h rfl) ?_
 refine rl_gv rfl rfl rfl rfl rfl (ov_loadW rfl Try.underlying45 rfl (by kernel_rfl) rfl hOa 0 rfl) ?_
 refine rl_gv rfl rfl rfl rfl rfl (ov_buildL rfl lay_45 rfl (us := [_, _, _, _, _]) rfl) <| rl_gv rfl rfl rfl rfl rfl (ov_neqCh (c := Ct.z) rfl rfl rfl) <| rl_v rfl rfl rfl (ov_pick_f rfl rfl rfl) <| rl_v rfl rfl rfl (ov_move rfl rfl) ?_
 first | refine rl_noD 165 rfl (rfl) ?_ | refine rl_no 165 rfl (rfl) ?_
 refine rl_gv rfl rfl rfl rfl rfl (ov_move rfl rfl) <| rl_gv rfl rfl rfl rfl rfl (ov_neq rfl rfl rfl) <| rl_v rfl rfl rfl (ov_pick_f rfl rfl rfl) <| rl_v rfl rfl rfl (ov_move rfl rfl) ?_
 first | refine rl_noD 169 rfl (fun h => h rfl) ?_ | refine rl_no 169 rfl (fun h => h rfl) ?_
 refine rl_gv rfl rfl rfl rfl rfl (ov_move rfl rfl) <| rl_gv rfl rfl rfl rfl rfl (ov_len rfl Try.underlying22 rfl) <| rl_gv rfl rfl rfl rfl rfl (ov_neq rfl rfl rfl) <| rl_v rfl rfl rfl (ov_pick_f rfl rfl rfl) <| rl_v rfl rfl rfl (ov_move rfl rfl) ?_
 first | refine rl_noD 174 rfl (fun h => h rfl) ?_ | refine rl_no 174 rfl (fun h => h rfl) ?_
 refine rl_gv rfl rfl rfl rfl rfl (ov_move rfl rfl) <| rl_gv rfl rfl rfl rfl rfl (ov_neq rfl rfl rfl) <| rl_v rfl rfl rfl (ov_pick_f rfl rfl rfl) <| rl_v rfl rfl rfl (ov_move rfl rfl) ?_
 first | refine rl_noD 178 rfl (fun h => h rfl) ?_ | refine rl_no 178 rfl (fun h => h rfl) ?_
 refine rl_gv rfl rfl rfl rfl rfl (ov_move rfl rfl) <| rl_gv rfl rfl rfl rfl rfl (ov_neq rfl rfl rfl) <| rl_v rfl rfl rfl (ov_pick_f rfl rfl rfl) <| rl_v rfl rfl rfl (ov_move rfl rfl) ?_
 first | refine rl_noD 182 rfl (fun h => h rfl) ?_ | refine rl_no 182 rfl (fun h => h rfl) ?_
 refine rl_gv rfl rfl rfl rfl rfl (ov_move rfl rfl) <| rl_gv rfl rfl rfl rfl rfl (ov_neq rfl rfl rfl) <| rl_v rfl rfl rfl (ov_pick_f rfl rfl rfl) <| rl_nil ?_
 first | refine run_cond_dec rfl (fun bad => ?_) (fun bad => ?_) | refine run_cond rfl (fun bad => ?_) (fun bad => ?_)
 ·exfalso; exact bad rfl
 ·refine run_skip <| run_seq <| run_seq <| run_region <| rl_v rfl rfl rfl (ov_move rfl rfl) ?_
  refine rl_call callable_23 rfl rfl rfl rfl rfl rfl (n9deposit 1 1 w.heap.size _ w w50 hOa) (fun e52 w53 hp54 => ?_)
  obtain ⟨rfl, hOa⟩ := hp54
  refine ⟨_, rfl, ?_⟩
  refine rl_v rfl rfl rfl (ov_neq rfl rfl rfl) <| rl_v rfl rfl rfl (ov_move rfl rfl) ?_
  first | refine rl_noD 189 rfl (fun h => h rfl) ?_ | refine rl_no 189 rfl (fun h => h rfl) ?_
  refine rl_gv rfl rfl rfl rfl rfl (ov_move rfl rfl) ?_
  refine rl_gcall callable_26 rfl rfl rfl rfl rfl rfl rfl rfl (n9withdraw 1 1 w.heap.size _ w w53 hOa) (fun e55 w56 hp57 => ?_)
  obtain ⟨rfl, hOa⟩ := hp57
  refine ⟨_, rfl, ?_⟩
  refine rl_gv rfl rfl rfl rfl rfl (ov_neq rfl rfl rfl) <| rl_v rfl rfl rfl (ov_pick_f rfl rfl rfl) <| rl_v rfl rfl rfl (ov_move rfl rfl) ?_
  first | refine rl_noD 194 rfl (fun h => h rfl) ?_ | refine rl_no 194 rfl (fun h => h rfl) ?_
  refine rl_gv rfl rfl rfl rfl rfl (ov_move rfl rfl) ?_
  refine rl_gcall callable_27 rfl rfl rfl rfl rfl rfl rfl rfl (n9contribute 1 1 w.heap.size _ w w56 hOa) (fun e58 w59 hp60 => ?_)
  obtain ⟨rfl, hOa⟩ := hp60
  refine ⟨_, rfl, ?_⟩
  refine rl_gv rfl rfl rfl rfl rfl (ov_neq rfl rfl rfl) <| rl_v rfl rfl rfl (ov_pick_f rfl rfl rfl) <| rl_v rfl rfl rfl (ov_move rfl rfl) ?_
  first | refine rl_noD 199 rfl (fun h => h rfl) ?_ | refine rl_no 199 rfl (fun h => h rfl) ?_
  refine rl_gv rfl rfl rfl rfl rfl (ov_move rfl rfl) ?_
  refine rl_gcall callable_28 rfl rfl rfl rfl rfl rfl rfl rfl (n9deliver 1 2 0 1 w.heap.size _ w w59 hOa) (fun e61 w62 hp63 => ?_)
  obtain ⟨rfl, hOa⟩ := hp63
  refine ⟨_, rfl, ?_⟩
  refine rl_gv rfl rfl rfl rfl rfl (ov_neq rfl rfl rfl) <| rl_v rfl rfl rfl (ov_pick_f rfl rfl rfl) <| rl_v rfl rfl rfl (ov_move rfl rfl) ?_
  first | refine rl_noD 204 rfl (fun h => h rfl) ?_ | refine rl_no 204 rfl (fun h => h rfl) ?_
  refine rl_gv rfl rfl rfl rfl rfl (ov_move rfl rfl) ?_
  refine rl_gcall callable_32 rfl rfl rfl rfl rfl rfl rfl rfl (n9calls w.heap.size _ w w62 hOa) (fun e64 w65 hp66 => ?_)
  obtain ⟨rfl, hOa⟩ := hp66
  refine ⟨_, rfl, ?_⟩
  refine rl_gv rfl rfl rfl rfl rfl (ov_len rfl Try.underlying51 rfl) <| rl_gv rfl rfl rfl rfl rfl (ov_neq rfl rfl rfl) <| rl_v rfl rfl rfl (ov_pick_f rfl rfl rfl) <| rl_v rfl rfl rfl (ov_move rfl rfl) ?_
  first | refine rl_noD 210 rfl (fun h => h rfl) ?_ | refine rl_no 210 rfl (fun h => h rfl) ?_
  refine rl_gv rfl rfl rfl rfl rfl (ov_move rfl rfl) ?_
  refine rl_gcall callable_30 rfl rfl rfl rfl rfl rfl rfl rfl (n9total w.heap.size _ w w65 hOa) (fun e67 w68 hp69 => ?_)
  obtain ⟨rfl, hOa⟩ := hp69
  refine ⟨_, rfl, ?_⟩
  refine rl_gv rfl rfl rfl rfl rfl (ov_neq rfl rfl rfl) <| rl_v rfl rfl rfl (ov_pick_f rfl rfl rfl) <| rl_v rfl rfl rfl (ov_move rfl rfl) ?_
  first | refine rl_noD 215 rfl (fun h => h rfl) ?_ | refine rl_no 215 rfl (fun h => h rfl) ?_
  refine rl_gv rfl rfl rfl rfl rfl (ov_move rfl rfl) ?_
  refine rl_gcall callable_42 rfl rfl rfl rfl rfl rfl rfl rfl (n9fork w.heap.size _ w w68 hOa) (fun e70 w71 hp72 => ?_)
  obtain ⟨rfl, hOa⟩ := hp72
  refine ⟨_, rfl, ?_⟩
  refine rl_gv rfl rfl rfl rfl rfl (ov_ptrne rfl Try.underlying30 rfl) <| rl_v rfl rfl rfl (ov_pick_f rfl rfl rfl) <| rl_nil <| run_cond_f rfl <| run_skip <| run_seq <| run_region <| rl_v rfl rfl rfl (ov_loadW rfl Try.underlying25 rfl (by kernel_rfl) rfl hOa 3 rfl) ?_
  refine rl_call callable_43 rfl rfl rfl rfl rfl rfl (copied_any mm mn pa ma pn pc mk mc rt cp P L0 F w.heap.size _ w w71 hOa (CfRd.of_arg hpc hP hT)) (fun e73 w74 hp75 => ?_)
  obtain ⟨pa1, ma1, pc1, mc1, N1, rfl, hN1, hO1⟩ := hp75
  refine ⟨_, rfl, ?_⟩
  obtain ⟨pn1, hpn1⟩ : ∃ pn1, pn1 = min pn 20 := ⟨_, rfl⟩
  obtain ⟨k1, hk1⟩ : ∃ k1, k1 = min mk 66 := ⟨_, rfl⟩
  obtain ⟨L, hL⟩ : ∃ L : Int → Nat, L = fun r => min (L0 r) 20 := ⟨_, rfl⟩
  rw [← hpn1, ← hk1, ← hL] at hN1
  have hL20 : ∀ r, L r ≤ 20 := fun r => by rw [hL]; exact Nat.min_le_right _ _
  refine rl_ow rfl (ow_alloc _ rfl rfl rfl zero_25 rfl hO1) ?_
  rintro _ w76 ⟨b25, rfl, hO77, hs78⟩
  rw [← hpn1, ← hk1]
  refine rl_ow rfl (ow_storeW rfl rfl (by kernel_rfl) hO77 0 rfl rfl (by rfl) rfl (by rfl)) ?_
  rintro _ w79 ⟨rfl, hO80, hs81⟩
  obtain ⟨RR, hRR⟩ : ∃ RR, RR = some (lch b25 25 (cfL mm mn pa1 pn1 pc1 ma1 k1 mc1 rt cp)) :: (N1 ++ [some (lch b19 45 (ctL Ct.z)), some (lch b10 64 [iv 0, iv 0, .slice none 0 0, .bool false]), some (lch b8 60 (lossV [0, 0, 0, 0, 0])), some (lch b1 25 (cfL mm mn pa pn pc ma mk mc rt cp))]) := ⟨_, rfl⟩
  have hO2 : Own w.heap.size w w79 RR := by rw [hRR]; exact hO80
  have hsN : N1.Sublist RR := by rw [hRR]; exact .cons _ (List.sublist_append_left _ _)
  have hs25 : [some (lch b25 25 (cfL mm mn pa1 pn1 pc1 ma1 k1 mc1 rt cp))].Sublist RR := by rw [hRR]; exact .cons_cons _ (List.nil_sublist _)
  clear hRR
  rw [← hpn1, ← hk1, ← hL] at hE
  refine rl_nil <| run_seq <| run_region <| rl_v rfl rfl rfl (ov_loadW rfl Try.underlying25 rfl (by kernel_rfl) rfl (hO2.sub hs25) 0 rfl) ?_
  refine rl_call callable_18 rfl rfl rfl rfl rfl rfl (giveO2_any mm mn pa1 ma1 pn1 pc1 k1 mc1 rt cp P L F w.heap.size _ w w79 hO2 (CfRd.of_src hN1.1 hN1.2.1 hN1.2.2 hsN) (by omega) (by omega) hL20) (fun e82 w83 hp84 => ?_)
  obtain ⟨pa2, ma2, pc2, mc2, c0, M0, rfl, ⟨hpc2, hrP0, hTb0⟩, hO3⟩ := hp84
  refine ⟨_, rfl, ?_⟩
  refine rl_ow rfl (ow_alloc _ rfl rfl rfl zero_40 rfl hO3) ?_
  rintro _ w85 ⟨b26, rfl, hO86, hs87⟩
  refine rl_ow rfl (ow_storeW rfl rfl (by kernel_rfl) hO86 0 rfl rfl (by rfl) rfl (by rfl)) ?_
  rintro _ w88 ⟨rfl, hO89, hs90⟩
  have hSP : SrcI (some (lch b26 40 (cfL mm mn pa2 pn1 pc2 ma2 k1 mc2 rt cp)) :: c0 :: (M0 ++ RR)) pa2 pn1 P := fun B w0 w hO => hrP0.reads hO 1 rfl
  have hST : TSrc (some (lch b26 40 (cfL mm mn pa2 pn1 pc2 ma2 k1 mc2 rt cp)) :: c0 :: (M0 ++ RR)) ma2 k1 L F := hTb0.tsrc.sub (.cons _ (.cons _ (List.sublist_append_left _ _)))
  refine rl_nil <| run_seq <| run_region <| rl_v rfl rfl rfl (ov_loadW rfl Try.underlying40 rfl (by kernel_rfl) rfl hO89 0 rfl) ?_
  refine rl_call callable_17 rfl rfl rfl rfl rfl rfl (newOk9 mm mn pa2 ma2 pn1 pc2 k1 mc2 rt cp P L F w.heap.size _ w w88 hO89 hSP hST (by omega) (by omega) (fun i _ _ => by have := hL20 i; omega) hE) (fun e91 w92 hp93 => ?_)
  obtain ⟨hb, rfl, hA0⟩ := hp93
  refine ⟨_, rfl, ?_⟩
  obtain ⟨g1, g2, g3, g4, gpn, gk, gL, gP, gF⟩ := newE_good hE
  obtain ⟨X0, hX0⟩ : ∃ X0, X0 = HM.new mm mn k1 P F rt cp := ⟨_, rfl⟩
  rw [← hX0] at hA0
  have hXG : GG X0 := by rw [hX0]; exact GG.new g1 g2 g3 g4 gk (fun m m0 m1 => gP m m0 (by omega)) (fun i i0 i1 m m0 m1 => gF i i0 i1 m m0 (by have := gL i i0 i1; omega))
  have hs25a : [some (lch b25 25 (cfL mm mn pa1 pn1 pc1 ma1 k1 mc1 rt cp))].Sublist (some (lch b26 40 (cfL mm mn pa2 pn1 pc2 ma2 k1 mc2 rt cp)) :: c0 :: (M0 ++ RR)) := .cons _ (.cons _ (hs25.trans (List.sublist_append_right _ _)))
  have hsNa : N1.Sublist (some (lch b26 40 (cfL mm mn pa2 pn1 pc2 ma2 k1 mc2 rt cp)) :: c0 :: (M0 ++ RR)) := .cons _ (.cons _ (hsN.trans (List.sublist_append_right _ _)))
  refine rl_v rfl rfl rfl (ov_move rfl rfl) <| rl_v rfl rfl rfl (ov_extract rfl rfl (by rfl)) ?_
  refine rl_v rfl rfl rfl (ov_extract rfl rfl (by rfl)) ?_
  refine rl_v rfl rfl rfl (ov_assign rfl rfl) <| rl_v rfl rfl rfl (ov_assign rfl rfl) <| rl_nil <| run_seq <| run_region <| rl_v rfl rfl rfl (ov_loadW rfl Try.underlying25 rfl (by kernel_rfl) rfl (hA0.own.sub hs25a) 0 rfl) ?_
  refine rl_call callable_44 rfl rfl rfl rfl rfl rfl (hA0.call1 (Q := fun e => e = _) (fun H hO hs => gCheck_any mm mn pa1 ma1 pn1 pc1 k1 mc1 rt cp P L F w.heap.size H w w92 hO (hN1.2.1.sub (hsNa.trans hs)) (hN1.2.2.sub (hsNa.trans hs)) (by omega))) (fun e94 w95 hp96 => ?_)
  obtain ⟨rfl, hA1⟩ := hp96
  refine ⟨_, rfl, ?_⟩
  refine rl_v rfl rfl rfl (ov_assign rfl rfl) <| rl_nil <| run_seq <| run_seq <| run_region <| rl_v rfl rfl rfl (ov_move rfl rfl) <| rl_v rfl rfl rfl (ov_move rfl rfl) <| rl_v rfl rfl rfl (ov_neq rfl rfl rfl) <| rl_v rfl rfl rfl (ov_move rfl rfl) ?_
  first | refine rl_noD 234 rfl (fun h => h hE.symm) ?_ | refine rl_no 234 rfl (fun h => h hE.symm) ?_
  refine rl_gv rfl rfl rfl rfl rfl (ov_move rfl rfl) <| rl_gv rfl rfl rfl rfl rfl (ov_ptrnil rfl Try.underlying30 rfl) <| rl_gv rfl rfl rfl rfl rfl (ov_move rfl rfl) <| rl_gv rfl rfl rfl rfl rfl (ov_neq rfl rfl rfl) <| rl_gv rfl rfl rfl rfl rfl (ov_neqB rfl Try.underlying4 rfl rfl) <| rl_v rfl rfl rfl (ov_pick_f rfl rfl rfl) <| rl_nil ?_
  first | refine run_cond_dec rfl (fun bad => ?_) (fun bad => ?_) | refine run_cond rfl (fun bad => ?_) (fun bad => ?_)
  ·exfalso; exact bad (decide_eq_false (fun h => h hE)).symm
  ·refine run_skip <| run_seq <| run_seq <| run_region <| rl_v rfl rfl rfl (ov_move rfl rfl) <| rl_v rfl rfl rfl (ov_neq rfl rfl rfl) <| rl_nil ?_
   first | refine run_cond_dec rfl (fun c => ?_) (fun c => ?_) | refine run_cond rfl (fun c => ?_) (fun c => ?_)
   ·exfalso; exact c hE
   ·refine run_skip <| run_seq <| run_seq <| run_region <| rl_v rfl rfl rfl (ov_assign rfl rfl) <| rl_nil <| run_block <| Run.keep [25, 26, 27, 30] (F' := [(25, _), (26, _), (27, _), (30, _)]) rfl <| run_loop3 (fun (i : Int) (c : Option Blk) (M : List (Option Blk)) => [(30, .int .i64 i)]) [25, 26, 27] (fun (i : Int) (c : Option Blk) (M : List (Option Blk)) (w97 : World) => (0 ≤ i ∧ i ≤ pn1) ∧ (∃ gg : Int → Value, IRow (.slice pa2 pn1 pc2) 2 pn1 gg c) ∧ (∃ F1 : Int → Int → Value, OTab (.slice ma2 k1 mc2) 22 2 k1 L F1 M) ∧ HAt w.heap.size w w97 hb X0 [] (some (lch b26 40 (cfL mm mn pa2 pn1 pc2 ma2 k1 mc2 rt cp)) :: c :: (M ++ RR))) (fun (i : Int) (c : Option Blk) (M : List (Option Blk)) => ((pn1 : Int) - i).toNat) (0) (c0) (M0) ?_ (And.intro (by exact slot_int rfl (by first | omega)) (And.intro rfl (And.intro rfl (And.intro rfl trivial)))) ?_
    ·exact ⟨by omega, ⟨_, hrP0⟩, ⟨_, hTb0⟩, hA1⟩
    intro i c M w97 hIw97 ih98
    obtain ⟨hi, ⟨gg, hrP⟩, ⟨F1, hTb⟩, hA2⟩ := hIw97
    show Run _ _ _ _ [(30, _), (25, _), (26, _), (27, _)] _ _
    refine run_seq <| run_seq <| run_region <| rl_v rfl rfl rfl (ov_move rfl rfl) <| rl_v rfl rfl rfl (ov_fieldS rfl Try.underlying40 rfl (fo := 2) rfl (by kernel_rfl) rfl) ?_
    refine rl_v rfl rfl rfl (ov_load rfl Try.underlying22 rfl rfl (by exact (hA2.own).cellL 0 rfl (off := 2) rfl)) ?_
    refine rl_v rfl rfl rfl (ov_len rfl Try.underlying22 rfl) <| rl_v rfl rfl rfl (ov_lss rfl rfl rfl) <| rl_nil ?_
    first | refine run_cond_dec rfl (fun h1 => ?_) (fun h1 => ?_) | refine run_cond rfl (fun h1 => ?_) (fun h1 => ?_)
    ·obtain ⟨K2, N2, hO4, hK2, hP2⟩ := HAt.pull (R := M ++ RR) [some (lch b26 40 (cfL mm mn pa2 pn1 pc2 ma2 k1 mc2 rt cp)), c] [] hA2
     obtain ⟨q0, eq⟩ := hrP.addr
     refine run_skip <| run_seq <| run_block <| run_seq <| run_region <| rl_v rfl rfl rfl (ov_fieldS rfl Try.underlying40 rfl (fo := 2) rfl (by kernel_rfl) rfl) ?_
     refine rl_v rfl rfl rfl (ov_load rfl Try.underlying22 rfl rfl (by exact hO4.cellL 0 rfl (off := 2) rfl)) ?_
     refine rl_v rfl rfl rfl (ov_move rfl rfl) <| rl_v rfl rfl rfl (ov_index1 rfl Try.underlying22 (by kernel_rfl) rfl rfl ⟨by omega, by omega⟩ (by exact (id (eq (by omega))))) ?_
     refine rl_ow rfl (ow_storeI1 rfl rfl (by kernel_rfl) hO4 1 hrP rfl eq rfl ⟨by omega, by omega⟩ rfl rfl) ?_
     rintro _ w99 ⟨c9, rfl, hO100, hR2, hs101⟩
     have hA3 := HAt.puts [some (lch b26 40 (cfL mm mn pa2 pn1 pc2 ma2 k1 mc2 rt cp)), c9] hO100 hK2 hP2
     refine rl_nil <| run_seq <| run_region <| rl_v rfl rfl rfl (ov_assign rfl rfl) <| rl_nil <| run_block <| Run.keep [25, 26, 27, 30, 31] (F' := [(25, _), (26, _), (27, _), (30, _), (31, _)]) rfl <| run_loop2 (fun (k : Int) (M2 : List (Option Blk)) => [(31, .int .i64 k)]) [25, 26, 27, 30] (fun (k : Int) (M2 : List (Option Blk)) (w102 : World) => (0 ≤ k ∧ k ≤ k1) ∧ (∃ F2 : Int → Int → Value, OTab (.slice ma2 k1 mc2) 22 2 k1 L F2 M2) ∧ HAt w.heap.size w w102 hb X0 [] (some (lch b26 40 (cfL mm mn pa2 pn1 pc2 ma2 k1 mc2 rt cp)) :: c9 :: (M2 ++ RR))) (fun (k : Int) (M2 : List (Option Blk)) => ((k1 : Int) - k).toNat) (0) (M) ?_ (And.intro (by exact slot_int rfl (by first | omega)) (And.intro rfl (And.intro rfl (And.intro rfl (And.intro rfl trivial))))) ?_
     ·exact ⟨by omega, ⟨_, hTb⟩, hA3⟩
     intro k M2 w102 hIw102 ih103
     obtain ⟨hk, ⟨F2, hTb2⟩, hA4⟩ := hIw102
     show Run _ _ _ _ [(31, _), (25, _), (26, _), (27, _), (30, _)] _ _
     refine run_seq <| run_seq <| run_region <| rl_v rfl rfl rfl (ov_move rfl rfl) <| rl_v rfl rfl rfl (ov_fieldS rfl Try.underlying40 rfl (fo := 3) rfl (by kernel_rfl) rfl) ?_
     refine rl_v rfl rfl rfl (ov_load rfl Try.underlying23 rfl rfl (by exact (hA4.own).cellL 0 rfl (off := 3) rfl)) ?_
     refine rl_v rfl rfl rfl (ov_len rfl Try.underlying23 rfl) <| rl_v rfl rfl rfl (ov_lss rfl rfl rfl) <| rl_nil ?_
     first | refine run_cond_dec rfl (fun h2 => ?_) (fun h2 => ?_) | refine run_cond rfl (fun h2 => ?_) (fun h2 => ?_)
     ·obtain ⟨kn, hkn⟩ := Int.eq_ofNat_of_zero_le hk.1
      obtain ⟨K3, N3, hO5, hK3, hP3⟩ := HAt.pull (R := RR) (some (lch b26 40 (cfL mm mn pa2 pn1 pc2 ma2 k1 mc2 rt cp)) :: c9 :: M2) [] hA4
      have hO6 := hO5.perm (List.perm_append_comm_assoc [some (lch b26 40 (cfL mm mn pa2 pn1 pc2 ma2 k1 mc2 rt cp)), c9] M2 _)
      obtain ⟨ct, rv, ch, hv, h3, hO7⟩ := OTab.get9 hTb2 hO6 kn (by omega)
      obtain ⟨ra, rc, erv⟩ := (h3 kn (by omega)).val
      have hrk := h3 kn (by omega)
      rw [erv] at hrk
      obtain ⟨q1, eq1⟩ := hrk.addr
      obtain ⟨gb, go, hga, hrow⟩ := (hv.reads hO7 1 rfl).open
      have hLk := gL kn (by omega) (by omega)
      refine run_skip <| run_seq <| run_block <| run_region <| rl_v rfl rfl rfl (ov_fieldS rfl Try.underlying40 rfl (fo := 3) rfl (by kernel_rfl) rfl) ?_
      refine rl_v rfl rfl rfl (ov_load rfl Try.underlying23 rfl rfl (by exact hO5.cellL 0 rfl (off := 3) rfl)) ?_
      refine rl_v rfl rfl rfl (ov_move rfl rfl) <| rl_v rfl rfl rfl (ov_index1 rfl Try.underlying23 (by kernel_rfl) rfl rfl ⟨by omega, by omega⟩ (by exact (hga (by omega)))) ?_
      refine rl_v rfl rfl rfl (ov_load rfl Try.underlying22 rfl rfl (by exact (show _ = some (Value.slice ra (L kn) rc) from by rw [← erv, ← hkn]; exact hrow _ (Below.refl _ _) k (by omega) (by omega)))) ?_
      refine rl_v rfl rfl rfl (ov_move rfl rfl) <| rl_v rfl rfl rfl (ov_index1 rfl Try.underlying22 (by kernel_rfl) rfl rfl ⟨by omega, by omega⟩ (by exact (id (eq1 (by omega))))) ?_
      refine rl_ow rfl (ow_storeI1 rfl rfl (by kernel_rfl) hO7 0 hrk rfl eq1 rfl ⟨by omega, by omega⟩ rfl rfl) ?_
      rintro _ w104 ⟨c8, rfl, hO105, hR3, hs106⟩
      obtain ⟨M3, hTb3, hO8⟩ := OTab.set9 kn (by omega) hv h3 erv hR3 hO105
      have hO9 := hO8.perm (List.perm_append_comm_assoc M3 [some (lch b26 40 (cfL mm mn pa2 pn1 pc2 ma2 k1 mc2 rt cp)), c9] _)
      refine rl_nil <| run_inBlock <| run_region <| rl_v rfl rfl rfl (ov_move rfl rfl) <| rl_v rfl rfl rfl (ov_add rfl rfl rfl (by omega)) ?_
      refine rl_v rfl rfl rfl (ov_assign rfl rfl) <| rl_nil ?_
      refine Run.use (ih103 (k + 1) (M3) _ ?_ ?_) (And.intro (by exact slot_int rfl (by first | omega)) (And.intro rfl (And.intro rfl (And.intro rfl (And.intro rfl trivial)))))
      ·first | omega | (dsimp only; omega)
      ·exact ⟨by omega, ⟨_, hTb3⟩, HAt.puts (some (lch b26 40 (cfL mm mn pa2 pn1 pc2 ma2 k1 mc2 rt cp)) :: c9 :: M3) hO9 hK3 hP3⟩
     ·refine run_exit rfl <| run_inBlock <| run_region <| rl_v rfl rfl rfl (ov_move rfl rfl) <| rl_v rfl rfl rfl (ov_add rfl rfl rfl (by omega)) ?_
      refine rl_v rfl rfl rfl (ov_assign rfl rfl) <| rl_nil ?_
      refine Run.use (ih98 (i + 1) (c9) (M2) _ ?_ ?_) (And.intro (by exact slot_int rfl (by first | omega)) (And.intro rfl (And.intro rfl (And.intro rfl trivial))))
      ·first | omega | (dsimp only; omega)
      ·exact ⟨by omega, ⟨_, hR2⟩, ⟨_, hTb2⟩, hA4⟩
    ·have hs25b : [some (lch b25 25 (cfL mm mn pa1 pn1 pc1 ma1 k1 mc1 rt cp))].Sublist (some (lch b26 40 (cfL mm mn pa2 pn1 pc2 ma2 k1 mc2 rt cp)) :: c :: (M ++ RR)) := .cons _ (.cons _ (hs25.trans (List.sublist_append_right _ _)))
     have hsNb : N1.Sublist (some (lch b26 40 (cfL mm mn pa2 pn1 pc2 ma2 k1 mc2 rt cp)) :: c :: (M ++ RR)) := .cons _ (.cons _ (hsN.trans (List.sublist_append_right _ _)))
     refine run_exit rfl <| run_seq <| run_region <| rl_v rfl rfl rfl (ov_move rfl rfl) <| rl_v rfl rfl rfl (ov_loadW rfl Try.underlying25 rfl (by kernel_rfl) rfl (hA2.own.sub hs25b) 0 rfl) ?_
     refine rl_call callable_33 rfl rfl rfl rfl rfl rfl (HAt.refN hA2 (R0 := N1) hsNb (Y := X0) (fun H hO hs => by rw [hX0]; exact gNew_any mm mn pa1 ma1 pn1 pc1 k1 mc1 rt cp P L F N1 w.heap.size H w w97 hO hs hN1.2.1 hN1.2.2 gpn g1 g2 gL)) (fun e107 w108 hp109 => ?_)
     obtain ⟨T0, G0, rfl, hI0, hA5⟩ := hp109
     refine ⟨_, rfl, ?_⟩
     refine rl_call callable_35 rfl rfl rfl rfl rfl rfl (shows_any hb w.heap.size X0 G0 [] (T0 ++ N1) _ w w108 hA5 hI0 (List.Sublist.append_left hsNb T0) hXG) (fun e110 w111 hp112 => ?_)
     obtain ⟨rfl, hA6⟩ := hp112
     refine ⟨_, rfl, ?_⟩
     refine rl_v rfl rfl rfl (ov_move rfl rfl) ?_
     first | refine rl_yesD 273 rfl (rfl) ?_ | refine rl_yes 273 rfl (rfl) ?_
     refine rl_gcall callable_21 rfl rfl rfl rfl rfl rfl rfl rfl (hA6.call1 (Q := fun e => e = _) (fun H hO _ => awake_any w.heap.size H w w111 hO)) (fun e113 w114 hp115 => ?_)
     obtain ⟨rfl, hA7⟩ := hp115
     refine ⟨_, rfl, ?_⟩
     refine rl_v rfl rfl rfl (ov_pick_t rfl rfl rfl) <| rl_v rfl rfl rfl (ov_assign rfl rfl) <| rl_nil <| run_ret Try.func10 (res1 Try.results10 rfl) ?_
     exact ⟨rfl, (hA7.own).below⟩
theorem checks9_any (mm mn : Int) (pa ma : Option Addr) (pn pc mk mc : Nat) (rt cp : Int) (P : Int → Int) (L0 : Int → Nat) (F : Int → Int → Int) (w : World) (hpc : pn ≤ pc) (hP : IAt w.heap.size w pa pn (fun i => iv (P i))) (hT : HTab w.heap.size w ma mk L0 F) :
  Calls Try.prog 10 #[.agg (cfL mm mn pa pn pc ma mk mc rt cp).toArray] w fun e w' => e = .returned (.bool true) ∧ Below w.heap.size w w' := by
 by_cases hE : newE mm mn (min pn 20) (min mk 66) P (fun r => min (L0 r) 20) F rt cp = 0
 ·exact checksGood9 mm mn pa ma pn pc mk mc rt cp P L0 F w hpc hP hT hE
 ·exact checksBad9 mm mn pa ma pn pc mk mc rt cp P L0 F w hpc hP hT hE
end Go.Proofs.Ytfbbagnpdfafjaa
