import Derived.Test.YtbepolognfdkeaaGreatGbA
set_option maxRecDepth 100000
namespace Go.Proofs.YtbepolognfdkeaaGreat
open Go.RowKit Go.Proofs
section
variable {P : Program} {N : Nat} {o : Oper} {F : Fr} {w : World}
theorem ov_x1 {T U : TypeId} {x y : Operand} {m : Int} (ho : o.op = .binOp .xor T x y U) (hx : Fr.ev F x = some (.int .i64 m)) (hy : Fr.ev F y = some (.int .i64 1)) (hm : 0 ≤ m ∧ m < 4611686018427387904) : OpV P N o F w (iv (x1 m)) := ov_xor1 ho hx hy hm
end
theorem pip_upd (G : Net) (L : Int → Int) (e x i : Int) : upd (pipF G L) e ((pipF G L e).set 1 (iv x)) i = pipF G (upd L e x) i := by
 by_cases c : i = e
 ·rw [c, upd_same]
  unfold pipF
  rw [upd_same]
  rfl
 ·rw [upd_ne _ _ c]
  unfold pipF
  rw [upd_ne _ _ c]
abbrev pshL (ts tn tw tl tp nb lb wb : Nat) (c : Option Blk) (WV : List Value) (nn : Nat) (NX LV : Int → Int) : List (Option Blk) :=
 [some (lch wb 71 WV), c, some (lch tn 36 [.slice (some ⟨nb, 0, none⟩) nn nn]), some (vch nb 3 nn (fun v => iv (NX v))), some (lch ts 3 [iv ((nn : Int) - 1)]), some (lch tw 66 [ptr wb]), some (lch tl 36 [.slice (some ⟨lb, 0, none⟩) nn nn]), some (vch lb 3 nn (fun v => iv (LV v))), some (lch tp 85 [.func (.func 85) #[] #[ptr ts, ptr tn, ptr tw, ptr tl, ptr tp]])]
structure Pst (G : Net) (LV L NX : Int → Int) (at_ most got : Int) (L' NX' : Int → Int) : Prop where
 g0 : 0 ≤ got
 g1 : got ≤ most
 room : G.Room L'
 nx : ∀ v : Int, 0 ≤ v → v < G.nn → 0 ≤ NX' v ∧ NX' v ≤ G.OL v
 lo : ∀ v : Int, 0 ≤ v → v < G.nn → LV v < LV at_ → NX' v = NX v
 far : ∀ e : Int, 0 ≤ e → e < 2 * G.np → LV (G.TO e) < LV at_ ∨ LV (G.TO (x1 e)) < LV at_ → L' e = L e
 adds : G.Adds L L' at_ got
 mono : ∀ v : Int, 0 ≤ v → v < G.nn → NX v ≤ NX' v
 none : got = 0 → L' = L ∧ (G.Dead L LV NX → G.Dead L LV NX') ∧ NX' at_ = G.OL at_ ∧ at_ ≠ G.nn - 1
section
variable {B : Nat} {w0 : World} {G : Net} {LV : Int → Int} {R : List (Option Blk)} {oa la sa pa : Option Addr} {n lc m sc pc oc : Nat} {fl : Int} {ts tn tw tl tp nb lb wb : Nat}
set_option maxHeartbeats 4000000 in
theorem push_any (hG : G.Ok) (hs : G.Sm) (hT : TOwn R oa G.nn G.OL G.OE) (hlv : ∀ v : Int, 0 ≤ v → v < G.nn → -1 ≤ LV v ∧ LV v < G.nn) :
  ∀ (d : Nat) (at_ most : Int) (L NX : Int → Int) (c : Option Blk) (w : World), d = ((G.nn : Int) - LV at_).toNat → 0 ≤ at_ → at_ < G.nn → 1 ≤ most → most ≤ 1152921504606846976 → G.Room L → (∀ v : Int, 0 ≤ v → v < G.nn → 0 ≤ NX v ∧ NX v ≤ G.OL v) →
   SRow (.slice pa (2 * G.np) pc) 118 2 (2 * G.np) (pipF G L) c → Own B w0 w (pshL ts tn tw tl tp nb lb wb c (wkL la n lc sa m sc pa (2 * G.np) pc oa G.nn oc fl) G.nn NX LV ++ R) →
   Calls Tryz.prog 85 #[iv at_, iv most, ptr ts, ptr tn, ptr tw, ptr tl, ptr tp] w fun e w' => ∃ (got : Int) (L' NX' : Int → Int) (c' : Option Blk), e = .returned (iv got) ∧ Pst G LV L NX at_ most got L' NX' ∧ SRow (.slice pa (2 * G.np) pc) 118 2 (2 * G.np) (pipF G L') c' ∧ Own B w0 w' (pshL ts tn tw tl tp nb lb wb c' (wkL la n lc sa m sc pa (2 * G.np) pc oa G.nn oc fl) G.nn NX' LV ++ R) := by
 intro d
 induction d using Nat.strongRecOn with
 | _ d ih =>
  intro at_ most L NX c w hd ha0 ha1 hm1 hm2 hL hnx hr hO
  have h2 := hG.n2
  have hnn := hs.nn
  have hnp := hs.np
  have hola := hs.ol at_ ha0 ha1
  obtain ⟨A, C, gb, go, hga, hgc, hgs⟩ := hT.adr (hO.sub (List.sublist_append_right _ _)) (by omega)
  obtain ⟨pb, hpa⟩ := hr.addr
  refine calls_of_run (F := [(0, _), (1, _), (2, _), (3, _), (4, _), (5, _), (6, _)]) Tryz.func85 rfl Tryz.ntmps85 rfl rfl <| run_seq <| run_region <| rl_v rfl rfl rfl (ov_assign rfl rfl) <| rl_nil <| run_seq <| run_seq <| run_region <| rl_v rfl rfl rfl (ov_move rfl rfl) <| rl_v rfl rfl rfl (ov_load rfl Tryz.underlying3 rfl rfl (by exact hO.cellL 4 rfl (off := 0) rfl)) ?_
  refine rl_v rfl rfl rfl (ov_eql rfl rfl rfl) <| rl_nil ?_
  first | refine run_cond_dec rfl (fun c1 => ?_) (fun c1 => ?_) | refine run_cond rfl (fun c1 => ?_) (fun c1 => ?_)
  ·refine run_seq <| run_region <| rl_v rfl rfl rfl (ov_move rfl rfl) <| rl_v rfl rfl rfl (ov_assign rfl rfl) <| rl_nil <| run_ret Tryz.func85 (res1 Tryz.results85 rfl) ?_
   exact ⟨most, L, NX, c, rfl, ⟨by omega, Int.le_refl _, hL, hnx, fun _ _ _ _ => rfl, fun _ _ _ _ => rfl, by rw [c1]; exact Net.Adds.sink G L most, fun _ _ _ => Int.le_refl _, fun h => by omega⟩, hr, hO⟩
  ·refine run_skip <| run_seq <| run_block <| Run.keep [0, 1, 3, 4, 5, 6] (F' := [(0, _), (1, _), (3, _), (4, _), (5, _), (6, _)]) rfl <| run_loop1 (fun (NX1 : Int → Int) => []) [0, 1, 3, 4, 5, 6] (fun (NX1 : Int → Int) (w1 : World) => ∃ c' : Option Blk, (∀ v : Int, 0 ≤ v → v < G.nn → 0 ≤ NX1 v ∧ NX1 v ≤ G.OL v) ∧ (∀ v : Int, 0 ≤ v → v < G.nn → LV v < LV at_ → NX1 v = NX v) ∧ (∀ v : Int, 0 ≤ v → v < G.nn → NX v ≤ NX1 v) ∧ (G.Dead L LV NX → G.Dead L LV NX1) ∧ SRow (.slice pa (2 * G.np) pc) 118 2 (2 * G.np) (pipF G L) c' ∧ Own B w0 w1 (pshL ts tn tw tl tp nb lb wb c' (wkL la n lc sa m sc pa (2 * G.np) pc oa G.nn oc fl) G.nn NX1 LV ++ R)) (fun (NX1 : Int → Int) => ((G.OL at_ : Int) - NX1 at_).toNat) (NX) ?_ (And.intro rfl (And.intro rfl (And.intro rfl (And.intro rfl (And.intro rfl (And.intro rfl trivial)))))) ?_
   ·exact ⟨c, hnx, fun _ _ _ _ => rfl, fun _ _ _ => Int.le_refl _, id, hr, hO⟩
   intro NX1 w1 hIw1 ih2
   obtain ⟨c1', hnx1, hlo, hmono, hdead, hr1, hO1⟩ := hIw1
   show Run _ _ _ _ [(0, _), (1, _), (3, _), (4, _), (5, _), (6, _)] _ _
   have hn1 := hnx1 at_ ha0 ha1
   refine run_seq <| run_seq <| run_quiet mixed (by kernel_rfl) ?_
   refine rq_v rfl rfl rfl (fun _ => ov_load rfl Tryz.underlying36 rfl rfl (by show World.cell? w1 _ = _; first | exact hO1.cellL 2 rfl (off := 0) rfl)) ?_
   refine rq_v rfl rfl rfl (fun _ => ov_move rfl rfl) ?_
   refine rq_v rfl rfl rfl (fun _ => ov_index1 rfl Tryz.underlying36 (by kernel_rfl) rfl rfl ⟨by omega, by omega⟩ (by rfl)) ?_
   refine rq_v rfl rfl rfl (fun _ => ov_load rfl Tryz.underlying3 rfl rfl (by show World.cell? w1 _ = _; first | exact hO1.cellI 3 rfl at_ ha0 ha1)) ?_
   refine rq_v rfl rfl rfl (fun _ => ov_load rfl Tryz.underlying66 rfl rfl (by show World.cell? w1 _ = _; first | exact hO1.cellL 5 rfl (off := 0) rfl)) ?_
   refine rq_v rfl rfl rfl (fun _ => ov_nil rfl rfl) ?_
   refine rq_v rfl rfl rfl (fun _ => ov_fieldS rfl Tryz.underlying71 rfl (fo := 3) rfl (by kernel_rfl) rfl) ?_
   refine rq_v rfl rfl rfl (fun _ => ov_load rfl Tryz.underlying69 rfl rfl (by show World.cell? w1 _ = _; first | exact hO1.cellL 0 rfl (off := 3) rfl)) ?_
   refine rq_v rfl rfl rfl (fun _ => ov_move rfl rfl) ?_
   refine rq_v rfl rfl rfl (fun _ => ov_index1 rfl Tryz.underlying69 (by kernel_rfl) rfl rfl ⟨by omega, by omega⟩ (by exact (id hga))) ?_
   refine rq_v rfl rfl rfl (fun _ => ov_load rfl Tryz.underlying36 rfl rfl (by show World.cell? w1 _ = _; first | exact hgc (hO1.sub (List.sublist_append_right _ _)) at_ ha0 ha1)) ?_
   refine rq_v rfl rfl rfl (fun _ => ov_len rfl Tryz.underlying36 rfl) ?_
   refine rq_v rfl rfl rfl (fun _ => ov_lss rfl rfl rfl) ?_
   refine rq_nil (fun n3 => ?_)
   have hO5 := hO1.drewN n3
   generalize World.drewN w1 n3 = w4 at hO5 ⊢
   first | refine run_cond_dec rfl (fun c2 => ?_) (fun c2 => ?_) | refine run_cond rfl (fun c2 => ?_) (fun c2 => ?_)
   ·obtain ⟨rb, ro, hra, hrc⟩ := (hgs at_ ha0 ha1).adr (hO5.sub (List.sublist_append_right _ _)) (by omega)
    have hout := hG.out at_ (NX1 at_) ha0 ha1 hn1.1 c2
    obtain ⟨e0, he0⟩ : ∃ e0, e0 = G.OE at_ (NX1 at_) := ⟨_, rfl⟩
    rw [← he0] at hout
    have hto := hG.to e0 hout.1.1 hout.1.2
    have hx1 := x1_rng hout.1.1 hout.1.2
    have hpa' := hpa (by omega)
    refine run_skip <| run_seq <| run_block <| run_seq <| run_quiet mixed (by kernel_rfl) ?_
    refine rq_v rfl rfl rfl (fun _ => ov_load rfl Tryz.underlying66 rfl rfl (by show World.cell? w4 _ = _; first | exact hO5.cellL 5 rfl (off := 0) rfl)) ?_
    refine rq_v rfl rfl rfl (fun _ => ov_nil rfl rfl) ?_
    refine rq_v rfl rfl rfl (fun _ => ov_fieldS rfl Tryz.underlying71 rfl (fo := 3) rfl (by kernel_rfl) rfl) ?_
    refine rq_v rfl rfl rfl (fun _ => ov_load rfl Tryz.underlying69 rfl rfl (by show World.cell? w4 _ = _; first | exact hO5.cellL 0 rfl (off := 3) rfl)) ?_
    refine rq_v rfl rfl rfl (fun _ => ov_move rfl rfl) ?_
    refine rq_v rfl rfl rfl (fun _ => ov_index1 rfl Tryz.underlying69 (by kernel_rfl) rfl rfl ⟨by omega, by omega⟩ (by exact (id hga))) ?_
    refine rq_v rfl rfl rfl (fun _ => ov_load rfl Tryz.underlying36 rfl rfl (by show World.cell? w4 _ = _; first | exact hgc (hO5.sub (List.sublist_append_right _ _)) at_ ha0 ha1)) ?_
    refine rq_v rfl rfl rfl (fun _ => ov_load rfl Tryz.underlying36 rfl rfl (by show World.cell? w4 _ = _; first | exact hO5.cellL 2 rfl (off := 0) rfl)) ?_
    refine rq_v rfl rfl rfl (fun _ => ov_move rfl rfl) ?_
    refine rq_v rfl rfl rfl (fun _ => ov_index1 rfl Tryz.underlying36 (by kernel_rfl) rfl rfl ⟨by omega, by omega⟩ (by rfl)) ?_
    refine rq_v rfl rfl rfl (fun _ => ov_load rfl Tryz.underlying3 rfl rfl (by show World.cell? w4 _ = _; first | exact hO5.cellI 3 rfl at_ ha0 ha1)) ?_
    refine rq_v rfl rfl rfl (fun _ => ov_index1 rfl Tryz.underlying36 (by kernel_rfl) rfl rfl ⟨by omega, by omega⟩ (by exact (id hra))) ?_
    refine rq_v rfl rfl rfl (fun _ => ov_load rfl Tryz.underlying3 rfl rfl (by show World.cell? w4 _ = _; first | exact (hrc (hO5.sub (List.sublist_append_right _ _)) (NX1 at_) hn1.1 c2).trans (congrArg some (congrArg iv he0.symm)))) ?_
    refine rq_v rfl rfl rfl (fun _ => ov_assign rfl rfl) ?_
    refine rq_nil (fun n6 => ?_)
    have hO8 := hO5.drewN n6
    generalize World.drewN w4 n6 = w7 at hO8 ⊢
    refine run_seq <| run_region <| rl_v rfl rfl rfl (ov_load rfl Tryz.underlying66 rfl rfl (by exact hO8.cellL 5 rfl (off := 0) rfl)) ?_
    refine rl_v rfl rfl rfl (ov_nil rfl rfl) <| rl_v rfl rfl rfl (ov_fieldS rfl Tryz.underlying71 rfl (fo := 2) rfl (by kernel_rfl) rfl) ?_
    refine rl_v rfl rfl rfl (ov_load rfl Tryz.underlying68 rfl rfl (by exact hO8.cellL 0 rfl (off := 2) rfl)) ?_
    refine rl_v rfl rfl rfl (ov_move rfl rfl) <| rl_v rfl rfl rfl (ov_index rfl Tryz.underlying68 (by kernel_rfl) (s := 2) rfl rfl ⟨by omega, by omega⟩ (by exact (id hpa'))) ?_
    refine rl_v rfl rfl rfl (ov_loadE rfl Tryz.underlying118 rfl (by kernel_rfl) rfl ⟨by omega, by omega⟩ rfl (hr1.cellU hO8 1 rfl hpa')) ?_
    refine rl_ow rfl (ow_alloc _ rfl rfl rfl zero_118 rfl hO8) ?_
    rintro _ w9 ⟨b11, rfl, hO10, hs11⟩
    refine rl_ow rfl (ow_storeW rfl rfl (by kernel_rfl) hO10 0 rfl rfl (by rfl) rfl (by rfl)) ?_
    rintro _ w12 ⟨rfl, hO13, hs14⟩
    have hlva := hlv at_ ha0 ha1
    have hlvt := hlv (G.TO e0) hto.1 hto.2
    have hle0 := hL.nn e0 hout.1.1 hout.1.2
    have hnle : ∀ u : Int, 0 ≤ u → u < G.nn → NX1 u ≤ G.OL u := fun u u0 u1 => (hnx1 u u0 u1).2
    have hlo2 : ∀ {NX2 : Int → Int}, (∀ v : Int, 0 ≤ v → v < G.nn → LV v < LV at_ → NX2 v = NX v) → ∀ v : Int, 0 ≤ v → v < G.nn → LV v < LV at_ → upd NX2 at_ (NX2 at_ + 1) v = NX v := fun h v v0 v1 hv => by rw [upd_ne _ _ (fun e => by rw [e] at hv; omega)]; exact h v v0 v1 hv
    have hmono2 : ∀ {NX2 : Int → Int}, (∀ v : Int, 0 ≤ v → v < G.nn → NX v ≤ NX2 v) → ∀ v : Int, 0 ≤ v → v < G.nn → NX v ≤ upd NX2 at_ (NX2 at_ + 1) v := fun h v v0 v1 => by
     have := h v v0 v1
     by_cases e : v = at_
     ·rw [e, upd_same]; rw [e] at this; omega
     ·rw [upd_ne _ _ e]; exact this
    have hrng2 : ∀ {NX2 : Int → Int}, (∀ v : Int, 0 ≤ v → v < G.nn → 0 ≤ NX2 v ∧ NX2 v ≤ G.OL v) → NX2 at_ < G.OL at_ → ∀ v : Int, 0 ≤ v → v < G.nn → 0 ≤ upd NX2 at_ (NX2 at_ + 1) v ∧ upd NX2 at_ (NX2 at_ + 1) v ≤ G.OL v := fun h hlt v v0 v1 => by
     have := h v v0 v1
     by_cases e : v = at_
     ·rw [e, upd_same]; rw [e] at this; omega
     ·rw [upd_ne _ _ e]; exact this
    refine rl_nil <| run_seq <| run_seq ?_
    refine run_quiet_join mixed (by kernel_rfl) 71 (.bool (decide (L e0 = 0 ∨ LV (G.TO e0) ≠ LV at_ + 1))) [0, 1, 3, 4, 5, 6, 10, 11] (fun hk15 => ?_) (fun n16 => ?_)
    ·refine rq_v rfl rfl rfl (fun _ => ov_fieldS rfl Tryz.underlying118 rfl (fo := 1) rfl (by kernel_rfl) rfl) ?_
     refine rq_v rfl rfl rfl (fun _ => ov_load rfl Tryz.underlying3 rfl rfl (by show World.cell? w12 _ = _; first | exact hO13.cellL 0 rfl (off := 1) rfl)) ?_
     refine rq_v rfl rfl rfl (fun _ => ov_eql rfl rfl rfl) ?_
     refine rq_v rfl rfl rfl (fun _ => ov_move rfl rfl) ?_
     first | refine rq_split_dec 59 rfl (fun hg17 => ?_) (fun hg17 => ?_) | refine rq_split 59 rfl (fun hg17 => ?_) (fun hg17 => ?_)
     ·refine rq_gskip rfl rfl rfl rfl rfl rfl <| rq_gskip rfl rfl rfl rfl rfl rfl <| rq_gskip rfl rfl rfl rfl rfl rfl <| rq_gskip rfl rfl rfl rfl rfl rfl <| rq_gskip rfl rfl rfl rfl rfl rfl <| rq_gskip rfl rfl rfl rfl rfl rfl <| rq_gskip rfl rfl rfl rfl rfl rfl <| rq_gskip rfl rfl rfl rfl rfl rfl <| rq_gskip rfl rfl rfl rfl rfl rfl <| rq_gskip rfl rfl rfl rfl rfl rfl <| rq_gskip rfl rfl rfl rfl rfl rfl <| rq_v rfl rfl rfl (fun _ => ov_pick_t rfl rfl rfl) ?_
      refine rq_nil (fun n => hk15 n _ (jbt rfl (by omega)) (And.intro rfl (And.intro rfl (And.intro rfl (And.intro rfl (And.intro rfl (And.intro rfl (And.intro rfl (And.intro rfl trivial)))))))))
     ·refine rq_gv rfl rfl rfl rfl rfl (fun _ => ov_load rfl Tryz.underlying36 rfl rfl (by show World.cell? w12 _ = _; first | exact hO13.cellL 7 rfl (off := 0) rfl)) ?_
      refine rq_gv rfl rfl rfl rfl rfl (fun _ => ov_fieldS rfl Tryz.underlying118 rfl (fo := 0) rfl (by kernel_rfl) rfl) ?_
      refine rq_gv rfl rfl rfl rfl rfl (fun _ => ov_load rfl Tryz.underlying3 rfl rfl (by show World.cell? w12 _ = _; first | exact hO13.cellL 0 rfl (off := 0) rfl)) ?_
      refine rq_gv rfl rfl rfl rfl rfl (fun _ => ov_index1 rfl Tryz.underlying36 (by kernel_rfl) rfl rfl ⟨by omega, by omega⟩ (by rfl)) ?_
      refine rq_gv rfl rfl rfl rfl rfl (fun _ => ov_load rfl Tryz.underlying3 rfl rfl (by show World.cell? w12 _ = _; first | exact hO13.cellI 8 rfl (G.TO e0) hto.1 hto.2)) ?_
      refine rq_gv rfl rfl rfl rfl rfl (fun _ => ov_load rfl Tryz.underlying36 rfl rfl (by show World.cell? w12 _ = _; first | exact hO13.cellL 7 rfl (off := 0) rfl)) ?_
      refine rq_gv rfl rfl rfl rfl rfl (fun _ => ov_move rfl rfl) ?_
      refine rq_gv rfl rfl rfl rfl rfl (fun _ => ov_index1 rfl Tryz.underlying36 (by kernel_rfl) rfl rfl ⟨by omega, by omega⟩ (by rfl)) ?_
      refine rq_gv rfl rfl rfl rfl rfl (fun _ => ov_load rfl Tryz.underlying3 rfl rfl (by show World.cell? w12 _ = _; first | exact hO13.cellI 8 rfl at_ ha0 ha1)) ?_
      refine rq_gv rfl rfl rfl rfl rfl (fun _ => ov_add rfl rfl rfl (by omega)) ?_
      refine rq_gv rfl rfl rfl rfl rfl (fun _ => ov_neq rfl rfl rfl) ?_
      refine rq_v rfl rfl rfl (fun _ => ov_pick_f rfl rfl rfl) ?_
      refine rq_nil (fun n => hk15 n _ (jbd rfl (by omega)) (And.intro rfl (And.intro rfl (And.intro rfl (And.intro rfl (And.intro rfl (And.intro rfl (And.intro rfl (And.intro rfl trivial)))))))))
    ·have hO19 := hO13.drewN n16
     generalize World.drewN w12 n16 = w18 at hO19 ⊢
     show Run _ _ _ _ [(71, _), (0, _), (1, _), (3, _), (4, _), (5, _), (6, _), (10, _), (11, _)] _ _
     first | refine run_cond_dec rfl (fun c3 => ?_) (fun c3 => ?_) | refine run_cond rfl (fun c3 => ?_) (fun c3 => ?_)
     ·refine run_exit rfl <| run_region <| rl_v rfl rfl rfl (ov_load rfl Tryz.underlying36 rfl rfl (by exact hO19.cellL 3 rfl (off := 0) rfl)) ?_
      refine rl_v rfl rfl rfl (ov_move rfl rfl) <| rl_v rfl rfl rfl (ov_index1 rfl Tryz.underlying36 (by kernel_rfl) rfl rfl ⟨by omega, by omega⟩ (by rfl)) ?_
      refine rl_v rfl rfl rfl (ov_load rfl Tryz.underlying3 rfl rfl (by exact hO19.cellI 4 rfl at_ ha0 ha1)) ?_
      refine rl_v rfl rfl rfl (ov_add rfl rfl rfl (by omega)) ?_
      refine rl_v rfl rfl rfl (ov_index1 rfl Tryz.underlying36 (by kernel_rfl) rfl rfl ⟨by omega, by omega⟩ (by rfl)) ?_
      refine rl_ow rfl (ow_storeI rfl rfl (by kernel_rfl) hO19 4 rfl rfl ⟨by omega, by omega⟩ rfl) ?_
      rintro _ w20 ⟨rfl, hO21, hs22⟩
      refine rl_nil ?_
      refine Run.use (ih2 (upd NX1 at_ (NX1 at_ + 1)) _ ?_ ?_) (And.intro rfl (And.intro rfl (And.intro rfl (And.intro rfl (And.intro rfl (And.intro rfl trivial))))))
      ·(rw [upd_same]; omega)
      ·exact ⟨c1', hrng2 hnx1 c2, hlo2 hlo, hmono2 hmono, fun h => (hdead h).step hnle hG ha0 ha1 c2 (by rw [← he0]; exact c3.imp id .inl), hr1, (hO21.tail.congrI 3 rfl (G' := fun v => iv (upd NX1 at_ (NX1 at_ + 1) v)) fun v _ _ => by unfold upd; split <;> rfl)⟩
     ·have hL0 : 1 ≤ L e0 := by omega
      have hLVt : LV (G.TO e0) = LV at_ + 1 := by omega
      refine run_skip <| run_seq <| run_region <| rl_v rfl rfl rfl (ov_load rfl Tryz.underlying85 rfl rfl (by exact hO19.cellL 9 rfl (off := 0) rfl)) ?_
      refine rl_v rfl rfl rfl (ov_fieldS rfl Tryz.underlying118 rfl (fo := 0) rfl (by kernel_rfl) rfl) ?_
      refine rl_v rfl rfl rfl (ov_load rfl Tryz.underlying3 rfl rfl (by exact hO19.cellL 0 rfl (off := 0) rfl)) ?_
      refine rl_v rfl rfl rfl (ov_move rfl rfl) <| rl_v rfl rfl rfl (ov_fieldS rfl Tryz.underlying118 rfl (fo := 1) rfl (by kernel_rfl) rfl) ?_
      refine rl_v rfl rfl rfl (ov_load rfl Tryz.underlying3 rfl rfl (by exact hO19.cellL 0 rfl (off := 1) rfl)) ?_
      refine rl_v rfl rfl rfl (ov_min rfl rfl rfl) ?_
      refine rl_call callable_85 rfl rfl rfl rfl rfl rfl (ih ((G.nn : Int) - LV (G.TO e0)).toNat (by omega) (G.TO e0) (min most (L e0)) L NX1 c1' _ rfl hto.1 hto.2 (by omega) (by omega) hL hnx1 hr1 hO19.tail) (fun e23 w24 hp25 => ?_)
      obtain ⟨got, L2, NX2, c2', rfl, hP, hr2, hO2⟩ := hp25
      refine ⟨_, rfl, ?_⟩
      have hfar : ∀ e : Int, 0 ≤ e → e < 2 * G.np → LV (G.TO e) < LV at_ + 1 ∨ LV (G.TO (x1 e)) < LV at_ + 1 → L2 e = L e := fun e e0' e1' h => hP.far e e0' e1' (by rw [hLVt]; exact h)
      have hLe : L2 e0 = L e0 := hfar e0 hout.1.1 hout.1.2 (.inr (by rw [hout.2]; omega))
      have hNa : NX2 at_ = NX1 at_ := hP.lo at_ ha0 ha1 (by omega)
      refine rl_v rfl rfl rfl (ov_assign rfl rfl) <| rl_nil <| run_seq <| run_region <| rl_v rfl rfl rfl (ov_move rfl rfl) <| rl_v rfl rfl rfl (ov_gtr rfl rfl rfl) <| rl_nil ?_
      first | refine run_cond_dec rfl (fun c4 => ?_) (fun c4 => ?_) | refine run_cond rfl (fun c4 => ?_) (fun c4 => ?_)
      ·have hg1 := hP.g1
       have hg0 := hP.g0
       have hLx := hP.room.nn (x1 e0) hx1.1 hx1.2
       have hcap : L2 e0 + L2 (x1 e0) ≤ 1000000000000000 := by
        have h1 := hP.room.cap (e0 / 2) (by omega) (by omega)
        have h3 := hs.cp (e0 / 2) (by omega) (by omega)
        rcases x1_pair e0 with ⟨p1, p2⟩ | ⟨p1, p2⟩
        ·rw [p2]; rw [← p1] at h1 ⊢; omega
        ·rw [p2]; rw [← p1] at h1; omega
       refine run_seq <| run_region <| rl_v rfl rfl rfl (ov_load rfl Tryz.underlying66 rfl rfl (by exact hO2.cellL 5 rfl (off := 0) rfl)) ?_
       refine rl_v rfl rfl rfl (ov_nil rfl rfl) <| rl_v rfl rfl rfl (ov_fieldS rfl Tryz.underlying71 rfl (fo := 2) rfl (by kernel_rfl) rfl) ?_
       refine rl_v rfl rfl rfl (ov_load rfl Tryz.underlying68 rfl rfl (by exact hO2.cellL 0 rfl (off := 2) rfl)) ?_
       refine rl_v rfl rfl rfl (ov_move rfl rfl) <| rl_v rfl rfl rfl (ov_index rfl Tryz.underlying68 (by kernel_rfl) (s := 2) rfl rfl ⟨by omega, by omega⟩ (by exact (id hpa'))) ?_
       refine rl_v rfl rfl rfl (ov_fieldS rfl Tryz.underlying118 rfl (fo := 1) rfl (by kernel_rfl) rfl) ?_
       refine rl_v rfl rfl rfl (ov_load rfl Tryz.underlying3 rfl rfl (by exact hr2.cellU hO2 1 rfl hpa' e0 hout.1.1 hout.1.2 1 (by decide))) ?_
       refine rl_v rfl rfl rfl (ov_move rfl rfl) <| rl_v rfl rfl rfl (ov_sub rfl rfl rfl (by omega)) ?_
       refine rl_v rfl rfl rfl (ov_index rfl Tryz.underlying68 (by kernel_rfl) (s := 2) rfl rfl ⟨by omega, by omega⟩ (by exact (id hpa'))) ?_
       refine rl_v rfl rfl rfl (ov_fieldS rfl Tryz.underlying118 rfl (fo := 1) rfl (by kernel_rfl) rfl) ?_
       refine rl_ow rfl (ow_storeR rfl rfl (by kernel_rfl) hO2 1 hr2 rfl (fun _ => hpa') rfl ⟨by omega, by omega⟩ rfl rfl rfl rfl) ?_
       rintro _ w26 ⟨c3', rfl, hO27, hr3, hs28⟩
       have hr3' := hr3.congr fun i _ _ => pip_upd G L2 e0 (L2 e0 - got) i
       refine rl_nil <| run_seq <| run_region <| rl_v rfl rfl rfl (ov_load rfl Tryz.underlying66 rfl rfl (by exact hO27.cellL 5 rfl (off := 0) rfl)) ?_
       refine rl_v rfl rfl rfl (ov_nil rfl rfl) <| rl_v rfl rfl rfl (ov_fieldS rfl Tryz.underlying71 rfl (fo := 2) rfl (by kernel_rfl) rfl) ?_
       refine rl_v rfl rfl rfl (ov_load rfl Tryz.underlying68 rfl rfl (by exact hO27.cellL 0 rfl (off := 2) rfl)) ?_
       refine rl_v rfl rfl rfl (ov_move rfl rfl) <| rl_v rfl rfl rfl (ov_x1 rfl rfl rfl ⟨by omega, by omega⟩) ?_
       refine rl_v rfl rfl rfl (ov_index rfl Tryz.underlying68 (by kernel_rfl) (s := 2) rfl rfl ⟨by omega, by omega⟩ (by exact (id hpa'))) ?_
       refine rl_v rfl rfl rfl (ov_fieldS rfl Tryz.underlying118 rfl (fo := 1) rfl (by kernel_rfl) rfl) ?_
       refine rl_v rfl rfl rfl (ov_load rfl Tryz.underlying3 rfl rfl (by exact (hr3'.cellU hO27 1 rfl hpa' (x1 e0) hx1.1 hx1.2 1 (by decide)).trans (congrArg (fun z => some (iv z)) (upd_ne _ _ (x1_ne e0))))) ?_
       refine rl_v rfl rfl rfl (ov_move rfl rfl) <| rl_v rfl rfl rfl (ov_add rfl rfl rfl (by omega)) ?_
       refine rl_v rfl rfl rfl (ov_index rfl Tryz.underlying68 (by kernel_rfl) (s := 2) rfl rfl ⟨by omega, by omega⟩ (by exact (id hpa'))) ?_
       refine rl_v rfl rfl rfl (ov_fieldS rfl Tryz.underlying118 rfl (fo := 1) rfl (by kernel_rfl) rfl) ?_
       refine rl_ow rfl (ow_storeR rfl rfl (by kernel_rfl) hO27 1 hr3' rfl (fun _ => hpa') rfl ⟨by omega, by omega⟩ rfl rfl rfl rfl) ?_
       rintro _ w29 ⟨c4', rfl, hO30, hr4, hs31⟩
       have hr4' := hr4.congr fun i _ _ => pip_upd G (upd L2 e0 (L2 e0 - got)) (x1 e0) (L2 (x1 e0) + got) i
       have hfin : Pst G LV L NX at_ most got (Net.psh L2 e0 got) NX2 := by
        refine ⟨by omega, by omega, hP.room.push hout.1.1 hout.1.2 hP.g0 (by omega), hP.nx, fun v v0 v1 hv => (hP.lo v v0 v1 (by omega)).trans (hlo v v0 v1 hv), fun e e1 e2 h => ?_, ?_, fun v v0 v1 => Int.le_trans (hmono v v0 v1) (hP.mono v v0 v1), fun h => by omega⟩
        ·rw [Net.psh_o]
         ·exact hfar e e1 e2 (by omega)
         ·intro c; rw [c, hout.2] at h; omega
         ·intro c; rw [c, x1_x1, hout.2] at h; omega
        ·have h := hP.adds.push hout.1.1 hout.1.2
         rw [hout.2] at h
         exact h
       refine rl_nil <| run_seq <| run_region <| rl_v rfl rfl rfl (ov_move rfl rfl) <| rl_v rfl rfl rfl (ov_assign rfl rfl) <| rl_nil <| run_ret Tryz.func85 (res1 Tryz.results85 rfl) ?_
       exact ⟨got, Net.psh L2 e0 got, NX2, c4', rfl, hfin, hr4', hO30⟩
      ·have hg0 : got = 0 := by have := hP.g0; omega
       obtain ⟨hL2, hD2, hN2, hS2⟩ := hP.none hg0
       subst hL2
       refine run_skip <| run_inBlock <| run_region <| rl_v rfl rfl rfl (ov_load rfl Tryz.underlying36 rfl rfl (by exact hO2.cellL 2 rfl (off := 0) rfl)) ?_
       refine rl_v rfl rfl rfl (ov_move rfl rfl) <| rl_v rfl rfl rfl (ov_index1 rfl Tryz.underlying36 (by kernel_rfl) rfl rfl ⟨by omega, by omega⟩ (by rfl)) ?_
       refine rl_v rfl rfl rfl (ov_load rfl Tryz.underlying3 rfl rfl (by exact hO2.cellI 3 rfl at_ ha0 ha1)) ?_
       refine rl_v rfl rfl rfl (ov_add rfl rfl rfl (by omega)) ?_
       refine rl_v rfl rfl rfl (ov_index1 rfl Tryz.underlying36 (by kernel_rfl) rfl rfl ⟨by omega, by omega⟩ (by rfl)) ?_
       refine rl_ow rfl (ow_storeI rfl rfl (by kernel_rfl) hO2 3 rfl rfl ⟨by omega, by omega⟩ rfl) ?_
       rintro _ w32 ⟨rfl, hO33, hs34⟩
       refine rl_nil ?_
       refine Run.use (ih2 (upd NX2 at_ (NX2 at_ + 1)) _ ?_ ?_) (And.intro rfl (And.intro rfl (And.intro rfl (And.intro rfl (And.intro rfl (And.intro rfl trivial))))))
       ·(rw [upd_same]; omega)
       ·exact ⟨c2', hrng2 hP.nx (by omega), hlo2 (fun v v0 v1 hv => (hP.lo v v0 v1 (by omega)).trans (hlo v v0 v1 hv)), hmono2 (fun v v0 v1 => Int.le_trans (hmono v v0 v1) (hP.mono v v0 v1)), fun h => (hD2 (hdead h)).step (fun u u0 u1 => (hP.nx u u0 u1).2) hG ha0 ha1 (by omega) (by rw [hNa, ← he0]; exact .inr (.inr ⟨hS2, hN2⟩)), hr2, (hO33.congrI 3 rfl (G' := fun v => iv (upd NX2 at_ (NX2 at_ + 1) v)) fun v _ _ => by unfold upd; split <;> rfl)⟩
   ·refine run_exit rfl <| run_seq <| run_region <| rl_v rfl rfl rfl (ov_assign rfl rfl) <| rl_nil <| run_ret Tryz.func85 (res1 Tryz.results85 rfl) ?_
    exact ⟨0, L, NX1, c1', rfl, ⟨Int.le_refl _, by omega, hL, hnx1, hlo, fun _ _ _ _ => rfl, Net.Adds.zero G L at_, hmono, fun _ => ⟨rfl, hdead, by omega, c1⟩⟩, hr1, hO5⟩
end
end Go.Proofs.YtbepolognfdkeaaGreat
