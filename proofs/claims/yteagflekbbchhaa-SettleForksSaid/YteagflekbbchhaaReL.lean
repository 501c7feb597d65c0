import Derived.Test.YteagflekbbchhaaReJ
set_option maxRecDepth 100000
namespace Go.Proofs.Yteagflekbbchhaa
open Go.RowKit Go.Proofs
theorem act_good {X : MW} (hG : Good X) (kind : Int) (d : Dl) (n kept : Int) (hk : kept ≤ 9223372036854775807) : Good (X.act kind d n kept) ∧ phi (X.act kind d n kept) ≤ phi X + 120000 := by
 have r : Good X ∧ phi X ≤ phi X + 120000 := ⟨hG, by omega⟩
 have hkm := mod_u kept 20 (by decide)
 unfold MW.act
 dsimp only
 split
 ·split
  ·next e =>
   have := dlok e
   exact ⟨hG.begin this.1 this.2, by have := phi_begin X d; omega⟩
  ·exact r
 ·split
  ·split
   ·next hi =>
    have hm := hG.bg _ (getD_bag hi)
    have hG1 := hG.dropAt n.toNat
    have p1 := phi_dropAt (X := X) (i := n.toNat) (by omega)
    have p2 := phi_bring (X := X.dropAt n.toNat) hm.2
    refine ⟨hG1.bring hm, ?_⟩
    unfold MW.deliver
    omega
   ·exact r
  ·split
   ·split
    ·next hi =>
     have p1 := phi_dropAt (X := X) (i := n.toNat) (by omega)
     exact ⟨hG.dropAt _, by omega⟩
    ·exact r
   ·split
    ·split
     ·next hi =>
      have hi2 : 0 ≤ n ∧ n < X.bag.length := ⟨hi.1, hi.2.1⟩
      exact ⟨hG.send (hG.bg _ (getD_bag hi2)), by rw [phi_send]; omega⟩
     ·exact r
    ·split
     ·split
      ·next hn => exact ⟨hG.tick0 hn, by have := phi_tick0 X n; have := hG.dn; omega⟩
      ·exact r
     ·split
      ·split
       ·next hn => exact ⟨hG.crash hn.1 _, by have := phi_crash X n kept; omega⟩
       ·exact r
      ·split
       ·split
        ·next hn => exact ⟨hG.restart hn, by have := phi_restart X n; omega⟩
        ·exact r
       ·split
        ·split
         ·next hn => exact ⟨hG.unfuse hn.1 ⟨by omega, by omega⟩, by rw [phi_unfuse]; omega⟩
         ·exact r
        ·refine ⟨hG.heal _, ?_⟩
         have p := phi_heal hG (IntKind.i64.wrap (IntKind.u64.wrap kept % 20)).toNat
         have q : 6 * X.deals.length * (IntKind.i64.wrap (IntKind.u64.wrap kept % 20)).toNat ≤ 6 * 1000 * 20 := Nat.mul_le_mul (by have := hG.dn; omega) (by omega)
         omega
theorem hl_good {X : MW} (hG : Good X) (hL : LInv X) {k : Int} (hk : k ≤ 20 ∨ 1000 < k) : Good (X.hl k) ∧ LInv (X.hl k) ∧ phi (X.hl k) ≤ phi X + 120000 := by
 unfold MW.hl
 split
 ·refine ⟨hG.heal _, hL.heal hG _, ?_⟩
  have p := phi_heal hG k.toNat
  have q : 6 * X.deals.length * k.toNat ≤ 6 * 1000 * 20 := Nat.mul_le_mul (by have := hG.dn; omega) (by omega)
  omega
 ·exact ⟨hG, hL, by omega⟩
theorem healN_le (k : Int) : healN k ≤ 20 ∨ 1000 < healN k := by
 unfold healN
 split <;> omega
theorem hl_cfg (X : MW) (k : Int) : (X.hl k).mem = X.mem ∧ (X.hl k).f1 = X.f1 ∧ (X.hl k).f2 = X.f2 ∧ (X.hl k).pat = X.pat := by
 unfold MW.hl
 split
 ·have h := cfg_heal X k.toNat
  exact ⟨cfg_mem h, congrArg (fun p => p.2.2.2.1) h, congrArg (fun p => p.2.2.2.2) h, cfg_pat h⟩
 ·exact ⟨rfl, rfl, rfl, rfl⟩
structure LawR (mem : Int) (f1 f2 : List Int) (bud : Nat) (X : MW) : Prop where
 good : Good X
 linv : LInv X
 phi : phi X ≤ bud
 mem : X.mem = mem
 f1 : X.f1 = f1
 f2 : X.f2 = f2
theorem LawR.step {mem : Int} {f1 f2 : List Int} {bud : Nat} {X : MW} (h : LawR mem f1 f2 bud X) (kind : Int) (d : Dl) (n kept : Int) (hk : kept ≤ 9223372036854775807) : LawR mem f1 f2 (bud + 120000) (X.step kind d n kept) := by
 by_cases c : IntKind.u64.wrap kind % 16 < 15
 ·rw [step_a c]
  obtain ⟨h2, h4⟩ := act_good h.good kind d n kept hk
  obtain ⟨c1, c2, c3, _⟩ := act_cfg X kind d n kept
  exact ⟨h2, h.linv.act h.good kind d n kept, by have := h.phi; omega, c1.trans h.mem, c2.trans h.f1, c3.trans h.f2⟩
 ·rw [step_h c]
  obtain ⟨h2, h3, h4⟩ := hl_good h.good h.linv (healN_le kept)
  obtain ⟨c1, c2, c3, _⟩ := hl_cfg X (healN kept)
  exact ⟨h2, h3, by have := h.phi; omega, c1.trans h.mem, c2.trans h.f1, c3.trans h.f2⟩
theorem LawR.mono {mem : Int} {f1 f2 : List Int} {b c : Nat} {X : MW} (h : LawR mem f1 f2 b X) (hb : b ≤ c) : LawR mem f1 f2 c X := ⟨h.good, h.linv, Nat.le_trans h.phi hb, h.mem, h.f1, h.f2⟩
theorem LawR.init {mem pat : Int} {f1 f2 : List Int} (hm : 1 ≤ mem ∧ mem ≤ 5) (hp : 1 ≤ pat ∧ pat ≤ 1000) (hl1 : (f1.length : Int) = mem) (hl2 : (f2.length : Int) = mem) (hf1 : ∀ x ∈ f1, 0 ≤ x ∧ x < 100) (hf2 : ∀ x ∈ f2, 0 ≤ x ∧ x < 100) : LawR mem f1 f2 0 (MW.init mem pat f1 f2) :=
 ⟨Good.init (by omega) hp hl1 hl2 (lt100 hf1) (lt100 hf2), LInv.init _ _ _ _, Nat.le_refl _, rfl, rfl, rfl⟩
section
variable {P : Program} {N : Nat} {o : Oper} {F : Fr} {w : World}
theorem ov_ptrnot {T U E : TypeId} {x : Operand} {ad : Option Addr} (ho : o.op = .binOp .neq T x (.const (.pointer none)) U) (hT : P.underlying T = some (.pointer E)) (hx : Fr.ev F x = some (.pointer ad)) : OpV P N o F w (.bool (!ad.isNone)) := by
 intro a ha
 have hn : a.eval (.const (.pointer none)) = .pointer none := rfl
 have h0 : (Op.equal T (.pointer ad) (.pointer none)).run P w = .ok ad.isNone w := by
  unfold Op.equal Op.maxDepth Op.equalIn
  rw [Sem.run_bind, run_underlying hT]
  cases ad <;> simp [Result.andThen]
 unfold execOp
 simp only [ho, ha.ev hx, hn, Sem.run_bind, eqGuard]
 simp [binOp, h0, Result.andThen]
end
theorem built_ref (mem pat : Int) (s1 s2 : Option Addr) (n1 c1 n2 c2 : Nat) : Try.prog.built 69 [(0, .agg #[iv mem, iv pat, .slice s1 n1 c1, .slice s2 n2 c2])] = some #[iv mem, iv pat, .slice s1 n1 c1, .slice s2 n2 c2, .slice none 0 0, .slice none 0 0, .slice none 0 0,
  .slice none 0 0, iv 0, .bool false, .bool false, iv 0, .slice none 0 0, iv 0, .bool false, .bool false, iv 0, .slice none 0 0, iv 0, .bool false, .bool false, iv 0] := by kernel_rfl
theorem ov_buildRef {N : Nat} {o : Oper} {F : Fr} {w : World} {x : Operand} {mem pat : Int} {s1 s2 : Option Addr} {n1 c1 n2 c2 : Nat} (ho : o.op = .build 69 #[(0, x)]) (hx : Fr.ev F x = some (.agg #[iv mem, iv pat, .slice s1 n1 c1, .slice s2 n2 c2])) :
  OpV Try.prog N o F w (.agg #[iv mem, iv pat, .slice s1 n1 c1, .slice s2 n2 c2, .slice none 0 0, .slice none 0 0, .slice none 0 0,
  .slice none 0 0, iv 0, .bool false, .bool false, iv 0, .slice none 0 0, iv 0, .bool false, .bool false, iv 0, .slice none 0 0, iv 0, .bool false, .bool false, iv 0]) := by
 intro st ha
 have := run_build (P := Try.prog) w 69 #[(0, st.eval x)] _ (by rw [ha.ev hx]; exact built_ref mem pat s1 s2 n1 c1 n2 c2)
 unfold execOp
 rw [ho]
 simp [this, Result.andThen]
def RK.new (s1 : Option Addr) (z1 : Nat) (s2 : Option Addr) (z2 : Nat) : RK := ⟨s1, z1, s2, z2, none, 0, none, 0, none, 0, none, 0, none, 0, none, 0, none, none, none, none, none, none⟩
theorem XIn.new {N : List (Option Blk)} {mem pat : Int} {f1 f2 : List Int} {s1 s2 : Option Addr} {z1 z2 : Nat} {c1 c2 : Option Blk} (h1 : IRow (.slice s1 f1.length z1) 2 f1.length (fun i => iv (gl f1 i)) c1) (h2 : IRow (.slice s2 f2.length z2) 2 f2.length (fun i => iv (gl f2 i)) c2) (m1 : c1 ∈ N) (m2 : c2 ∈ N) :
  XIn N (MW.init mem pat f1 f2) (RK.new s1 z1 s2 z2) :=
 ⟨PRow.of_irow h1 m1, PRow.of_irow h2 m2, PRow.nil _ _ _, PRow.nil _ _ _, PRow.nil _ _ _, fun n hn => by rcases hn with rfl | rfl | rfl <;> exact PRow.nil _ _ _⟩
theorem rnew_any (mem pat : Int) (f1 f2 : List Int) (s1 s2 : Option Addr) (z1 z2 B : Nat) (H : List (Option Blk)) (w0 w : World) (hO : Own B w0 w H) :
  Calls Try.prog 39 #[.agg #[iv mem, iv pat, .slice s1 f1.length z1, .slice s2 f2.length z2]] w fun e w' => e = .returned (rwv (MW.init mem pat f1 f2) (RK.new s1 z1 s2 z2)) ∧ Own B w0 w' H := by
 refine calls_of_run (F := [(0, _)]) Try.func39 rfl Try.ntmps39 rfl rfl <| run_seq <| run_region <| rl_ow rfl (ow_box _ rfl rfl rfl rfl rfl hO) ?_
 rintro _ w1 ⟨b1, rfl, hO2, hs3⟩
 refine rl_ow rfl (ow_alloc _ rfl rfl rfl zero_69 rfl hO2) ?_
 rintro _ w4 ⟨b2, rfl, hO5, hs6⟩
 refine rl_nil <| run_seq <| run_region <| rl_v rfl rfl rfl (ov_loadW rfl Try.underlying24 rfl (by kernel_rfl) rfl hO5 1 rfl) ?_
 refine rl_v rfl rfl rfl (ov_buildRef rfl rfl) <| rl_ow rfl (ow_storeW rfl rfl (by kernel_rfl) hO5 0 rfl rfl (by rfl) rfl (by rfl)) ?_
 rintro _ w7 ⟨rfl, hO8, hs9⟩
 refine rl_nil <| run_ret Try.func39 (resW Try.results39 rfl Try.underlying69 rfl (by kernel_rfl) hO8 0 rfl) ?_
 exact ⟨rfl, hO8.tail.tail⟩
theorem wat3 {B : Nat} {w0 w : World} {A : WA} {X : MW} {K : WC} {a b c : Option Blk} {N R Pl : List (Option Blk)} (hO : Own B w0 w (a :: b :: c :: (R ++ (K.M A X ++ N)))) (hK : WOk X K N) (hPl : ∀ y ∈ Pl, y ∈ N) : WAt B w0 w A X Pl (a :: b :: c :: R) := WAt.unfr (R := a :: b :: c :: R) hO hK hPl
theorem run_any (J : MW → Prop) (hJ : ∀ (mem : Int) (f1 f2 : List Int) (b : Nat) (X : MW) (kind : Int) (d : Dl) (n kept : Int), kept ≤ 9223372036854775807 → LawR mem f1 f2 b X → J X → J (X.step kind d n kept)) (mem pat : Int) (f1 f2 : List Int) (s1 s2 lo : Option Addr) (z1 z2 ln lc B : Nat) (most : Int) (S : Acts) (c1 c2 : Option Blk) (H : List (Option Blk)) (w0 w : World) (hJ0 : J (MW.init mem pat f1 f2)) (hmost : 0 ≤ most ∧ most ≤ 100) (hm : 1 ≤ mem ∧ mem ≤ 5) (hp : 1 ≤ pat ∧ pat ≤ 1000) (hl1 : (f1.length : Int) = mem) (hl2 : (f2.length : Int) = mem)
  (hf1 : ∀ x ∈ f1, 0 ≤ x ∧ x < 100) (hf2 : ∀ x ∈ f2, 0 ≤ x ∧ x < 100) (hR1 : IRow (.slice s1 f1.length z1) 2 f1.length (fun i => iv (gl f1 i)) c1) (hR2 : IRow (.slice s2 f2.length z2) 2 f2.length (fun i => iv (gl f2 i)) c2) (m1 : c1 ∈ H) (m2 : c2 ∈ H)
  (hl : SAt B w0 lo 7 ln S.l) (hkp : ∀ i, S.kept i ≤ 9223372036854775807) (hO : Own B w0 w H) :
  Calls Try.prog 28 #[.agg #[iv mem, iv pat, .slice s1 f1.length z1, .slice s2 f2.length z2], .slice lo ln lc, iv most] w fun e w' => ∃ A X K N, e = .returned (.tuple #[ptr A.W, rwv X K]) ∧ (LawR mem f1 f2 12000000 X ∧ J X) ∧ WAt B w0 w' A X [] (N ++ H) ∧ XIn (N ++ H) X K := by
 obtain ⟨lb, loff, hla, hrow⟩ := hl.open (by decide)
 refine calls_of_run (F := [(0, _), (1, _), (2, _)]) Try.func28 rfl Try.ntmps28 rfl rfl <| run_seq <| run_region <| rl_ow rfl (ow_box _ rfl rfl rfl rfl rfl hO) ?_
 rintro _ w1 ⟨b3, rfl, hO2, hs3⟩
 refine rl_v rfl rfl rfl (ov_assign rfl rfl) <| rl_ow rfl (ow_alloc _ rfl rfl rfl zero_69 rfl hO2) ?_
 rintro _ w4 ⟨b7, rfl, hO5, hs6⟩
 refine rl_nil <| run_seq <| run_region <| rl_v rfl rfl rfl (ov_loadW rfl Try.underlying24 rfl (by kernel_rfl) rfl hO5 1 rfl) ?_
 refine rl_call callable_15 rfl rfl rfl rfl rfl rfl (give_any mem pat s1 s2 f1.length f2.length z1 z2 B _ w0 w4 hO5) (fun e7 w8 hp9 => ?_)
 obtain ⟨rfl, hOg⟩ := hp9
 refine ⟨_, rfl, ?_⟩
 refine rl_call callable_14 rfl rfl rfl rfl rfl rfl (newOk mem pat f1 f2 s1 s2 z1 z2 B _ w0 w8 hOg (SrcI.of_mem hR1 (by simp [m1])) (SrcI.of_mem hR2 (by simp [m2])) (by omega) (by omega) hl1 hl2 (lt100 hf1) (lt100 hf2)) (fun e10 w11 hp12 => ?_)
 obtain ⟨A, rfl, hW⟩ := hp12
 refine ⟨_, rfl, ?_⟩
 obtain ⟨Kw, Nw, hO, hKw, hPl⟩ := hW.fr
 refine rl_v rfl rfl rfl (ov_move rfl rfl) <| rl_v rfl rfl rfl (ov_extract rfl rfl (by rfl)) ?_
 refine rl_v rfl rfl rfl (ov_extract rfl rfl (by rfl)) ?_
 refine rl_v rfl rfl rfl (ov_assign rfl rfl) <| rl_v rfl rfl rfl (ov_assign rfl rfl) <| rl_nil <| run_seq <| run_region <| rl_v rfl rfl rfl (ov_loadW rfl Try.underlying24 rfl (by kernel_rfl) rfl hO 1 rfl) ?_
 refine rl_call callable_39 rfl rfl rfl rfl rfl rfl (rnew_any mem pat f1 f2 s1 s2 z1 z2 B _ w0 w11 hO) (fun e13 w14 hp15 => ?_)
 obtain ⟨rfl, hOn⟩ := hp15
 refine ⟨_, rfl, ?_⟩
 refine rl_ow rfl (ow_alloc _ rfl rfl rfl zero_69 rfl hOn) ?_
 rintro _ w16 ⟨b10, rfl, hO17, hs18⟩
 refine rl_ow rfl (ow_storeW rfl rfl (by kernel_rfl) hO17 0 rfl rfl (by rfl) rfl (by rfl)) ?_
 rintro _ w19 ⟨rfl, hO20, hs21⟩
 refine rl_nil <| run_seq <| run_region <| rl_v rfl rfl rfl (ov_move rfl rfl) <| rl_v rfl rfl rfl (ov_eql rfl rfl rfl) <| rl_v rfl rfl rfl (ov_move rfl rfl) ?_
 first | refine rl_yesD 23 rfl (rfl) ?_ | refine rl_yes 23 rfl (rfl) ?_
 refine rl_gv rfl rfl rfl rfl rfl (ov_move rfl rfl) <| rl_gv rfl rfl rfl rfl rfl (ov_ptrnot rfl Try.underlying27 rfl) <| rl_v rfl rfl rfl (ov_pick_t rfl rfl rfl) <| rl_v rfl rfl rfl (ov_assign rfl rfl) <| rl_nil <| run_seq <| run_seq <| run_region <| rl_v rfl rfl rfl (ov_assign rfl rfl) <| rl_nil <| run_block <| Run.keep [1, 2, 7, 8, 10, 11, 12] (F' := [(1, _), (2, _), (7, _), (8, _), (10, _), (11, _), (12, _)]) rfl <| run_loop4 (fun (i : Int) (X : MW) (K : RK) (N : List (Option Blk)) => [(12, .int .i64 i), (11, .bool true)]) [1, 2, 7, 8, 10] (fun (i : Int) (X : MW) (K : RK) (N : List (Option Blk)) (w22 : World) => 0 ≤ i ∧ i ≤ most ∧ LawR mem f1 f2 (120000 * i.toNat) X ∧ J X ∧ XIn (N ++ H) X K ∧ WAt B w0 w22 A X [] (some (lch b10 69 (rwl X K)) :: some (lch b7 69 rwz) :: some (lch b3 24 [iv mem, iv pat, .slice s1 f1.length z1, .slice s2 f2.length z2]) :: (N ++ H))) (fun (i : Int) (X : MW) (K : RK) (N : List (Option Blk)) => (most - i).toNat) (0) (MW.init mem pat f1 f2) (RK.new s1 z1 s2 z2) ([]) ?_ (And.intro (by exact slot_int rfl (by first | omega)) (And.intro (by rfl) (And.intro rfl (And.intro rfl (And.intro rfl (And.intro rfl (And.intro rfl trivial))))))) ?_
 ·exact ⟨by omega, by omega, LawR.init hm hp hl1 hl2 hf1 hf2, hJ0, XIn.new hR1 hR2 m1 m2, WAt.unfr (R := _ :: _ :: _ :: H) hO20 hKw hPl⟩
 intro i X K N w22 hIw22 ih23
 obtain ⟨hi0, hi1, hX, hJX, hK, hW⟩ := hIw22
 show Run _ _ _ _ [(12, _), (11, _), (1, _), (2, _), (7, _), (8, _), (10, _)] _ _
 refine run_seq <| run_seq <| run_region_join 38 (.bool (decide ((i < ln ∧ i < most)))) [1, 2, 7, 8, 10, 11, 12] (fun hk24 => ?_) ?_
 ·refine rl_v rfl rfl rfl (ov_move rfl rfl) <| rl_v rfl rfl rfl (ov_move rfl rfl) <| rl_v rfl rfl rfl (ov_len rfl Try.underlying46 rfl) <| rl_v rfl rfl rfl (ov_lss rfl rfl rfl) <| rl_v rfl rfl rfl (ov_move rfl rfl) ?_
  first | refine rl_split_dec 31 rfl (fun hg25 => ?_) (fun hg25 => ?_) | refine rl_split 31 rfl (fun hg25 => ?_) (fun hg25 => ?_)
  ·refine rl_gv rfl rfl rfl rfl rfl (ov_move rfl rfl) <| rl_gv rfl rfl rfl rfl rfl (ov_move rfl rfl) <| rl_gv rfl rfl rfl rfl rfl (ov_lss rfl rfl rfl) <| rl_v rfl rfl rfl (ov_pick_t rfl rfl rfl) <| rl_v rfl rfl rfl (ov_move rfl rfl) ?_
   first | refine rl_split_dec 36 rfl (fun hg26 => ?_) (fun hg26 => ?_) | refine rl_split 36 rfl (fun hg26 => ?_) (fun hg26 => ?_)
   ·refine rl_gv rfl rfl rfl rfl rfl (ov_move rfl rfl) <| rl_v rfl rfl rfl (ov_pick_t rfl rfl rfl) ?_
    refine rl_nil (hk24 _ (jbt rfl (by omega)) (And.intro rfl (And.intro rfl (And.intro rfl (And.intro rfl (And.intro rfl (And.intro rfl (And.intro rfl trivial))))))))
   ·refine rl_gskip rfl rfl rfl rfl rfl rfl <| rl_v rfl rfl rfl (ov_pick_f rfl rfl rfl) ?_
    refine rl_nil (hk24 _ (jbf rfl (by omega)) (And.intro rfl (And.intro rfl (And.intro rfl (And.intro rfl (And.intro rfl (And.intro rfl (And.intro rfl trivial))))))))
  ·refine rl_gskip rfl rfl rfl rfl rfl rfl <| rl_gskip rfl rfl rfl rfl rfl rfl <| rl_gskip rfl rfl rfl rfl rfl rfl <| rl_v rfl rfl rfl (ov_pick_f rfl rfl rfl) <| rl_v rfl rfl rfl (ov_move rfl rfl) <| rl_gskip rfl rfl rfl rfl rfl rfl <| rl_v rfl rfl rfl (ov_pick_f rfl rfl rfl) ?_
   refine rl_nil (hk24 _ (jbf rfl (by omega)) (And.intro rfl (And.intro rfl (And.intro rfl (And.intro rfl (And.intro rfl (And.intro rfl (And.intro rfl trivial))))))))
 ·show Run _ _ _ _ [(38, _), (1, _), (2, _), (7, _), (8, _), (10, _), (11, _), (12, _)] _ _
  first | refine run_cond_dec rfl (fun q => ?_) (fun qn => ?_) | refine run_cond rfl (fun q => ?_) (fun qn => ?_)
  ·obtain ⟨Kw, Nw, hOw, hKw, hPl⟩ := hW.fr
   refine run_skip <| run_seq <| run_block <| run_held (fun w' => Own B w0 w' ([])) mixed ?_
   have hO28 := hOw.drew
   generalize World.drew w22 = w27 at hO28 ⊢
   have hS29 : Own B w0 w27 ([]) := by exact hO28.sub (List.nil_sublist _)
   refine rh_v 0 rfl (by kernel_rfl) rfl rfl rfl hS29 (fun _ hS => ov_move rfl rfl) ?_
   refine rh_v 2 rfl (by kernel_rfl) rfl rfl rfl hS29 (fun _ hS => ov_move rfl rfl) ?_
   refine rh_v 3 rfl (by kernel_rfl) rfl rfl rfl hS29 (fun _ hS => ov_move rfl rfl) ?_
   refine rh_v 4 rfl (by kernel_rfl) rfl rfl rfl hS29 (fun _ hS => ov_index rfl Try.underlying46 (by kernel_rfl) (s := 7) rfl rfl ⟨by omega, by omega⟩ (by exact (hla (by omega)))) ?_
   refine rh_v 5 rfl (by kernel_rfl) rfl rfl rfl hS29 (fun _ hS => ov_loadE rfl Try.underlying51 rfl (by kernel_rfl) rfl ⟨by omega, by omega⟩ rfl (hrow _ hS.below)) ?_
   refine rh_any1 1 (by kernel_rfl) ?_
   refine rc_op rfl rfl (ow_v rfl rfl (ov_loadW rfl Try.underlying69 rfl (by kernel_rfl) rfl hO28 0 rfl)) ?_
   rintro _ _ ⟨rfl, hw30⟩
   replace hw30 := hw30.symm; subst hw30
   refine ⟨hS29, ?_⟩
   refine rh_any1 6 (by kernel_rfl) ?_
   refine rc_op rfl rfl (ow_call2 callable_40 rfl rfl rfl rfl rfl (do_at [_, _, _] A X K (S.kind i) (S.d i) (S.n i) (S.kept i) B N [] H w0 w27 (hkp i) hX.good hX.linv (by have := hX.phi; omega) hK (WAt.unfr (R := _ :: _ :: _ :: (N ++ H)) hO28 hKw hPl)) (by intro e w' hp; obtain ⟨K2, N2, rfl, hW2, hK2⟩ := hp; exact ⟨_, rfl⟩)) ?_
   rintro _ w33 ⟨_, v31, he34, rfl, hp32⟩
   obtain ⟨K2, N2, rfl, hW2, hK2⟩ := hp32
   injection he34 with he34; subst he34
   obtain ⟨Kw2, Nw2, hOx, hKw2, hPl2⟩ := hW2.fr
   have hS35 : Own B w0 w33 ([]) := by exact hOx.sub (List.nil_sublist _)
   refine ⟨hS35, ?_⟩
   refine rh_v 7 rfl (by kernel_rfl) rfl rfl rfl hS35 (fun _ hS => ov_move rfl rfl) ?_
   refine rh_v 8 rfl (by kernel_rfl) rfl rfl rfl hS35 (fun _ hS => ov_extract rfl rfl (by rfl)) ?_
   refine rh_v 9 rfl (by kernel_rfl) rfl rfl rfl hS35 (fun _ hS => ov_extract rfl rfl (by rfl)) ?_
   refine rh_any1 10 (by kernel_rfl) ?_
   refine rc_op rfl rfl (ow_storeW rfl rfl (by kernel_rfl) hOx 0 rfl rfl (by rfl) rfl (by rfl)) ?_
   rintro _ w36 ⟨rfl, hO37, hs38⟩
   have hS39 : Own B w0 w36 ([]) := by exact hO37.sub (List.nil_sublist _)
   refine ⟨hS39, ?_⟩
   have hX2 := hX.step (S.kind i) (S.d i) (S.n i) (S.kept i) (hkp i)
   refine rh_v 11 rfl (by kernel_rfl) rfl rfl rfl hS39 (fun _ hS => ov_assign rfl rfl) ?_
   refine rh_done (by kernel_rfl) ?_
   refine run_inBlock <| run_region <| rl_v rfl rfl rfl (ov_move rfl rfl) <| rl_v rfl rfl rfl (ov_add rfl rfl rfl (by omega)) ?_
   refine rl_v rfl rfl rfl (ov_assign rfl rfl) <| rl_nil ?_
   refine Run.use (ih23 (i + 1) (X.step (S.kind i) (S.d i) (S.n i) (S.kept i)) (K2) (N2) _ ?_ ?_) (And.intro (by exact slot_int rfl (by first | omega)) (And.intro (by rfl) (And.intro rfl (And.intro rfl (And.intro rfl (And.intro rfl (And.intro rfl trivial)))))))
   ·first | omega | (dsimp only; omega)
   ·exact ⟨by omega, by omega, by rw [show (i + 1).toNat = i.toNat + 1 by omega, Nat.mul_add]; exact hX2, hJ _ _ _ _ _ _ _ _ _ (hkp i) hX hJX, hK2, wat3 hO37 hKw2 hPl2⟩
  ·refine run_exit rfl <| run_seq <| run_seq <| run_region <| rl_v rfl rfl rfl (ov_move rfl rfl) <| rl_v rfl rfl rfl (ov_not rfl rfl) <| rl_nil <| run_cond_f rfl ?_
   obtain ⟨Kw, Nw, hOw, hKw, hPl⟩ := hW.fr
   refine run_skip <| run_seq <| run_tail 3 mixed (by kernel_rfl) ?_
   have hO41 := hOw.drew
   generalize World.drew w22 = w40 at hO41 ⊢
   refine rt_v rfl rfl rfl (ov_move rfl rfl) <| rt_v rfl rfl rfl (ov_loadW rfl Try.underlying69 rfl (by kernel_rfl) rfl hO41 0 rfl) ?_
   refine rt_v rfl rfl rfl (ov_assign rfl rfl) <| rt_nil <| rl_ow rfl (ow_storeW rfl rfl (by kernel_rfl) hO41 1 rfl rfl (by rfl) rfl (by rfl)) ?_
   rintro _ w42 ⟨rfl, hO43, hs44⟩
   refine rl_nil <| run_ret Try.func28 (resVW Try.results28 rfl rfl Try.underlying69 rfl (by kernel_rfl) hO43 1 rfl) ?_
   exact ⟨A, X, K, N, rfl, ⟨hX.mono (by omega), hJX⟩, (wat3 hO43 hKw hPl).drop.drop.drop, hK⟩
end Go.Proofs.Yteagflekbbchhaa
