import Derived.Test.YteagflekbbchhaaReJ
set_option maxRecDepth 100000
namespace Go.Proofs.Yteagflekbbchhaa
open Go.RowKit Go.Proofs
theorem act_good {X : MW} (hG : Good X) (kind : Int) (d : Dl) (n kept : Int) (hk : kept ≤ 9223372036854775807) : Good (X.act kind d n kept) ∧ phi (X.act kind d n kept) ≤ phi X + 120000 := by
 have r : Good X ∧ phi X ≤ phi X + 120000 := ⟨hG, by omega⟩
 have hkm := mod_u kept 20 (by decide)
 unfold MW.act
 dsimp only
 split
 ·split
  ·next e =>
   have := dlok e
   exact ⟨hG.begin this.1 this.2, by have := phi_begin X d; omega⟩
  ·exact r
 ·split
  ·split
   ·next hi =>
    have hm := hG.bg _ (getD_bag hi)
    have hG1 := hG.dropAt n.toNat
    have p1 := phi_dropAt (X := X) (i := n.toNat) (by omega)
    have p2 := phi_bring (X := X.dropAt n.toNat) hm.2
    refine ⟨hG1.bring hm, ?_⟩
    unfold MW.deliver
    omega
   ·exact r
  ·split
   ·split
    ·next hi =>
     have p1 := phi_dropAt (X := X) (i := n.toNat) (by omega)
     exact ⟨hG.dropAt _, by omega⟩
    ·exact r
   ·split
    ·split
     ·next hi =>
      have hi2 : 0 ≤ n ∧ n < X.bag.length := ⟨hi.1, hi.2.1⟩
      exact ⟨hG.send (hG.bg _ (getD_bag hi2)), by rw [phi_send]; omega⟩
     ·exact r
    ·split
     ·split
      ·next hn => exact ⟨hG.tick0 hn, by have := phi_tick0 X n; have := hG.dn; omega⟩
      ·exact r
     ·split
      ·split
       ·next hn => exact ⟨hG.crash hn.1 _, by have := phi_crash X n kept; omega⟩
       ·exact r
      ·split
       ·split
        ·next hn => exact ⟨hG.restart hn, by have := phi_restart X n; omega⟩
        ·exact r
       ·split
        ·split
         ·next hn => exact ⟨hG.unfuse hn.1 ⟨by omega, by omega⟩, by rw [phi_unfuse]; omega⟩
         ·exact r
        ·refine ⟨hG.heal _, ?_⟩
         have p := phi_heal hG (IntKind.i64.wrap (IntKind.u64.wrap kept % 20)).toNat
         have q : 6 * X.deals.length * (IntKind.i64.wrap (IntKind.u64.wrap kept % 20)).toNat ≤ 6 * 1000 * 20 := Nat.mul_le_mul (by have := hG.dn; omega) (by omega)
         omega
theorem hl_good {X : MW} (hG : Good X) (hL : LInv X) {k : Int} (hk : k ≤ 20 ∨ 1000 < k) : Good (X.hl k) ∧ LInv (X.hl k) ∧ phi (X.hl k) ≤ phi X + 120000 := by
 unfold MW.hl
 split
 ·refine ⟨hG.heal _, hL.heal hG _, ?_⟩
  have p := phi_heal hG k.toNat
  have q : 6 * X.deals.length * k.toNat ≤ 6 * 1000 * 20 := Nat.mul_le_mul (by have := hG.dn; omega) (by omega)
  omega
 ·exact ⟨hG, hL, by omega⟩
theorem healN_le (k : Int) : healN k ≤ 20 ∨ 1000 < healN k := by
 unfold healN
 split <;> omega
theorem hl_cfg (X : MW) (k : Int) : (X.hl k).mem = X.mem ∧ (X.hl k).f1 = X.f1 ∧ (X.hl k).f2 = X.f2 ∧ (X.hl k).pat = X.pat := by
 unfold MW.hl
 split
 ·have h := cfg_heal X k.toNat
  exact ⟨cfg_mem h, congrArg (fun p => p.2.2.2.1) h, congrArg (fun p => p.2.2.2.2) h, cfg_pat h⟩
 ·exact ⟨rfl, rfl, rfl, rfl⟩
structure LawR (mem : Int) (f1 f2 : List Int) (bud : Nat) (X : MW) : Prop where
 good : Good X
 linv : LInv X
 phi : phi X ≤ bud
 mem : X.mem = mem
 f1 : X.f1 = f1
 f2 : X.f2 = f2
theorem LawR.step {mem : Int} {f1 f2 : List Int} {bud : Nat} {X : MW} (h : LawR mem f1 f2 bud X) (kind : Int) (d : Dl) (n kept : Int) (hk : kept ≤ 9223372036854775807) : LawR mem f1 f2 (bud + 120000) (X.step kind d n kept) := by
 by_cases c : IntKind.u64.wrap kind % 16 < 15
 ·rw [step_a c]
  obtain ⟨h2, h4⟩ := act_good h.good kind d n kept hk
  obtain ⟨c1, c2, c3, _⟩ := act_cfg X kind d n kept
  exact ⟨h2, h.linv.act h.good kind d n kept, by have := h.phi; omega, c1.trans h.mem, c2.trans h.f1, c3.trans h.f2⟩
 ·rw [step_h c]
  obtain ⟨h2, h3, h4⟩ := hl_good h.good h.linv (healN_le kept)
  obtain ⟨c1, c2, c3, _⟩ := hl_cfg X (healN kept)
  exact ⟨h2, h3, by have := h.phi; omega, c1.trans h.mem, c2.trans h.f1, c3.trans h.f2⟩
theorem LawR.init {mem pat : Int} {f1 f2 : List Int} (hm : 1 ≤ mem ∧ mem ≤ 5) (hp : 1 ≤ pat ∧ pat ≤ 1000) (hl1 : (f1.length : Int) = mem) (hl2 : (f2.length : Int) = mem) (hf1 : ∀ x ∈ f1, 0 ≤ x ∧ x < 100) (hf2 : ∀ x ∈ f2, 0 ≤ x ∧ x < 100) : LawR mem f1 f2 0 (MW.init mem pat f1 f2) :=
 ⟨Good.init (by omega) hp hl1 hl2 (lt100 hf1) (lt100 hf2), LInv.init _ _ _ _, Nat.le_refl _, rfl, rfl, rfl⟩
section
variable {P : Program} {N : Nat} {o : Oper} {F : Fr} {w : World}
end
theorem built_ref (mem pat : Int) (s1 s2 : Option Addr) (n1 c1 n2 c2 : Nat) : Try.prog.built 69 [(0, .agg #[iv mem, iv pat, .slice s1 n1 c1, .slice s2 n2 c2])] = some #[iv mem, iv pat, .slice s1 n1 c1, .slice s2 n2 c2, .slice none 0 0, .slice none 0 0, .slice none 0 0,
  .slice none 0 0, iv 0, .bool false, .bool false, iv 0, .slice none 0 0, iv 0, .bool false, .bool false, iv 0, .slice none 0 0, iv 0, .bool false, .bool false, iv 0] := by kernel_rfl
theorem ov_buildRef {N : Nat} {o : Oper} {F : Fr} {w : World} {x : Operand} {mem pat : Int} {s1 s2 : Option Addr} {n1 c1 n2 c2 : Nat} (ho : o.op = .build 69 #[(0, x)]) (hx : Fr.ev F x = some (.agg #[iv mem, iv pat, .slice s1 n1 c1, .slice s2 n2 c2])) :
  OpV Try.prog N o F w (.agg #[iv mem, iv pat, .slice s1 n1 c1, .slice s2 n2 c2, .slice none 0 0, .slice none 0 0, .slice none 0 0,
  .slice none 0 0, iv 0, .bool false, .bool false, iv 0, .slice none 0 0, iv 0, .bool false, .bool false, iv 0, .slice none 0 0, iv 0, .bool false, .bool false, iv 0]) := by
 intro st ha
 have := run_build (P := Try.prog) w 69 #[(0, st.eval x)] _ (by rw [ha.ev hx]; exact built_ref mem pat s1 s2 n1 c1 n2 c2)
 unfold execOp
 rw [ho]
 simp [this, Result.andThen]
def RK.new (s1 : Option Addr) (z1 : Nat) (s2 : Option Addr) (z2 : Nat) : RK := ⟨s1, z1, s2, z2, none, 0, none, 0, none, 0, none, 0, none, 0, none, 0, none, none, none, none, none, none⟩
theorem XIn.new {N : List (Option Blk)} {mem pat : Int} {f1 f2 : List Int} {s1 s2 : Option Addr} {z1 z2 : Nat} {c1 c2 : Option Blk} (h1 : IRow (.slice s1 f1.length z1) 2 f1.length (fun i => iv (gl f1 i)) c1) (h2 : IRow (.slice s2 f2.length z2) 2 f2.length (fun i => iv (gl f2 i)) c2) (m1 : c1 ∈ N) (m2 : c2 ∈ N) :
  XIn N (MW.init mem pat f1 f2) (RK.new s1 z1 s2 z2) :=
 ⟨PRow.of_irow h1 m1, PRow.of_irow h2 m2, PRow.nil _ _ _, PRow.nil _ _ _, PRow.nil _ _ _, fun n hn => by rcases hn with rfl | rfl | rfl <;> exact PRow.nil _ _ _⟩
theorem rnew_any (mem pat : Int) (f1 f2 : List Int) (s1 s2 : Option Addr) (z1 z2 B : Nat) (H : List (Option Blk)) (w0 w : World) (hO : Own B w0 w H) :
  Calls Try.prog 39 #[.agg #[iv mem, iv pat, .slice s1 f1.length z1, .slice s2 f2.length z2]] w fun e w' => e = .returned (rwv (MW.init mem pat f1 f2) (RK.new s1 z1 s2 z2)) ∧ Own B w0 w' H := by
 refine calls_of_run (F := [(0, _)]) Try.func39 rfl Try.ntmps39 rfl rfl <| run_seq <| run_region <| rl_ow rfl (ow_box _ rfl rfl rfl rfl rfl hO) ?_
 rintro _ w1 ⟨b1, rfl, hO2, hs3⟩
 refine rl_ow rfl (ow_alloc _ rfl rfl rfl zero_69 rfl hO2) ?_
 rintro _ w4 ⟨b2, rfl, hO5, hs6⟩
 refine rl_nil <| run_seq <| run_region <| rl_v rfl rfl rfl (ov_loadW rfl Try.underlying24 rfl (by kernel_rfl) rfl hO5 1 rfl) ?_
 refine rl_v rfl rfl rfl (ov_buildRef rfl rfl) <| rl_ow rfl (ow_storeW rfl rfl (by kernel_rfl) hO5 0 rfl rfl (by rfl) rfl (by rfl)) ?_
 rintro _ w7 ⟨rfl, hO8, hs9⟩
 refine rl_nil <| run_ret Try.func39 (resW Try.results39 rfl Try.underlying69 rfl (by kernel_rfl) hO8 0 rfl) ?_
 exact ⟨rfl, hO8.tail.tail⟩
end Go.Proofs.Yteagflekbbchhaa
