import Derived.Test.YtfbbagnpdfafjaaHaR
set_option maxRecDepth 100000
namespace Go.Proofs.Ytfbbagnpdfafjaa
open Go.RowKit Go.Proofs
abbrev Rc := Int × Int
structure Dl where
 b : Int
 s : Int
 m : Int
 g : Int
structure Ms where
 f : Int
 t : Int
 k : Int
 d : Int
structure Lg where
 recs : List Rc
 safe : Nat
 fuse : Int
 down : Bool
structure Ds where
 st : Int
 wt : Int
 h0 : Bool
 h1 : Bool
 h2 : Bool
structure MW where
 mem : Int
 pat : Int
 deals : List Dl
 bag : List Ms
 c : Lg
 s1 : Lg
 s2 : Lg
 kn : Int → Ds
 f1 : List Int
 f2 : List Int
def Dl.z : Dl := ⟨0, 0, 0, 0⟩
def Ms.z : Ms := ⟨0, 0, 0, 0⟩
def Ds.z : Ds := ⟨0, 0, false, false, false⟩
def Ds.s (st : Int) : Ds := ⟨st, 0, false, false, false⟩
def Lg.z : Lg := ⟨[], 0, 0, false⟩
namespace MW
def lg (X : MW) (n : Int) : Lg := if n = 0 then X.c else if n = 1 then X.s1 else X.s2
def setLg (X : MW) (n : Int) (l : Lg) : MW := if n = 0 then { X with c := l } else if n = 1 then { X with s1 := l } else { X with s2 := l }
def fst (X : MW) (n : Int) : List Int := if n = 1 then X.f1 else X.f2
def deal (X : MW) (d : Int) : Dl := X.deals.getD (d - 1).toNat Dl.z
def send (X : MW) (m : Ms) : MW := { X with bag := X.bag ++ [m] }
def know (X : MW) (d : Int) (v : Ds) : MW := { X with kn := upd X.kn d v }
end MW
namespace MW
def both (X : MW) (k d : Int) (h1 h2 : Bool) : MW :=
 let Y := if h1 then X else X.send ⟨0, 1, k, d⟩
 if h2 then Y else Y.send ⟨0, 2, k, d⟩
def turn (X : MW) (d st k : Int) : MW := (X.know d (Ds.s st)).both k d false false
end MW
namespace MW
def begin (X : MW) (d : Dl) : MW := ({ X with deals := X.deals ++ [d] }).turn (X.deals.length + 1) 1 1
end MW
def msl (m : Ms) : List Value := [iv m.f, iv m.t, iv m.k, iv m.d]
def dll (d : Dl) : List Value := [iv d.b, iv d.s, iv d.m, iv d.g]
def rcl (r : Rc) : List Value := [iv r.1, iv r.2]
def dsl (s : Ds) : List Value := [iv s.st, iv s.wt, .bool s.h0, .bool s.h1, .bool s.h2]
def dsv (s : Ds) : Value := .agg (dsl s).toArray
def cnt {α β : Type} (f : α → β) (z : α) (l : List α) : Int → β := fun i => f (l.getD i.toNat z)
theorem cnt_app {α β : Type} (f : α → β) (z : α) (l : List α) (x : α) (i : Int) (h0 : 0 ≤ i) (h1 : i < (l.length : Int) + 1) : upd (cnt f z l) l.length (f x) i = cnt f z (l ++ [x]) i := by
 unfold upd cnt
 by_cases e : i = l.length
 ·subst e; simp
 ·rw [if_neg e]
  have : i.toNat < l.length := by omega
  simp [List.getD_eq_getElem?_getD, List.getElem?_append_left this]
structure WA where
 W : Nat
 C : Nat
 S1 : Nat
 S2 : Nat
def WA.node (A : WA) (n : Int) : Nat := if n = 0 then A.C else if n = 1 then A.S1 else A.S2
def nty (n : Int) : TypeId := if n = 0 then 185 else 192
def nodeV (A : WA) (n : Int) : Value := .iface (nty n) (ptr (A.node n))
structure WC where
 dv : Value
 bv : Value
 rc : Value
 r1 : Value
 r2 : Value
 v1 : Value
 v2 : Value
 L : List (Int × Value)
 mb : Nat
 cb : Option Blk
abbrev wcells (A : WA) (X : MW) (K : WC) : List Value := [iv X.mem, iv X.pat, .slice none 0 0, .slice none 0 0, K.dv, nodeV A 0, nodeV A 1, nodeV A 2, K.bv]
abbrev lcells (rv : Value) (l : Lg) (r : List Value) : List Value := rv :: iv l.safe :: iv l.fuse :: .bool l.down :: r
abbrev WC.M (A : WA) (X : MW) (K : WC) : List (Option Blk) :=
 [some (lch A.W 184 (wcells A X K)), some (lch A.C 191 (lcells K.rc X.c [ptr A.W, .map (some K.mb)])),
  some (lch A.S1 194 (lcells K.r1 X.s1 [ptr A.W, iv 1, K.v1])), some (lch A.S2 194 (lcells K.r2 X.s2 [ptr A.W, iv 2, K.v2])), some (mch K.mb K.L), K.cb]
structure MapIs (L : List (Int × Value)) (g : Int → Ds) : Prop where
 nd : (L.map (·.1)).Nodup
 at_ : ∀ k, lkp L k = none ∧ g k = Ds.z ∨ lkp L k = some (dsv (g k))
theorem MapIs.put {L : List (Int × Value)} {g : Int → Ds} (h : MapIs L g) (k : Int) (s : Ds) : MapIs (mput L k (dsv s)) (upd g k s) :=
 ⟨mput_nodup k _ h.nd, fun j => by
  rw [lkp_mput]
  by_cases e : j = k
  ·rw [if_pos e, e, upd_same]; exact .inr rfl
  ·rw [if_neg e, upd_ne _ _ e]; exact h.at_ j⟩
theorem MapIs.nil : MapIs [] (fun _ => Ds.z) := ⟨by simp, fun _ => .inl ⟨rfl, rfl⟩⟩
structure WOk (X : MW) (K : WC) (N : List (Option Blk)) : Prop where
 dv : PRow N K.dv 4 X.deals.length (cnt dll Dl.z X.deals)
 bv : SRow K.bv 201 4 X.bag.length (cnt msl Ms.z X.bag) K.cb
 rc : PRow N K.rc 2 X.c.recs.length (cnt rcl (0, 0) X.c.recs)
 r1 : PRow N K.r1 2 X.s1.recs.length (cnt rcl (0, 0) X.s1.recs)
 r2 : PRow N K.r2 2 X.s2.recs.length (cnt rcl (0, 0) X.s2.recs)
 v1 : PRow N K.v1 1 X.f1.length (fun i => [iv (X.f1.getD i.toNat 0)])
 v2 : PRow N K.v2 1 X.f2.length (fun i => [iv (X.f2.getD i.toNat 0)])
 mp : MapIs K.L X.kn
theorem WOk.mono {X : MW} {K : WC} {N N' : List (Option Blk)} (h : WOk X K N) (hN : ∀ x ∈ N, x ∈ N') : WOk X K N' :=
 ⟨h.dv.mono hN, h.bv, h.rc.mono hN, h.r1.mono hN, h.r2.mono hN, h.v1.mono hN, h.v2.mono hN, h.mp⟩
def WAt (B : Nat) (w0 w : World) (A : WA) (X : MW) (Pl R : List (Option Blk)) : Prop :=
 ∃ K N, Own B w0 w (K.M A X ++ (N ++ R)) ∧ WOk X K N ∧ ∀ x ∈ Pl, x ∈ N
def WC.setR (K : WC) (n : Int) (rv : Value) : WC := if n = 0 then { K with rc := rv } else if n = 1 then { K with r1 := rv } else { K with r2 := rv }
theorem WOk.node {X : MW} {K : WC} {N : List (Option Blk)} (A : WA) (h : WOk X K N) {n : Int} (hn : n = 0 ∨ n = 1 ∨ n = 2) :
  ∃ (k : Nat) (t : TypeId) (rv : Value) (r : List Value), k < 4 ∧ (∀ T, (K.M A X ++ T)[k]? = some (some (lch (A.node n) t (lcells rv (X.lg n) r)))) ∧ PRow N rv 2 (X.lg n).recs.length (cnt rcl (0, 0) (X.lg n).recs) ∧
   (∀ T rv' l', (K.M A X ++ T).set k (some (lch (A.node n) t (lcells rv' l' r))) = (K.setR n rv').M A (X.setLg n l') ++ T) ∧
   ∀ N' rv' l', (∀ x ∈ N, x ∈ N') → PRow N' rv' 2 l'.recs.length (cnt rcl (0, 0) l'.recs) → WOk (X.setLg n l') (K.setR n rv') N' := by
 rcases hn with rfl | rfl | rfl
 ·exact ⟨1, _, _, _, by omega, fun _ => rfl, h.rc, fun _ _ _ => rfl, fun N' rv' l' hN hr => ⟨h.dv.mono hN, h.bv, hr, h.r1.mono hN, h.r2.mono hN, h.v1.mono hN, h.v2.mono hN, h.mp⟩⟩
 ·exact ⟨2, _, _, _, by omega, fun _ => rfl, h.r1, fun _ _ _ => rfl, fun N' rv' l' hN hr => ⟨h.dv.mono hN, h.bv, h.rc.mono hN, hr, h.r2.mono hN, h.v1.mono hN, h.v2.mono hN, h.mp⟩⟩
 ·exact ⟨3, _, _, _, by omega, fun _ => rfl, h.r2, fun _ _ _ => rfl, fun N' rv' l' hN hr => ⟨h.dv.mono hN, h.bv, h.rc.mono hN, h.r1.mono hN, hr, h.v1.mono hN, h.v2.mono hN, h.mp⟩⟩
theorem Own.hd {B : Nat} {w0 w : World} {x : Option Blk} {H : List (Option Blk)} (h : Own B w0 w (x :: H)) : Own B w0 w [x] := h.sub (List.Sublist.cons_cons _ (List.nil_sublist _))
theorem WOk.sent {X : MW} {K : WC} {N : List (Option Blk)} {m : Ms} {v : Value} {c : Option Blk} (h : WOk X K N) (hr : SRow v 201 4 (X.bag.length + 1) (upd (cnt msl Ms.z X.bag) X.bag.length (msl m)) c) : WOk (X.send m) { K with bv := v, cb := c } N := by
 refine ⟨h.dv, ?_, h.rc, h.r1, h.r2, h.v1, h.v2, h.mp⟩
 have := hr.congr fun i h0 h1 => cnt_app msl Ms.z X.bag m i h0 (by omega)
 show SRow v _ 4 (X.bag ++ [m]).length (cnt msl Ms.z (X.bag ++ [m])) c
 rw [List.length_append]; exact this
theorem send_any (A : WA) (X : MW) (m : Ms) (B : Nat) (Pl R : List (Option Blk)) (w0 w : World) (h : WAt B w0 w A X Pl R) (hb : X.bag.length < 4000000000000) :
  Calls Try.prog 144 #[ptr A.W, .agg (msl m).toArray] w fun e w' => e = .returned (.tuple #[]) ∧ WAt B w0 w' A (X.send m) Pl R := by
 obtain ⟨K, N, hO, hK, hPl⟩ := h
 refine calls_of_run (F := [(0, _), (1, _)]) Try.func144 rfl Try.ntmps144 rfl rfl <| run_seq <| run_region <| rl_ow rfl (ow_box _ rfl rfl rfl rfl rfl hO) ?_
 rintro _ w1 ⟨b3, rfl, hO2, hs3⟩
 refine rl_nil <| run_held (fun w' => Own B w0 w' ([some (lch b3 201 (msl m))])) mixed ?_
 have hO5 := hO2.drew
 generalize World.drew w1 = w4 at hO5 ⊢
 have hS6 : Own B w0 w4 ([some (lch b3 201 (msl m))]) := by first | exact hO5.hd | exact hO5.tail.hd
 refine rh_v 0 rfl (by kernel_rfl) rfl rfl rfl hS6 (fun _ hS => ov_move rfl rfl) ?_
 refine rh_v 1 rfl (by kernel_rfl) rfl rfl rfl hS6 (fun _ hS => ov_move rfl rfl) ?_
 refine rh_v 2 rfl (by kernel_rfl) rfl rfl rfl hS6 (fun _ hS => ov_nil rfl rfl) ?_
 refine rh_v 3 rfl (by kernel_rfl) rfl rfl rfl hS6 (fun _ hS => ov_fieldS rfl Try.underlying184 rfl (fo := 8) rfl (by kernel_rfl) rfl) ?_
 refine rh_v 5 rfl (by kernel_rfl) rfl rfl rfl hS6 (fun _ hS => ov_loadW rfl Try.underlying201 rfl (by kernel_rfl) rfl hS 0 rfl) ?_
 refine rh_any2 4 6 (by kernel_rfl) ?_ ?_
 ·refine rc_op rfl rfl (ow_v rfl rfl (ov_load rfl Try.underlying182 rfl rfl (by exact hO5.cellL 1 rfl rfl))) ?_
  rintro _ _ ⟨rfl, hw7⟩
  replace hw7 := hw7.symm; subst hw7
  refine ⟨hS6, ?_⟩
  refine rh_any1 6 (by kernel_rfl) ?_
  refine rc_op rfl rfl (ow_build [_] rfl rfl rfl rfl rfl Try.underlying182 info_201 (by decide) hO5 rfl rfl) ?_
  rintro _ w8 ⟨b10, rfl, hO9, hs10⟩
  have hS11 : Own B w0 w8 ([some (lch b3 201 (msl m))]) := by first | exact hO9.hd | exact hO9.tail.hd
  refine ⟨hS11, ?_⟩
  refine rh_any1 7 (by kernel_rfl) ?_
  refine rc_op rfl rfl (ow_appR1 rfl rfl rfl Try.underlying182 info_201 rfl rfl hO9 6 hK.bv rfl rfl rfl rfl rfl ⟨by omega, by omega⟩) ?_
  rintro _ w12 ⟨v11, c11, rfl, hO13, hr11, hs14⟩
  have hS15 : Own B w0 w12 ([some (lch b3 201 (msl m))]) := by first | exact hO13.hd | exact hO13.tail.hd
  refine ⟨hS15, ?_⟩
  obtain ⟨a11, p11, rfl⟩ := hr11.val
  refine rh_v 8 rfl (by kernel_rfl) rfl rfl rfl hS15 (fun _ hS => ov_nil rfl rfl) ?_
  refine rh_v 9 rfl (by kernel_rfl) rfl rfl rfl hS15 (fun _ hS => ov_fieldS rfl Try.underlying184 rfl (fo := 8) rfl (by kernel_rfl) rfl) ?_
  refine rh_any1 10 (by kernel_rfl) ?_
  refine rc_op rfl rfl (ow_storeL rfl rfl (by kernel_rfl) hO13 1 rfl rfl rfl rfl rfl) ?_
  rintro _ w16 ⟨rfl, hO17, hs18⟩
  have hS19 : Own B w0 w16 ([some (lch b3 201 (msl m))]) := by first | exact hO17.hd | exact hO17.tail.hd
  refine ⟨hS19, ?_⟩
  refine rh_done (by kernel_rfl) ?_
  refine run_end Try.func144 (res0 Try.results144) ?_
  exact ⟨rfl, { K with bv := _, cb := c11 }, N, hO17.tail, hK.sent hr11, hPl⟩
 ·refine rc_op rfl rfl (ow_build [_] rfl rfl rfl rfl rfl Try.underlying182 info_201 (by decide) hO5 rfl rfl) ?_
  rintro _ w20 ⟨b10, rfl, hO21, hs22⟩
  have hS23 : Own B w0 w20 ([some (lch b3 201 (msl m))]) := by first | exact hO21.hd | exact hO21.tail.hd
  refine ⟨hS23, ?_⟩
  refine rh_any1 4 (by kernel_rfl) ?_
  refine rc_op rfl rfl (ow_v rfl rfl (ov_load rfl Try.underlying182 rfl rfl (by exact hO21.cellL 2 rfl rfl))) ?_
  rintro _ _ ⟨rfl, hw24⟩
  replace hw24 := hw24.symm; subst hw24
  refine ⟨hS23, ?_⟩
  refine rh_any1 7 (by kernel_rfl) ?_
  refine rc_op rfl rfl (ow_appR1 rfl rfl rfl Try.underlying182 info_201 rfl rfl hO21 6 hK.bv rfl rfl rfl rfl rfl ⟨by omega, by omega⟩) ?_
  rintro _ w25 ⟨v11, c11, rfl, hO26, hr11, hs27⟩
  have hS28 : Own B w0 w25 ([some (lch b3 201 (msl m))]) := by first | exact hO26.hd | exact hO26.tail.hd
  refine ⟨hS28, ?_⟩
  obtain ⟨a11, p11, rfl⟩ := hr11.val
  refine rh_v 8 rfl (by kernel_rfl) rfl rfl rfl hS28 (fun _ hS => ov_nil rfl rfl) ?_
  refine rh_v 9 rfl (by kernel_rfl) rfl rfl rfl hS28 (fun _ hS => ov_fieldS rfl Try.underlying184 rfl (fo := 8) rfl (by kernel_rfl) rfl) ?_
  refine rh_any1 10 (by kernel_rfl) ?_
  refine rc_op rfl rfl (ow_storeL rfl rfl (by kernel_rfl) hO26 1 rfl rfl rfl rfl rfl) ?_
  rintro _ w29 ⟨rfl, hO30, hs31⟩
  have hS32 : Own B w0 w29 ([some (lch b3 201 (msl m))]) := by first | exact hO30.hd | exact hO30.tail.hd
  refine ⟨hS32, ?_⟩
  refine rh_done (by kernel_rfl) ?_
  refine run_end Try.func144 (res0 Try.results144) ?_
  exact ⟨rfl, { K with bv := _, cb := c11 }, N, hO30.tail, hK.sent hr11, hPl⟩
theorem WAt.push {B : Nat} {w0 w : World} {A : WA} {X : MW} {K : WC} {N R Pl : List (Option Blk)} {x : Option Blk} (hO : Own B w0 w (x :: (K.M A X ++ (N ++ R)))) (hK : WOk X K N) (hPl : ∀ y ∈ Pl, y ∈ N) : WAt B w0 w A X Pl (x :: R) :=
 ⟨K, N, hO.perm (perm_mid2 _ _ _ _), hK, hPl⟩
theorem WAt.drop {B : Nat} {w0 w : World} {A : WA} {X : MW} {Pl R : List (Option Blk)} {x : Option Blk} (h : WAt B w0 w A X Pl (x :: R)) : WAt B w0 w A X Pl R := by
 obtain ⟨K, N, hO, hK, hPl⟩ := h
 exact ⟨K, N, (hO.perm (perm_mid2 _ _ _ _).symm).tail, hK, hPl⟩
theorem WAt.pull {B : Nat} {w0 w : World} {A : WA} {X : MW} {Pl R : List (Option Blk)} {x : Option Blk} (h : WAt B w0 w A X Pl (x :: R)) : ∃ K N, Own B w0 w (x :: (K.M A X ++ (N ++ R))) ∧ WOk X K N ∧ ∀ y ∈ Pl, y ∈ N := by
 obtain ⟨K, N, hO, hK, hPl⟩ := h
 exact ⟨K, N, hO.perm (perm_mid2 _ _ _ _).symm, hK, hPl⟩
def Dl.Ok (X : MW) (x : Dl) : Prop := (1 ≤ x.b ∧ x.b ≤ X.mem) ∧ (1 ≤ x.s ∧ x.s ≤ X.mem) ∧ x.b ≠ x.s ∧ (0 ≤ x.m ∧ x.m ≤ 1000000000000) ∧ 0 ≤ x.g ∧ x.g ≤ 1000000000000
end Go.Proofs.Ytfbbagnpdfafjaa
