import Derived.Test.YtfbbagnpdfafjaaHaR
set_option maxRecDepth 100000
namespace Go.Proofs.Ytfbbagnpdfafjaa
open Go.RowKit Go.Proofs
abbrev Rc := Int × Int
structure Dl where
 b : Int
 s : Int
 m : Int
 g : Int
structure Ms where
 f : Int
 t : Int
 k : Int
 d : Int
structure Lg where
 recs : List Rc
 safe : Nat
 fuse : Int
 down : Bool
structure Ds where
 st : Int
 wt : Int
 h0 : Bool
 h1 : Bool
 h2 : Bool
structure MW where
 mem : Int
 pat : Int
 deals : List Dl
 bag : List Ms
 c : Lg
 s1 : Lg
 s2 : Lg
 kn : Int → Ds
 f1 : List Int
 f2 : List Int
def Dl.z : Dl := ⟨0, 0, 0, 0⟩
def Ms.z : Ms := ⟨0, 0, 0, 0⟩
def Ds.z : Ds := ⟨0, 0, false, false, false⟩
def Ds.s (st : Int) : Ds := ⟨st, 0, false, false, false⟩
def Lg.z : Lg := ⟨[], 0, 0, false⟩
namespace MW
def lg (X : MW) (n : Int) : Lg := if n = 0 then X.c else if n = 1 then X.s1 else X.s2
def setLg (X : MW) (n : Int) (l : Lg) : MW := if n = 0 then { X with c := l } else if n = 1 then { X with s1 := l } else { X with s2 := l }
def fst (X : MW) (n : Int) : List Int := if n = 1 then X.f1 else X.f2
def deal (X : MW) (d : Int) : Dl := X.deals.getD (d - 1).toNat Dl.z
def send (X : MW) (m : Ms) : MW := { X with bag := X.bag ++ [m] }
def know (X : MW) (d : Int) (v : Ds) : MW := { X with kn := upd X.kn d v }
end MW
def Lg.write (l : Lg) (r : Rc) : Lg :=
 if 0 < l.fuse then
  if l.fuse - 1 = 0 then { l with recs := l.recs ++ [r], fuse := 0, down := true }
  else { l with recs := l.recs ++ [r], safe := l.recs.length + 1, fuse := l.fuse - 1 }
 else { l with recs := l.recs ++ [r], safe := l.recs.length + 1 }
def Lg.syncs (l : Lg) : Bool := !decide (l.fuse = 1)
def Lg.state (l : Lg) (d : Int) : Int := if (3, d) ∈ l.recs then 3 else if (2, d) ∈ l.recs then 2 else if (1, d) ∈ l.recs then 1 else 0
namespace MW
def payer (X : MW) (n d : Int) : Int := if n = 1 then (X.deal d).b - 1 else (X.deal d).s - 1
def payee (X : MW) (n d : Int) : Int := if n = 1 then (X.deal d).s - 1 else (X.deal d).b - 1
def amount (X : MW) (n d : Int) : Int := if n = 1 then (X.deal d).m else (X.deal d).g
def acc1 (X : MW) (n : Int) (a : (Int → Int) × (Int → Int)) (r : Rc) : (Int → Int) × (Int → Int) :=
 let p := X.payer n r.2
 let q := X.payee n r.2
 let x := X.amount n r.2
 if r.1 = 1 then (a.1, upd a.2 p (a.2 p + x))
 else if r.1 = 2 then
  let b := upd a.1 p (a.1 p - x)
  (upd b q (b q + x), upd a.2 p (a.2 p - x))
 else if r.1 = 3 then (a.1, upd a.2 p (a.2 p - x))
 else a
def accs (X : MW) (n : Int) (l : List Rc) : (Int → Int) × (Int → Int) := l.foldl (X.acc1 n) (fun i => (X.fst n).getD i.toNat 0, fun _ => 0)
def bal (X : MW) (n : Int) : Int → Int := (X.accs n (X.lg n).recs).1
def held (X : MW) (n : Int) : Int → Int := (X.accs n (X.lg n).recs).2
def free (X : MW) (n i : Int) : Int := X.bal n i - X.held n i
def wr (X : MW) (n : Int) (r : Rc) : MW := X.setLg n ((X.lg n).write r)
def ok (X : MW) (n : Int) : Bool := (X.lg n).syncs
def sAsk (X : MW) (n d st : Int) : MW × Bool :=
 if st = 0 then
  if X.amount n d ≤ X.free n (X.payer n d) then
   if X.ok n then ((X.wr n (1, d)).send ⟨n, 0, 2, d⟩, true) else (X.wr n (1, d), false)
  else (X.send ⟨n, 0, 3, d⟩, true)
 else if st = 1 ∨ st = 2 then (X.send ⟨n, 0, 2, d⟩, true) else (X.send ⟨n, 0, 3, d⟩, true)
def sTake (X : MW) (n : Int) (m : Ms) : MW × Bool :=
 let st := (X.lg n).state m.d
 if m.k = 1 then X.sAsk n m.d st
 else if m.k = 4 then
  if st = 1 then if X.ok n then ((X.wr n (2, m.d)).send ⟨n, 0, 6, m.d⟩, true) else (X.wr n (2, m.d), false)
  else if st = 2 then (X.send ⟨n, 0, 6, m.d⟩, true) else (X, true)
 else if m.k = 5 then
  if st = 1 then if X.ok n then ((X.wr n (3, m.d)).send ⟨n, 0, 6, m.d⟩, true) else (X.wr n (3, m.d), false)
  else if st ≠ 2 then (X.send ⟨n, 0, 6, m.d⟩, true) else (X, true)
 else (X, true)
def sTick1 (X : MW) (n d : Int) : MW := if (X.lg n).state d = 1 then X.send ⟨n, 0, 2, d⟩ else X
def sTick (X : MW) (n : Int) : Nat → MW
 | 0 => X
 | k + 1 => (X.sTick n k).sTick1 n (k + 1)
def both (X : MW) (k d : Int) (h1 h2 : Bool) : MW :=
 let Y := if h1 then X else X.send ⟨0, 1, k, d⟩
 if h2 then Y else Y.send ⟨0, 2, k, d⟩
def turn (X : MW) (d st k : Int) : MW := (X.know d (Ds.s st)).both k d false false
end MW
def Ds.hear (s : Ds) (f : Int) : Ds := if f = 1 then { s with h1 := true } else { s with h2 := true }
namespace MW
def cTake (X : MW) (m : Ms) : MW × Bool :=
 let s := X.kn m.d
 if m.k = 2 ∧ s.st = 1 then
  let s' := s.hear m.f
  let Y := X.know m.d s'
  if s'.h1 = true ∧ s'.h2 = true then
   if Y.ok 0 then ((Y.wr 0 (4, m.d)).turn m.d 2 4, true) else (Y.wr 0 (4, m.d), false)
  else (Y, true)
 else if m.k = 2 ∧ s.st = 2 then (X.send ⟨0, m.f, 4, m.d⟩, true)
 else if m.k = 2 then (X.send ⟨0, m.f, 5, m.d⟩, true)
 else if m.k = 3 ∧ s.st = 1 then (X.turn m.d 3 5, true)
 else if m.k = 6 ∧ (s.st = 2 ∨ s.st = 3) then
  let s' := s.hear m.f
  (X.know m.d (if s'.h1 = true ∧ s'.h2 = true then { s' with st := 4 } else s'), true)
 else (X, true)
def cTick1 (X : MW) (d : Int) : MW :=
 let s := X.kn d
 if s.st = 1 then
  let Y := X.know d { s with wt := s.wt + 1 }
  if s.wt + 1 = X.pat then Y.turn d 3 5 else Y.both 1 d s.h1 s.h2
 else if s.st = 2 then X.both 4 d s.h1 s.h2
 else if s.st = 3 then X.both 5 d s.h1 s.h2
 else X
def cTick (X : MW) : Nat → MW
 | 0 => X
 | k + 1 => (X.cTick k).cTick1 (k + 1)
def kn0 (l : List Rc) : Int → Ds := l.foldl (fun g r => upd g r.2 (Ds.s 2)) (fun _ => Ds.z)
def start (X : MW) (n : Int) : MW := if n = 0 then { X with kn := kn0 X.c.recs } else X
def take (X : MW) (m : Ms) : MW × Bool := if m.t = 0 then X.cTake m else X.sTake m.t m
def fin (n : Int) (p : MW × Bool) : MW := if p.2 then p.1 else p.1.start n
def bring (X : MW) (m : Ms) : MW := if (X.lg m.t).down then X else fin m.t (X.take m)
def tick (X : MW) (n : Int) : MW := if n = 0 then X.cTick X.deals.length else X.sTick n X.deals.length
def begin (X : MW) (d : Dl) : MW := ({ X with deals := X.deals ++ [d] }).turn (X.deals.length + 1) 1 1
def dropAt (X : MW) (i : Nat) : MW := { X with bag := X.bag.take i ++ X.bag.drop (i + 1) }
def deliver (X : MW) (i : Nat) : MW := (X.dropAt i).bring (X.bag.getD i Ms.z)
def restart (X : MW) (n : Int) : MW :=
 let l := X.lg n
 if l.down then (X.setLg n ⟨l.recs, l.recs.length, 0, false⟩).start n else X
def unfuse (X : MW) (n v : Int) : MW := X.setLg n { X.lg n with fuse := v }
def tick0 (X : MW) (n : Int) : MW := if (X.lg n).down then X else X.tick n
def bringAll (X : MW) : List Ms → MW
 | [] => X
 | m :: r => (X.bring m).bringAll r
def round (X : MW) : MW := (((({ X with bag := [] } : MW).bringAll X.bag).tick0 0).tick0 1).tick0 2
def rounds (X : MW) : Nat → MW
 | 0 => X
 | k + 1 => (X.rounds k).round
def wake1 (X : MW) (n : Int) : MW := (X.restart n).unfuse n 0
def wake (X : MW) : MW := ((X.wake1 0).wake1 1).wake1 2
def heal (X : MW) (k : Nat) : MW := X.wake.rounds k
end MW
def msl (m : Ms) : List Value := [iv m.f, iv m.t, iv m.k, iv m.d]
def dll (d : Dl) : List Value := [iv d.b, iv d.s, iv d.m, iv d.g]
def rcl (r : Rc) : List Value := [iv r.1, iv r.2]
def dsl (s : Ds) : List Value := [iv s.st, iv s.wt, .bool s.h0, .bool s.h1, .bool s.h2]
def dsv (s : Ds) : Value := .agg (dsl s).toArray
def cnt {α β : Type} (f : α → β) (z : α) (l : List α) : Int → β := fun i => f (l.getD i.toNat z)
theorem cnt_app {α β : Type} (f : α → β) (z : α) (l : List α) (x : α) (i : Int) (h0 : 0 ≤ i) (h1 : i < (l.length : Int) + 1) : upd (cnt f z l) l.length (f x) i = cnt f z (l ++ [x]) i := by
 unfold upd cnt
 by_cases e : i = l.length
 ·subst e; simp
 ·rw [if_neg e]
  have : i.toNat < l.length := by omega
  simp [List.getD_eq_getElem?_getD, List.getElem?_append_left this]
structure WA where
 W : Nat
 C : Nat
 S1 : Nat
 S2 : Nat
def WA.node (A : WA) (n : Int) : Nat := if n = 0 then A.C else if n = 1 then A.S1 else A.S2
def nty (n : Int) : TypeId := if n = 0 then 185 else 192
def nodeV (A : WA) (n : Int) : Value := .iface (nty n) (ptr (A.node n))
structure WC where
 dv : Value
 bv : Value
 rc : Value
 r1 : Value
 r2 : Value
 v1 : Value
 v2 : Value
 L : List (Int × Value)
 mb : Nat
 cb : Option Blk
abbrev wcells (A : WA) (X : MW) (K : WC) : List Value := [iv X.mem, iv X.pat, .slice none 0 0, .slice none 0 0, K.dv, nodeV A 0, nodeV A 1, nodeV A 2, K.bv]
abbrev lcells (rv : Value) (l : Lg) (r : List Value) : List Value := rv :: iv l.safe :: iv l.fuse :: .bool l.down :: r
abbrev WC.M (A : WA) (X : MW) (K : WC) : List (Option Blk) :=
 [some (lch A.W 184 (wcells A X K)), some (lch A.C 191 (lcells K.rc X.c [ptr A.W, .map (some K.mb)])),
  some (lch A.S1 194 (lcells K.r1 X.s1 [ptr A.W, iv 1, K.v1])), some (lch A.S2 194 (lcells K.r2 X.s2 [ptr A.W, iv 2, K.v2])), some (mch K.mb K.L), K.cb]
structure MapIs (L : List (Int × Value)) (g : Int → Ds) : Prop where
 nd : (L.map (·.1)).Nodup
 at_ : ∀ k, lkp L k = none ∧ g k = Ds.z ∨ lkp L k = some (dsv (g k))
theorem MapIs.get {L : List (Int × Value)} {g : Int → Ds} (h : MapIs L g) (k : Int) : (lkp L k).getD (dsv Ds.z) = dsv (g k) := by
 rcases h.at_ k with ⟨h1, h2⟩ | h1
 ·rw [h1, h2]; rfl
 ·rw [h1]; rfl
theorem MapIs.put {L : List (Int × Value)} {g : Int → Ds} (h : MapIs L g) (k : Int) (s : Ds) : MapIs (mput L k (dsv s)) (upd g k s) :=
 ⟨mput_nodup k _ h.nd, fun j => by
  rw [lkp_mput]
  by_cases e : j = k
  ·rw [if_pos e, e, upd_same]; exact .inr rfl
  ·rw [if_neg e, upd_ne _ _ e]; exact h.at_ j⟩
theorem MapIs.nil : MapIs [] (fun _ => Ds.z) := ⟨by simp, fun _ => .inl ⟨rfl, rfl⟩⟩
structure WOk (X : MW) (K : WC) (N : List (Option Blk)) : Prop where
 dv : PRow N K.dv 4 X.deals.length (cnt dll Dl.z X.deals)
 bv : SRow K.bv 201 4 X.bag.length (cnt msl Ms.z X.bag) K.cb
 rc : PRow N K.rc 2 X.c.recs.length (cnt rcl (0, 0) X.c.recs)
 r1 : PRow N K.r1 2 X.s1.recs.length (cnt rcl (0, 0) X.s1.recs)
 r2 : PRow N K.r2 2 X.s2.recs.length (cnt rcl (0, 0) X.s2.recs)
 v1 : PRow N K.v1 1 X.f1.length (fun i => [iv (X.f1.getD i.toNat 0)])
 v2 : PRow N K.v2 1 X.f2.length (fun i => [iv (X.f2.getD i.toNat 0)])
 mp : MapIs K.L X.kn
theorem WOk.mono {X : MW} {K : WC} {N N' : List (Option Blk)} (h : WOk X K N) (hN : ∀ x ∈ N, x ∈ N') : WOk X K N' :=
 ⟨h.dv.mono hN, h.bv, h.rc.mono hN, h.r1.mono hN, h.r2.mono hN, h.v1.mono hN, h.v2.mono hN, h.mp⟩
def WAt (B : Nat) (w0 w : World) (A : WA) (X : MW) (Pl R : List (Option Blk)) : Prop :=
 ∃ K N, Own B w0 w (K.M A X ++ (N ++ R)) ∧ WOk X K N ∧ ∀ x ∈ Pl, x ∈ N
def WC.setR (K : WC) (n : Int) (rv : Value) : WC := if n = 0 then { K with rc := rv } else if n = 1 then { K with r1 := rv } else { K with r2 := rv }
theorem WOk.node {X : MW} {K : WC} {N : List (Option Blk)} (A : WA) (h : WOk X K N) {n : Int} (hn : n = 0 ∨ n = 1 ∨ n = 2) :
  ∃ (k : Nat) (t : TypeId) (rv : Value) (r : List Value), k < 4 ∧ (∀ T, (K.M A X ++ T)[k]? = some (some (lch (A.node n) t (lcells rv (X.lg n) r)))) ∧ PRow N rv 2 (X.lg n).recs.length (cnt rcl (0, 0) (X.lg n).recs) ∧
   (∀ T rv' l', (K.M A X ++ T).set k (some (lch (A.node n) t (lcells rv' l' r))) = (K.setR n rv').M A (X.setLg n l') ++ T) ∧
   ∀ N' rv' l', (∀ x ∈ N, x ∈ N') → PRow N' rv' 2 l'.recs.length (cnt rcl (0, 0) l'.recs) → WOk (X.setLg n l') (K.setR n rv') N' := by
 rcases hn with rfl | rfl | rfl
 ·exact ⟨1, _, _, _, by omega, fun _ => rfl, h.rc, fun _ _ _ => rfl, fun N' rv' l' hN hr => ⟨h.dv.mono hN, h.bv, hr, h.r1.mono hN, h.r2.mono hN, h.v1.mono hN, h.v2.mono hN, h.mp⟩⟩
 ·exact ⟨2, _, _, _, by omega, fun _ => rfl, h.r1, fun _ _ _ => rfl, fun N' rv' l' hN hr => ⟨h.dv.mono hN, h.bv, h.rc.mono hN, hr, h.r2.mono hN, h.v1.mono hN, h.v2.mono hN, h.mp⟩⟩
 ·exact ⟨3, _, _, _, by omega, fun _ => rfl, h.r2, fun _ _ _ => rfl, fun N' rv' l' hN hr => ⟨h.dv.mono hN, h.bv, h.rc.mono hN, h.r1.mono hN, hr, h.v1.mono hN, h.v2.mono hN, h.mp⟩⟩
theorem WOk.site {X : MW} {K : WC} {N : List (Option Blk)} (A : WA) (h : WOk X K N) {n : Int} (hn : n = 1 ∨ n = 2) :
  ∃ (k : Nat) (rv fv : Value), k < 4 ∧ (∀ T, (K.M A X ++ T)[k]? = some (some (lch (A.node n) 194 (lcells rv (X.lg n) [ptr A.W, iv n, fv])))) ∧ PRow N rv 2 (X.lg n).recs.length (cnt rcl (0, 0) (X.lg n).recs) ∧
   PRow N fv 1 (X.fst n).length (fun i => [iv ((X.fst n).getD i.toNat 0)]) := by
 rcases hn with rfl | rfl
 ·exact ⟨2, _, _, by omega, fun _ => rfl, h.r1, h.v1⟩
 ·exact ⟨3, _, _, by omega, fun _ => rfl, h.r2, h.v2⟩
theorem Own.hd {B : Nat} {w0 w : World} {x : Option Blk} {H : List (Option Blk)} (h : Own B w0 w (x :: H)) : Own B w0 w [x] := h.sub (List.Sublist.cons_cons _ (List.nil_sublist _))
theorem WOk.sent {X : MW} {K : WC} {N : List (Option Blk)} {m : Ms} {v : Value} {c : Option Blk} (h : WOk X K N) (hr : SRow v 201 4 (X.bag.length + 1) (upd (cnt msl Ms.z X.bag) X.bag.length (msl m)) c) : WOk (X.send m) { K with bv := v, cb := c } N := by
 refine ⟨h.dv, ?_, h.rc, h.r1, h.r2, h.v1, h.v2, h.mp⟩
 have := hr.congr fun i h0 h1 => cnt_app msl Ms.z X.bag m i h0 (by omega)
 show SRow v _ 4 (X.bag ++ [m]).length (cnt msl Ms.z (X.bag ++ [m])) c
 rw [List.length_append]; exact this
theorem send_any (A : WA) (X : MW) (m : Ms) (B : Nat) (Pl R : List (Option Blk)) (w0 w : World) (h : WAt B w0 w A X Pl R) (hb : X.bag.length < 4000000000000) :
  Calls Try.prog 144 #[ptr A.W, .agg (msl m).toArray] w fun e w' => e = .returned (.tuple #[]) ∧ WAt B w0 w' A (X.send m) Pl R := by
 obtain ⟨K, N, hO, hK, hPl⟩ := h
 refine calls_of_run (F := [(0, _), (1, _)]) Try.func144 rfl Try.ntmps144 rfl rfl <| run_seq <| run_region <| rl_ow rfl (ow_box _ rfl rfl rfl rfl rfl hO) ?_
 rintro _ w1 ⟨b3, rfl, hO2, hs3⟩
 refine rl_nil <| run_held (fun w' => Own B w0 w' ([some (lch b3 201 (msl m))])) mixed ?_
 have hO5 := hO2.drew
 generalize World.drew w1 = w4 at hO5 ⊢
 have hS6 : Own B w0 w4 ([some (lch b3 201 (msl m))]) := by first | exact hO5.hd | exact hO5.tail.hd
 refine rh_v 0 rfl (by kernel_rfl) rfl rfl rfl hS6 (fun _ hS => ov_move rfl rfl) ?_
 refine rh_v 1 rfl (by kernel_rfl) rfl rfl rfl hS6 (fun _ hS => ov_move rfl rfl) ?_
 refine rh_v 2 rfl (by kernel_rfl) rfl rfl rfl hS6 (fun _ hS => ov_nil rfl rfl) ?_
 refine rh_v 3 rfl (by kernel_rfl) rfl rfl rfl hS6 (fun _ hS => ov_fieldS rfl Try.underlying184 rfl (fo := 8) rfl (by kernel_rfl) rfl) ?_
 refine rh_v 5 rfl (by kernel_rfl) rfl rfl rfl hS6 (fun _ hS => ov_loadW rfl Try.underlying201 rfl (by kernel_rfl) rfl hS 0 rfl) ?_
 refine rh_any2 4 6 (by kernel_rfl) ?_ ?_
 ·refine rc_op rfl rfl (ow_v rfl rfl (ov_load rfl Try.underlying182 rfl rfl (by exact hO5.cellL 1 rfl rfl))) ?_
  rintro _ _ ⟨rfl, hw7⟩
  replace hw7 := hw7.symm; subst hw7
  refine ⟨hS6, ?_⟩
  refine rh_any1 6 (by kernel_rfl) ?_
  refine rc_op rfl rfl (ow_build [_] rfl rfl rfl rfl rfl Try.underlying182 info_201 (by decide) hO5 rfl rfl) ?_
  rintro _ w8 ⟨b10, rfl, hO9, hs10⟩
  have hS11 : Own B w0 w8 ([some (lch b3 201 (msl m))]) := by first | exact hO9.hd | exact hO9.tail.hd
  refine ⟨hS11, ?_⟩
  refine rh_any1 7 (by kernel_rfl) ?_
  refine rc_op rfl rfl (ow_appR1 rfl rfl rfl Try.underlying182 info_201 rfl rfl hO9 6 hK.bv rfl rfl rfl rfl rfl ⟨by omega, by omega⟩) ?_
  rintro _ w12 ⟨v11, c11, rfl, hO13, hr11, hs14⟩
  have hS15 : Own B w0 w12 ([some (lch b3 201 (msl m))]) := by first | exact hO13.hd | exact hO13.tail.hd
  refine ⟨hS15, ?_⟩
  obtain ⟨a11, p11, rfl⟩ := hr11.val
  refine rh_v 8 rfl (by kernel_rfl) rfl rfl rfl hS15 (fun _ hS => ov_nil rfl rfl) ?_
  refine rh_v 9 rfl (by kernel_rfl) rfl rfl rfl hS15 (fun _ hS => ov_fieldS rfl Try.underlying184 rfl (fo := 8) rfl (by kernel_rfl) rfl) ?_
  refine rh_any1 10 (by kernel_rfl) ?_
  refine rc_op rfl rfl (ow_storeL rfl rfl (by kernel_rfl) hO13 1 rfl rfl rfl rfl rfl) ?_
  rintro _ w16 ⟨rfl, hO17, hs18⟩
  have hS19 : Own B w0 w16 ([some (lch b3 201 (msl m))]) := by first | exact hO17.hd | exact hO17.tail.hd
  refine ⟨hS19, ?_⟩
  refine rh_done (by kernel_rfl) ?_
  refine run_end Try.func144 (res0 Try.results144) ?_
  exact ⟨rfl, { K with bv := _, cb := c11 }, N, hO17.tail, hK.sent hr11, hPl⟩
 ·refine rc_op rfl rfl (ow_build [_] rfl rfl rfl rfl rfl Try.underlying182 info_201 (by decide) hO5 rfl rfl) ?_
  rintro _ w20 ⟨b10, rfl, hO21, hs22⟩
  have hS23 : Own B w0 w20 ([some (lch b3 201 (msl m))]) := by first | exact hO21.hd | exact hO21.tail.hd
  refine ⟨hS23, ?_⟩
  refine rh_any1 4 (by kernel_rfl) ?_
  refine rc_op rfl rfl (ow_v rfl rfl (ov_load rfl Try.underlying182 rfl rfl (by exact hO21.cellL 2 rfl rfl))) ?_
  rintro _ _ ⟨rfl, hw24⟩
  replace hw24 := hw24.symm; subst hw24
  refine ⟨hS23, ?_⟩
  refine rh_any1 7 (by kernel_rfl) ?_
  refine rc_op rfl rfl (ow_appR1 rfl rfl rfl Try.underlying182 info_201 rfl rfl hO21 6 hK.bv rfl rfl rfl rfl rfl ⟨by omega, by omega⟩) ?_
  rintro _ w25 ⟨v11, c11, rfl, hO26, hr11, hs27⟩
  have hS28 : Own B w0 w25 ([some (lch b3 201 (msl m))]) := by first | exact hO26.hd | exact hO26.tail.hd
  refine ⟨hS28, ?_⟩
  obtain ⟨a11, p11, rfl⟩ := hr11.val
  refine rh_v 8 rfl (by kernel_rfl) rfl rfl rfl hS28 (fun _ hS => ov_nil rfl rfl) ?_
  refine rh_v 9 rfl (by kernel_rfl) rfl rfl rfl hS28 (fun _ hS => ov_fieldS rfl Try.underlying184 rfl (fo := 8) rfl (by kernel_rfl) rfl) ?_
  refine rh_any1 10 (by kernel_rfl) ?_
  refine rc_op rfl rfl (ow_storeL rfl rfl (by kernel_rfl) hO26 1 rfl rfl rfl rfl rfl) ?_
  rintro _ w29 ⟨rfl, hO30, hs31⟩
  have hS32 : Own B w0 w29 ([some (lch b3 201 (msl m))]) := by first | exact hO30.hd | exact hO30.tail.hd
  refine ⟨hS32, ?_⟩
  refine rh_done (by kernel_rfl) ?_
  refine run_end Try.func144 (res0 Try.results144) ?_
  exact ⟨rfl, { K with bv := _, cb := c11 }, N, hO30.tail, hK.sent hr11, hPl⟩
theorem mem_erase {A : WA} {X : MW} {K : WC} {N R : List (Option Blk)} {k : Nat} (hk : k < 4) : ∀ x ∈ N, x ∈ (K.M A X ++ (N ++ R)).eraseIdx k := by
 intro x hx
 match k, hk with
 | 0, _ => show x ∈ _ :: _ :: _ :: _ :: _ :: (N ++ R); exact mem_c1 (mem_c1 (mem_c1 (mem_c1 (mem_c1 mem_app)))) x hx
 | 1, _ => show x ∈ _ :: _ :: _ :: _ :: _ :: (N ++ R); exact mem_c1 (mem_c1 (mem_c1 (mem_c1 (mem_c1 mem_app)))) x hx
 | 2, _ => show x ∈ _ :: _ :: _ :: _ :: _ :: (N ++ R); exact mem_c1 (mem_c1 (mem_c1 (mem_c1 (mem_c1 mem_app)))) x hx
 | 3, _ => show x ∈ _ :: _ :: _ :: _ :: _ :: (N ++ R); exact mem_c1 (mem_c1 (mem_c1 (mem_c1 (mem_c1 mem_app)))) x hx
theorem WAt.push {B : Nat} {w0 w : World} {A : WA} {X : MW} {K : WC} {N R Pl : List (Option Blk)} {x : Option Blk} (hO : Own B w0 w (x :: (K.M A X ++ (N ++ R)))) (hK : WOk X K N) (hPl : ∀ y ∈ Pl, y ∈ N) : WAt B w0 w A X Pl (x :: R) :=
 ⟨K, N, hO.perm (perm_mid2 _ _ _ _), hK, hPl⟩
theorem WAt.drop {B : Nat} {w0 w : World} {A : WA} {X : MW} {Pl R : List (Option Blk)} {x : Option Blk} (h : WAt B w0 w A X Pl (x :: R)) : WAt B w0 w A X Pl R := by
 obtain ⟨K, N, hO, hK, hPl⟩ := h
 exact ⟨K, N, (hO.perm (perm_mid2 _ _ _ _).symm).tail, hK, hPl⟩
theorem WAt.pull {B : Nat} {w0 w : World} {A : WA} {X : MW} {Pl R : List (Option Blk)} {x : Option Blk} (h : WAt B w0 w A X Pl (x :: R)) : ∃ K N, Own B w0 w (x :: (K.M A X ++ (N ++ R))) ∧ WOk X K N ∧ ∀ y ∈ Pl, y ∈ N := by
 obtain ⟨K, N, hO, hK, hPl⟩ := h
 exact ⟨K, N, hO.perm (perm_mid2 _ _ _ _).symm, hK, hPl⟩
theorem ov_eqR {N : Nat} {o : Oper} {F : Fr} {w : World} {x y : Operand} {U : TypeId} {p q : Rc} (ho : o.op = .binOp .eql 244 x y U) (hx : Fr.ev F x = some (.agg (rcl p).toArray)) (hy : Fr.ev F y = some (.agg (rcl q).toArray)) : OpV Try.prog N o F w (.bool (decide (p = q))) := by
 intro r hr
 obtain ⟨a, b⟩ := p
 obtain ⟨c, d⟩ := q
 have hfo : Try.prog.underlying 244 = some (.struct (Try.prog.fieldsOf 244)) := by unfold Program.fieldsOf; rw [Try.underlying244]
 have h1 : (Op.equalIn 10000 244 (.agg #[iv a, iv b]) (.agg #[iv c, iv d])).run Try.prog w = .ok (decide ((a, b) = (c, d))) w := by
  rw [run_equalIn_struct w 9999 244 _ _ hfo (by kernel_rfl)]
  have hp : ∀ (t off : Nat) (xs : Array Value) (n : Int), Try.prog.underlying t = some (.int .i64) → xs[off]? = some (iv n) → (part t xs off).run Try.prog w = .ok (iv n) w := fun t off xs n hu hx => by simp [part, isAgg, run_underlying hu, hx]
  have he : ∀ (t : Nat) (m n : Int), Try.prog.underlying t = some (.int .i64) → (Op.equalIn 9999 t (iv m) (iv n)).run Try.prog w = .ok (m == n) w := fun t m n hu => by rw [run_equalIn_int w 9998 t .i64 .i64 m n hu]; first | done | simp
  unfold Program.fieldsOf
  rw [Try.underlying244]
  simp only [Op.eqFields]
  simp [hp 3 0 #[iv a, iv b] a Try.underlying3 rfl, hp 3 0 #[iv c, iv d] c Try.underlying3 rfl, hp 3 1 #[iv a, iv b] b Try.underlying3 rfl, hp 3 1 #[iv c, iv d] d Try.underlying3 rfl, he 3 _ _ Try.underlying3, Result.andThen]
  by_cases e1 : a = c
  ·by_cases e2 : b = d <;> simp [e1, e2]
  ·simp [e1]
 unfold execOp
 have hg := run_eqGuard_agg (P := Try.prog) w .eql 244 x y #[iv a, iv b] #[iv c, iv d] (by kernel_rfl)
 have hx' : r.eval x = .agg #[iv a, iv b] := hr.ev hx
 have hy' : r.eval y = .agg #[iv c, iv d] := hr.ev hy
 simp only [ho, hx', hy', Sem.run_bind, hg, Result.andThen_ok, run_eql_struct, h1]
 simp
theorem getD_mem {l : List Rc} {i : Int} (h0 : 0 ≤ i) (h1 : i < l.length) : l.getD i.toNat (0, 0) ∈ l := by
 have : i.toNat < l.length := by omega
 simp [List.getD_eq_getElem?_getD, this]
theorem has_any (b : Nat) (t : TypeId) (rv : Value) (rest : List Value) (l : List Rc) (r : Rc) (k B : Nat) (H N : List (Option Blk)) (w0 w : World) (hl : l.length ≤ 1000000) (hO : Own B w0 w H) (hk : H[k]? = some (some (lch b t (rv :: rest)))) (hr : PRow N rv 2 l.length (cnt rcl (0, 0) l)) (hN : ∀ x ∈ N, x ∈ H) :
  Calls Try.prog 186 #[ptr b, .agg (rcl r).toArray] w fun e w' => e = .returned (.bool (decide (r ∈ l))) ∧ Own B w0 w' H := by
 obtain ⟨ao, cap, rfl, hcap⟩ := hr.val
 obtain ⟨gb, hga, hrow⟩ := hr.open
 refine calls_of_run (F := [(0, _), (1, _)]) Try.func186 rfl Try.ntmps186 rfl rfl <| run_seq <| run_region <| rl_ow rfl (ow_box _ rfl rfl rfl rfl rfl hO) ?_
 rintro _ w1 ⟨b3, rfl, hO2, hs3⟩
 refine rl_v rfl rfl rfl (ov_assign rfl rfl) <| rl_nil <| run_seq <| run_seq <| run_region <| rl_v rfl rfl rfl (ov_move rfl rfl) <| rl_v rfl rfl rfl (ov_nil rfl rfl) <| rl_v rfl rfl rfl (ov_fieldS rfl Try.underlying189 rfl (fo := 0) rfl (by kernel_rfl) rfl) ?_
 refine rl_v rfl rfl rfl (ov_load rfl Try.underlying187 rfl rfl (by exact hO2.cellL (k + 1) hk rfl)) ?_
 refine rl_v rfl rfl rfl (ov_len rfl Try.underlying187 rfl) <| rl_v rfl rfl rfl (ov_move rfl rfl) <| rl_nil <| run_block <| Run.keep [3, 10, 11, 12] (F' := [(3, _), (10, _), (11, _), (12, _)]) rfl <| run_loop1 (fun (i : Int) => [(12, .int .i64 i)]) [3, 10, 11] (fun (i : Int) (w4 : World) => 0 ≤ i ∧ i ≤ l.length ∧ (∀ j : Nat, j < i.toNat → l.getD j (0, 0) ≠ r) ∧ Own B w0 w4 (some (lch b3 244 (rcl r)) :: H)) (fun (i : Int) => ((l.length : Int) - i).toNat) (0) ?_ (And.intro (by exact slot_int rfl (by first | omega)) (And.intro rfl (And.intro rfl (And.intro rfl trivial)))) ?_
 ·exact ⟨by omega, by omega, fun j hj => by simp at hj, hO2⟩
 intro i w4 hIw4 ih5
 obtain ⟨hi0, hi1, hne, hOi⟩ := hIw4
 show Run _ _ _ _ [(12, _), (3, _), (10, _), (11, _)] _ _
 refine run_seq <| run_region <| rl_v rfl rfl rfl (ov_lss rfl rfl rfl) <| rl_nil <| run_seq ?_
 first | refine run_cond_dec rfl (fun hc6 => ?_) (fun hc6 => ?_) | refine run_cond rfl (fun hc6 => ?_) (fun hc6 => ?_)
 ·refine run_skip <| run_seq <| run_block <| run_seq <| run_region <| rl_v rfl rfl rfl (ov_index rfl Try.underlying187 (by kernel_rfl) (s := 2) rfl rfl ⟨by omega, by omega⟩ (by exact hga (by omega))) ?_
  refine rl_v rfl rfl rfl (ov_loadE rfl Try.underlying244 rfl (by kernel_rfl) rfl ⟨by omega, by omega⟩ rfl (hrow hOi (mem_c1 hN))) ?_
  refine rl_ow rfl (ow_alloc _ rfl rfl rfl zero_244 rfl hOi) ?_
  rintro _ w7 ⟨b6, rfl, hO8, hs9⟩
  refine rl_ow rfl (ow_storeW rfl rfl (by kernel_rfl) hO8 0 rfl rfl (by rfl) rfl (by rfl)) ?_
  rintro _ w10 ⟨rfl, hO11, hs12⟩
  refine rl_nil <| run_seq <| run_region <| rl_v rfl rfl rfl (ov_loadW rfl Try.underlying244 rfl (by kernel_rfl) rfl hO11 0 rfl) ?_
  refine rl_v rfl rfl rfl (ov_loadW rfl Try.underlying244 rfl (by kernel_rfl) rfl hO11 1 rfl) ?_
  refine rl_v rfl rfl rfl (ov_eqR rfl rfl rfl) <| rl_nil ?_
  first | refine run_cond_dec rfl (fun hq => ?_) (fun hq2 => ?_) | refine run_cond rfl (fun hq => ?_) (fun hq2 => ?_)
  ·refine run_seq <| run_region <| rl_v rfl rfl rfl (ov_assign rfl rfl) <| rl_nil <| run_ret Try.func186 (res1 Try.results186 rfl) ?_
   exact ⟨by rw [decide_eq_true]; rw [← hq]; exact getD_mem hi0 (by omega), hO11.tail.tail⟩
  ·refine run_skip <| run_inBlock <| run_region <| rl_v rfl rfl rfl (ov_add rfl rfl rfl (by omega)) ?_
   refine rl_v rfl rfl rfl (ov_move rfl rfl) <| rl_nil ?_
   refine Run.use (ih5 (i + 1) _ ?_ ?_) (And.intro (by exact slot_int rfl (by first | omega)) (And.intro rfl (And.intro rfl (And.intro rfl trivial))))
   ·first | omega | (dsimp only; omega)
   ·exact ⟨by omega, by omega, fun j hj => by by_cases e : j = i.toNat; rw [e]; exact hq2; exact hne j (by omega), hO11.tail⟩
 ·have hno : r ∉ l := fun hm => by
   obtain ⟨j, hj⟩ := List.mem_iff_getElem?.1 hm
   have hlt := (List.getElem?_eq_some_iff.1 hj).1
   exact hne j (by omega) (by rw [List.getD_eq_getElem?_getD, hj]; rfl)
  refine run_exit rfl <| run_seq <| run_region <| rl_v rfl rfl rfl (ov_assign rfl rfl) <| rl_nil <| run_ret Try.func186 (res1 Try.results186 rfl) ?_
  exact ⟨by rw [decide_eq_false hno], hOi.tail⟩
theorem state_ret {l : Lg} {d i : Int} (h0 : 0 ≤ i) (h1 : i < 3) (hne : ∀ j : Int, 0 ≤ j → j < i → (3 - j, d) ∉ l.recs) (hq : (3 - i, d) ∈ l.recs) : l.state d = 3 - i := by
 unfold Lg.state
 have h2 : i = 0 ∨ i = 1 ∨ i = 2 := by omega
 rcases h2 with rfl | rfl | rfl
 ·rw [if_pos (by simpa using hq)]; rfl
 ·have a := hne 0 (by omega) (by omega)
  rw [if_neg (by simpa using a), if_pos (by simpa using hq)]; rfl
 ·have a := hne 0 (by omega) (by omega)
  have b := hne 1 (by omega) (by omega)
  rw [if_neg (by simpa using a), if_neg (by simpa using b), if_pos (by simpa using hq)]; rfl
theorem state_no {l : Lg} {d : Int} (hne : ∀ j : Int, 0 ≤ j → j < 3 → (3 - j, d) ∉ l.recs) : l.state d = 0 := by
 unfold Lg.state
 have a := hne 0 (by omega) (by omega)
 have b := hne 1 (by omega) (by omega)
 have c := hne 2 (by omega) (by omega)
 rw [if_neg (by simpa using a), if_neg (by simpa using b), if_neg (by simpa using c)]
theorem state_any (b : Nat) (rv : Value) (rest : List Value) (l : Lg) (d : Int) (k B : Nat) (H N : List (Option Blk)) (w0 w : World) (hl : l.recs.length ≤ 1000000) (hO : Own B w0 w H) (hk : H[k]? = some (some (lch b 194 (rv :: rest)))) (hr : PRow N rv 2 l.recs.length (cnt rcl (0, 0) l.recs)) (hN : ∀ x ∈ N, x ∈ H) :
  Calls Try.prog 183 #[ptr b, iv d] w fun e w' => e = .returned (iv (l.state d)) ∧ Own B w0 w' H := by
 refine calls_of_run (F := [(0, _), (1, _)]) Try.func183 rfl Try.ntmps183 rfl rfl <| run_seq <| run_region <| rl_v rfl rfl rfl (ov_assign rfl rfl) <| rl_nil <| run_seq <| run_seq <| run_region <| rl_ow rfl (ow_build1 [_, _, _] rfl rfl rfl rfl rfl Try.underlying51 info_3 (by decide) hO rfl rfl) ?_
 rintro _ w1 ⟨b7, rfl, hO2, hs3⟩
 have hb7 := hO2.congrI 0 (G' := fun i => iv (3 - i)) rfl (fun i h0 h1 => by
  have h2 : i = 0 ∨ i = 1 ∨ i = 2 := by omega
  rcases h2 with rfl | rfl | rfl <;> rfl)
 refine rl_v rfl rfl rfl (ov_len rfl Try.underlying51 rfl) <| rl_v rfl rfl rfl (ov_move rfl rfl) <| rl_nil <| run_block <| Run.keep [0, 1, 7, 8, 9] (F' := [(0, _), (1, _), (7, _), (8, _), (9, _)]) rfl <| run_loop1 (fun (i : Int) => [(9, .int .i64 i)]) [0, 1, 7, 8] (fun (i : Int) (w4 : World) => 0 ≤ i ∧ i ≤ 3 ∧ (∀ j : Int, 0 ≤ j → j < i → (3 - j, d) ∉ l.recs) ∧ Own B w0 w4 (some (vch b7 3 3 (fun i => iv (3 - i))) :: H)) (fun (i : Int) => ((3 : Int) - i).toNat) (0) ?_ (And.intro (by exact slot_int rfl (by first | omega)) (And.intro rfl (And.intro rfl (And.intro rfl (And.intro rfl trivial))))) ?_
 ·exact ⟨by omega, by omega, fun j h0 h1 => by omega, hb7⟩
 intro i w4 hIw4 ih5
 obtain ⟨hi0, hi1, hne, hOi⟩ := hIw4
 show Run _ _ _ _ [(9, _), (0, _), (1, _), (7, _), (8, _)] _ _
 refine run_seq <| run_region <| rl_v rfl rfl rfl (ov_lss rfl rfl rfl) <| rl_nil <| run_seq ?_
 first | refine run_cond_dec rfl (fun hc6 => ?_) (fun hc6 => ?_) | refine run_cond rfl (fun hc6 => ?_) (fun hc6 => ?_)
 ·refine run_skip <| run_seq <| run_block <| run_seq <| run_region <| rl_v rfl rfl rfl (ov_index1 rfl Try.underlying51 (by kernel_rfl) rfl rfl ⟨by omega, by omega⟩ rfl) ?_
  refine rl_v rfl rfl rfl (ov_load rfl Try.underlying3 rfl rfl (by exact hOi.cellI 0 rfl _ (by omega) (by omega))) ?_
  refine rl_v rfl rfl rfl (ov_assign rfl rfl) <| rl_nil <| run_seq <| run_region <| rl_v rfl rfl rfl (ov_move rfl rfl) <| rl_v rfl rfl rfl (ov_nil rfl rfl) <| rl_v rfl rfl rfl (ov_fieldS rfl Try.underlying194 rfl (fo := 0) rfl (by kernel_rfl) rfl) ?_
  refine rl_v rfl rfl rfl (ov_move rfl rfl) <| rl_v rfl rfl rfl (ov_move rfl rfl) <| rl_v rfl rfl rfl (ov_buildL rfl lay_244 rfl (us := [_, _]) rfl) ?_
  refine rl_call callable_186 rfl rfl rfl rfl rfl rfl (has_any b 194 rv rest l.recs (3 - i, d) (k + 1) B _ N w0 w4 hl hOi hk hr (mem_c1 hN)) (fun e7 w8 hp9 => ?_)
  obtain ⟨rfl, hO2⟩ := hp9
  refine ⟨_, rfl, ?_⟩
  refine rl_nil ?_
  first | refine run_cond_dec rfl (fun hq => ?_) (fun hq2 => ?_) | refine run_cond rfl (fun hq => ?_) (fun hq2 => ?_)
  ·refine run_seq <| run_region <| rl_v rfl rfl rfl (ov_move rfl rfl) <| rl_v rfl rfl rfl (ov_assign rfl rfl) <| rl_nil <| run_ret Try.func183 (res1 Try.results183 rfl) ?_
   exact ⟨by rw [state_ret hi0 (by omega) hne hq], hO2.tail⟩
  ·refine run_skip <| run_inBlock <| run_region <| rl_v rfl rfl rfl (ov_add rfl rfl rfl (by omega)) ?_
   refine rl_v rfl rfl rfl (ov_move rfl rfl) <| rl_nil ?_
   refine Run.use (ih5 (i + 1) _ ?_ ?_) (And.intro (by exact slot_int rfl (by first | omega)) (And.intro rfl (And.intro rfl (And.intro rfl (And.intro rfl trivial)))))
   ·first | omega | (dsimp only; omega)
   ·exact ⟨by omega, by omega, fun j h0 h1 => by by_cases e : j = i; rw [e]; exact hq2; exact hne j h0 (by omega), hO2⟩
 ·refine run_exit rfl <| run_seq <| run_region <| rl_v rfl rfl rfl (ov_assign rfl rfl) <| rl_nil <| run_ret Try.func183 (res1 Try.results183 rfl) ?_
  exact ⟨by rw [state_no fun j h0 h1 => hne j h0 (by omega)], hOi.tail⟩
def Dl.Ok (X : MW) (x : Dl) : Prop := (1 ≤ x.b ∧ x.b ≤ X.mem) ∧ (1 ≤ x.s ∧ x.s ≤ X.mem) ∧ x.b ≠ x.s ∧ (0 ≤ x.m ∧ x.m ≤ 1000000000000) ∧ 0 ≤ x.g ∧ x.g ≤ 1000000000000
theorem leg_any (A : WA) (X : MW) (K : WC) (n d : Int) (rv fv : Value) (k j B : Nat) (H N : List (Option Blk)) (w0 w : World) (hd : 1 ≤ d ∧ d ≤ X.deals.length) (hdl : X.deals.length ≤ 1000) (hok : (X.deal d).Ok X) (hmem : X.mem ≤ 1000)
  (hO : Own B w0 w H) (hk : H[k]? = some (some (lch (A.node n) 194 (lcells rv (X.lg n) [ptr A.W, iv n, fv])))) (hw : H[j]? = some (some (lch A.W 184 (wcells A X K)))) (hK : WOk X K N) (hN : ∀ x ∈ N, x ∈ H) :
  Calls Try.prog 138 #[ptr (A.node n), iv d] w fun e w' => e = .returned (.tuple #[iv (X.payer n d), iv (X.payee n d), iv (X.amount n d)]) ∧ Own B w0 w' H := by
 obtain ⟨ao, cap, hdv, hcap⟩ := hK.dv.val
 have hdr := hK.dv
 rw [hdv] at hdr
 obtain ⟨gb, hga, hrow⟩ := hdr.open
 obtain ⟨h1, h2, h3, h4, h5⟩ := hok
 unfold MW.deal at h1 h2 h4 h5
 refine calls_of_run (F := [(0, _), (1, _)]) Try.func138 rfl Try.ntmps138 rfl rfl <| run_seq <| run_region <| rl_v rfl rfl rfl (ov_assign rfl rfl) <| rl_v rfl rfl rfl (ov_assign rfl rfl) <| rl_v rfl rfl rfl (ov_assign rfl rfl) <| rl_nil <| run_seq <| run_region <| rl_v rfl rfl rfl (ov_move rfl rfl) <| rl_v rfl rfl rfl (ov_nil rfl rfl) <| rl_v rfl rfl rfl (ov_fieldS rfl Try.underlying194 rfl (fo := 4) rfl (by kernel_rfl) rfl) ?_
 refine rl_v rfl rfl rfl (ov_load rfl Try.underlying100 rfl rfl (by exact hO.cellL k hk rfl)) ?_
 refine rl_v rfl rfl rfl (ov_nil rfl rfl) <| rl_v rfl rfl rfl (ov_fieldS rfl Try.underlying184 rfl (fo := 4) rfl (by kernel_rfl) rfl) ?_
 refine rl_v rfl rfl rfl (ov_load rfl Try.underlying178 rfl rfl (by exact hO.cellL j hw (congrArg some hdv))) ?_
 refine rl_v rfl rfl rfl (ov_move rfl rfl) <| rl_v rfl rfl rfl (ov_sub rfl rfl rfl (by omega)) ?_
 refine rl_v rfl rfl rfl (ov_index rfl Try.underlying178 (by kernel_rfl) (s := 4) rfl rfl ⟨by omega, by omega⟩ (by exact hga (by omega))) ?_
 refine rl_v rfl rfl rfl (ov_loadE rfl Try.underlying109 rfl (by kernel_rfl) rfl ⟨by omega, by omega⟩ rfl (hrow hO hN)) ?_
 refine rl_ow rfl (ow_alloc _ rfl rfl rfl zero_109 rfl hO) ?_
 rintro _ w1 ⟨b7, rfl, hO2, hs3⟩
 refine rl_ow rfl (ow_storeW rfl rfl (by kernel_rfl) hO2 0 rfl rfl (by rfl) rfl (by rfl)) ?_
 rintro _ w4 ⟨rfl, hO5, hs6⟩
 refine rl_nil <| run_seq <| run_seq <| run_region <| rl_v rfl rfl rfl (ov_move rfl rfl) <| rl_v rfl rfl rfl (ov_nil rfl rfl) <| rl_v rfl rfl rfl (ov_fieldS rfl Try.underlying194 rfl (fo := 5) rfl (by kernel_rfl) rfl) ?_
 refine rl_v rfl rfl rfl (ov_load rfl Try.underlying3 rfl rfl (by exact hO5.cellL (k + 1) hk rfl)) ?_
 refine rl_v rfl rfl rfl (ov_eql rfl rfl rfl) <| rl_nil ?_
 first | refine run_cond_dec rfl (fun hq => ?_) (fun hq2 => ?_) | refine run_cond rfl (fun hq => ?_) (fun hq2 => ?_)
 ·subst hq
  refine run_seq <| run_quiet mixed (by kernel_rfl) ?_
  refine rq_v rfl rfl rfl (fun _ => ov_fieldS rfl Try.underlying109 rfl (fo := 0) rfl (by kernel_rfl) rfl) ?_
  refine rq_v rfl rfl rfl (fun _ => ov_load rfl Try.underlying3 rfl rfl (by show World.cell? w4 _ = _; first | exact hO5.cellI 0 rfl _ (by omega) (by omega) | exact hO5.cellL 0 rfl rfl | exact hO5.cellI 1 rfl _ (by omega) (by omega) | exact hO5.cellL 1 rfl rfl | exact hO5.cellI 2 rfl _ (by omega) (by omega) | exact hO5.cellL 2 rfl rfl | exact hO5.cellI 3 rfl _ (by omega) (by omega) | exact hO5.cellL 3 rfl rfl | exact hO5.cellI 4 rfl _ (by omega) (by omega) | exact hO5.cellL 4 rfl rfl | exact hO5.cellI 5 rfl _ (by omega) (by omega) | exact hO5.cellL 5 rfl rfl)) ?_
  refine rq_v rfl rfl rfl (fun _ => ov_sub rfl rfl rfl (by omega)) ?_
  refine rq_v rfl rfl rfl (fun _ => ov_fieldS rfl Try.underlying109 rfl (fo := 1) rfl (by kernel_rfl) rfl) ?_
  refine rq_v rfl rfl rfl (fun _ => ov_load rfl Try.underlying3 rfl rfl (by show World.cell? w4 _ = _; first | exact hO5.cellI 0 rfl _ (by omega) (by omega) | exact hO5.cellL 0 rfl rfl | exact hO5.cellI 1 rfl _ (by omega) (by omega) | exact hO5.cellL 1 rfl rfl | exact hO5.cellI 2 rfl _ (by omega) (by omega) | exact hO5.cellL 2 rfl rfl | exact hO5.cellI 3 rfl _ (by omega) (by omega) | exact hO5.cellL 3 rfl rfl | exact hO5.cellI 4 rfl _ (by omega) (by omega) | exact hO5.cellL 4 rfl rfl | exact hO5.cellI 5 rfl _ (by omega) (by omega) | exact hO5.cellL 5 rfl rfl)) ?_
  refine rq_v rfl rfl rfl (fun _ => ov_sub rfl rfl rfl (by omega)) ?_
  refine rq_v rfl rfl rfl (fun _ => ov_fieldS rfl Try.underlying109 rfl (fo := 2) rfl (by kernel_rfl) rfl) ?_
  refine rq_v rfl rfl rfl (fun _ => ov_load rfl Try.underlying2 rfl rfl (by show World.cell? w4 _ = _; first | exact hO5.cellI 0 rfl _ (by omega) (by omega) | exact hO5.cellL 0 rfl rfl | exact hO5.cellI 1 rfl _ (by omega) (by omega) | exact hO5.cellL 1 rfl rfl | exact hO5.cellI 2 rfl _ (by omega) (by omega) | exact hO5.cellL 2 rfl rfl | exact hO5.cellI 3 rfl _ (by omega) (by omega) | exact hO5.cellL 3 rfl rfl | exact hO5.cellI 4 rfl _ (by omega) (by omega) | exact hO5.cellL 4 rfl rfl | exact hO5.cellI 5 rfl _ (by omega) (by omega) | exact hO5.cellL 5 rfl rfl)) ?_
  refine rq_v rfl rfl rfl (fun _ => ov_assign rfl rfl) ?_
  refine rq_v rfl rfl rfl (fun _ => ov_assign rfl rfl) ?_
  refine rq_v rfl rfl rfl (fun _ => ov_assign rfl rfl) ?_
  refine rq_nil (fun n7 => ?_)
  have hO9 := hO5.drewN n7
  generalize World.drewN w4 n7 = w8 at hO9 ⊢
  refine run_ret Try.func138 (res3 Try.results138 rfl rfl rfl) ?_
  exact ⟨rfl, hO9.tail⟩
 ·refine run_skip <| run_seq <| run_quiet mixed (by kernel_rfl) ?_
  refine rq_v rfl rfl rfl (fun _ => ov_fieldS rfl Try.underlying109 rfl (fo := 1) rfl (by kernel_rfl) rfl) ?_
  refine rq_v rfl rfl rfl (fun _ => ov_load rfl Try.underlying3 rfl rfl (by show World.cell? w4 _ = _; first | exact hO5.cellI 0 rfl _ (by omega) (by omega) | exact hO5.cellL 0 rfl rfl | exact hO5.cellI 1 rfl _ (by omega) (by omega) | exact hO5.cellL 1 rfl rfl | exact hO5.cellI 2 rfl _ (by omega) (by omega) | exact hO5.cellL 2 rfl rfl | exact hO5.cellI 3 rfl _ (by omega) (by omega) | exact hO5.cellL 3 rfl rfl | exact hO5.cellI 4 rfl _ (by omega) (by omega) | exact hO5.cellL 4 rfl rfl | exact hO5.cellI 5 rfl _ (by omega) (by omega) | exact hO5.cellL 5 rfl rfl)) ?_
  refine rq_v rfl rfl rfl (fun _ => ov_sub rfl rfl rfl (by omega)) ?_
  refine rq_v rfl rfl rfl (fun _ => ov_fieldS rfl Try.underlying109 rfl (fo := 0) rfl (by kernel_rfl) rfl) ?_
  refine rq_v rfl rfl rfl (fun _ => ov_load rfl Try.underlying3 rfl rfl (by show World.cell? w4 _ = _; first | exact hO5.cellI 0 rfl _ (by omega) (by omega) | exact hO5.cellL 0 rfl rfl | exact hO5.cellI 1 rfl _ (by omega) (by omega) | exact hO5.cellL 1 rfl rfl | exact hO5.cellI 2 rfl _ (by omega) (by omega) | exact hO5.cellL 2 rfl rfl | exact hO5.cellI 3 rfl _ (by omega) (by omega) | exact hO5.cellL 3 rfl rfl | exact hO5.cellI 4 rfl _ (by omega) (by omega) | exact hO5.cellL 4 rfl rfl | exact hO5.cellI 5 rfl _ (by omega) (by omega) | exact hO5.cellL 5 rfl rfl)) ?_
  refine rq_v rfl rfl rfl (fun _ => ov_sub rfl rfl rfl (by omega)) ?_
  refine rq_v rfl rfl rfl (fun _ => ov_fieldS rfl Try.underlying109 rfl (fo := 3) rfl (by kernel_rfl) rfl) ?_
  refine rq_v rfl rfl rfl (fun _ => ov_load rfl Try.underlying2 rfl rfl (by show World.cell? w4 _ = _; first | exact hO5.cellI 0 rfl _ (by omega) (by omega) | exact hO5.cellL 0 rfl rfl | exact hO5.cellI 1 rfl _ (by omega) (by omega) | exact hO5.cellL 1 rfl rfl | exact hO5.cellI 2 rfl _ (by omega) (by omega) | exact hO5.cellL 2 rfl rfl | exact hO5.cellI 3 rfl _ (by omega) (by omega) | exact hO5.cellL 3 rfl rfl | exact hO5.cellI 4 rfl _ (by omega) (by omega) | exact hO5.cellL 4 rfl rfl | exact hO5.cellI 5 rfl _ (by omega) (by omega) | exact hO5.cellL 5 rfl rfl)) ?_
  refine rq_v rfl rfl rfl (fun _ => ov_assign rfl rfl) ?_
  refine rq_v rfl rfl rfl (fun _ => ov_assign rfl rfl) ?_
  refine rq_v rfl rfl rfl (fun _ => ov_assign rfl rfl) ?_
  refine rq_nil (fun n10 => ?_)
  have hO12 := hO5.drewN n10
  generalize World.drewN w4 n10 = w11 at hO12 ⊢
  refine run_ret Try.func138 (res3 Try.results138 rfl rfl rfl) ?_
  exact ⟨by unfold MW.payer MW.payee MW.amount; rw [if_neg hq2, if_neg hq2, if_neg hq2]; rfl, hO12.tail⟩
end Go.Proofs.Ytfbbagnpdfafjaa
