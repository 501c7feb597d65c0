import Derived.Test.YtfbbagnpdfafjaaHcL
set_option maxRecDepth 100000
namespace Go.Proofs.Ytfbbagnpdfafjaa
open Go.RowKit Go.Proofs
theorem HAt.drewH {B : Nat} {w0 w : World} {hb : Nat} {X : HM} {Pl R : List (Option Blk)} (h : HAt B w0 w hb X Pl R) : HAt B w0 w.drew hb X Pl R := by
 obtain ⟨K, N, hO, hK, hPl⟩ := h
 exact ⟨K, N, hO.drew, hK, hPl⟩
theorem HAt.call1 {f : FuncId} {args : Array Value} {Q : Ending → Prop} {B : Nat} {w0 w : World} {hb : Nat} {X : HM} {Pl R : List (Option Blk)} (h : HAt B w0 w hb X Pl R)
  (hc : ∀ H, Own B w0 w H → R.Sublist H → Calls Try.prog f args w fun e w' => Q e ∧ Own B w0 w' H) :
  Calls Try.prog f args w fun e w' => Q e ∧ HAt B w0 w' hb X Pl R := by
 obtain ⟨K, N, hO, hK, hPl⟩ := h
 exact (hc _ hO (.cons _ (.cons _ (List.sublist_append_right _ _)))).mono fun e w' h => ⟨h.1, K, N, h.2, hK, hPl⟩
theorem HAt.call2 {f : FuncId} {args : Array Value} {Q : Ending → Option Blk → Prop} {B : Nat} {w0 w : World} {hb : Nat} {X : HM} {Pl R : List (Option Blk)} (h : HAt B w0 w hb X Pl R)
  (hc : ∀ H, Own B w0 w H → R.Sublist H → Calls Try.prog f args w fun e w' => ∃ c, Q e c ∧ Own B w0 w' (c :: H)) :
  Calls Try.prog f args w fun e w' => ∃ c, Q e c ∧ HAt B w0 w' hb X Pl (c :: R) := by
 obtain ⟨K, N, hO, hK, hPl⟩ := h
 exact (hc _ hO (.cons _ (.cons _ (List.sublist_append_right _ _)))).mono fun e w' ⟨c, h1, h2⟩ => ⟨c, h1, K, N, h2.sink, hK, hPl⟩
theorem HAt.open {B : Nat} {w0 w : World} {hb : Nat} {X : HM} {Pl R : List (Option Blk)} (h : HAt B w0 w hb X Pl R) : ∃ K N, Own B w0 w (houB hb (X.r K) :: K.blk :: (N ++ R)) ∧ HOk X K N ∧ Pl.Sublist N := h
theorem HAt.put {B : Nat} {w0 w : World} {hb : Nat} {X : HM} {Pl R N : List (Option Blk)} {K : HK} {x : Option Blk} (hO : Own B w0 w (x :: houB hb (X.r K) :: K.blk :: (N ++ R))) (hK : HOk X K N) (hPl : Pl.Sublist N) : HAt B w0 w hb X Pl (x :: R) := ⟨K, N, hO.sink, hK, hPl⟩
section
variable (hb B : Nat) (X : HM) (Pl R : List (Option Blk)) (w0 w : World) (h : HAt B w0 w hb X Pl R) (hG : HG X)
include h hG
theorem account_in (i : Int) (hi : X.is i) :
  Calls Try.prog 31 #[ptr hb, iv i] w fun e w' => ∃ v c, e = .returned (.tuple #[.agg #[iv (X.acct i).cash, iv (X.acct i).fund, v, .bool (X.acct i).out], iv 0]) ∧
   IRow v 2 X.mn (fun m => iv ((X.acct i).pos m)) c ∧ HAt B w0 w' hb X Pl (c :: R) := by
 have h1 := account_any hb B X i Pl R w0 w h hG
 rw [show X.kno i = X.acct i from if_pos hi, if_pos hi, if_pos hi] at h1
 exact h1
theorem margin_in (i : Int) (hi : X.is i) : Calls Try.prog 24 #[ptr hb, iv i] w fun e w' => e = .returned (.tuple #[iv (X.need (X.acct i)), iv 0]) ∧ HAt B w0 w' hb X Pl R := by
 have h1 := margin2_any hb B X i Pl R w0 w h hG
 rw [show X.mar i = X.need (X.acct i) from if_pos hi, show X.non i = 0 from if_pos hi] at h1
 exact h1
theorem worst_in (i : Int) (hi : X.is i) : Calls Try.prog 38 #[ptr hb, iv i] w fun e w' => e = .returned (.tuple #[iv (wstF (lossF X.mv (X.acct i).pos) X.k).1, iv (wstF (lossF X.mv (X.acct i).pos) X.k).2, iv 0]) ∧ HAt B w0 w' hb X Pl R := by
 have h1 := worst_any hb B X i Pl R w0 w h hG
 rw [show X.wst i = wstF (lossF X.mv (X.acct i).pos) X.k from if_pos hi, show X.non i = 0 from if_pos hi] at h1
 exact h1
theorem price_in (m : Int) (hm : X.hasM m) : Calls Try.prog 20 #[ptr hb, iv m] w fun e w' => e = .returned (.tuple #[iv (X.pr m), iv 0]) ∧ HAt B w0 w' hb X Pl R := by
 have h1 := price_any hb B X m Pl R w0 w h hG
 rw [show X.pric m = X.pr m from if_pos hm, show X.nom m = 0 from if_pos hm] at h1
 exact h1
theorem contract_in (n : Int) (hn : X.hasC n) : Calls Try.prog 39 #[ptr hb, iv n] w fun e w' => e = .returned (.tuple #[.agg (ctL (X.ct (n - 1))).toArray, iv 0]) ∧ HAt B w0 w' hb X Pl R := by
 have h1 := contract_any hb B X n Pl R w0 w h hG
 rw [show X.ctr n = X.ct (n - 1) from if_pos hn, show X.noc n = 0 from if_pos hn] at h1
 exact h1
theorem stress_in (s : Int) (hs : X.hasS s) : Calls Try.prog 40 #[ptr hb, iv s] w fun e w' => ∃ v c, e = .returned (.tuple #[v, iv 0]) ∧ IRow v 2 X.mem (fun j => iv (X.stA s j)) c ∧ HAt B w0 w' hb X Pl (c :: R) := by
 have h1 := stress_any hb B X s Pl R w0 w h hG
 rw [show X.nos s = 0 from if_pos hs, if_pos hs] at h1
 exact h1
theorem calls_in : Calls Try.prog 32 #[ptr hb] w fun e w' => ∃ v c, e = .returned v ∧ IRow v 3 (X.cls X.mem).length (fun i => iv (glH (X.cls X.mem) i)) c ∧ (X.cls X.mem).length ≤ X.mem ∧ HAt B w0 w' hb X Pl (c :: R) := by
 obtain ⟨K, N, hO, hK, hPl⟩ := h
 exact (calls_any hb B X K N _ w0 w hO 0 1 rfl rfl hK (hK.mv.sub (.cons _ (.cons _ (List.sublist_append_left _ _)))) hG.mem.2 (hG.bd K) (fun i i0 i1 => (hG.pos i i0 i1).mono (by decide)) hG.pbd).mono fun e w' ⟨v, c, h1, h2, h3, h4⟩ => ⟨v, c, h1, h2, h3, K, N, h4.sink, hK, hPl⟩
end
section
variable {hb B : Nat} {X : HM} {Pl R R0 : List (Option Blk)} {w0 w : World} (K : GK) (h : HAt B w0 w hb X Pl R) (hI : GIn R0 X K) (hs : R0.Sublist R) (hX : GG X)
include h hI hs hX
theorem rWorst (i : Int) (hi : X.is i) : Calls Try.prog 83 #[.agg (ghL X K).toArray, iv i] w fun e w' => e = .returned (.tuple #[iv (wstF (lossF X.mv (X.acct i).pos) X.k).1, iv (wstF (lossF X.mv (X.acct i).pos) X.k).2]) ∧ HAt B w0 w' hb X Pl R :=
 h.call1 (Q := fun e => e = _) fun H hO hs' => gWorst_any X K i R0 B H w0 w hO hI (hs.trans hs') hX.w hi
theorem rMargin (i : Int) (hi : X.is i) : Calls Try.prog 85 #[.agg (ghL X K).toArray, iv i] w fun e w' => e = .returned (iv (X.need (X.acct i))) ∧ HAt B w0 w' hb X Pl R :=
 h.call1 (Q := fun e => e = _) fun H hO hs' => gMargin_any X K i R0 B H w0 w hO hI (hs.trans hs') hX.w hi
theorem rTotal : Calls Try.prog 87 #[.agg (ghL X K).toArray] w fun e w' => e = .returned (iv X.total) ∧ HAt B w0 w' hb X Pl R :=
 h.call1 (Q := fun e => e = _) fun H hO hs' => gTotal_any X K R0 B H w0 w hO hI (hs.trans hs') hX
theorem rStress (s : Int) (hS : X.hasS s) : Calls Try.prog 86 #[.agg (ghL X K).toArray, iv s] w fun e w' => ∃ c, (∃ v, e = .returned v ∧ IRow v 2 X.mem (fun j => iv (X.stA s j)) c) ∧ HAt B w0 w' hb X Pl (c :: R) :=
 h.call2 (Q := fun e c => ∃ v, e = .returned v ∧ IRow v 2 X.mem (fun j => iv (X.stA s j)) c) fun H hO hs' => (gStress_any X K s R0 B H w0 w hO hI (hs.trans hs') hX hS).mono fun e w' ⟨v, c, h1, h2, h3⟩ => ⟨c, ⟨v, h1, h2⟩, h3⟩
theorem rCalls : Calls Try.prog 80 #[.agg (ghL X K).toArray] w fun e w' => ∃ c, (∃ v, e = .returned v ∧ IRow v 3 (X.cls X.mem).length (fun i => iv (glH (X.cls X.mem) i)) c) ∧ HAt B w0 w' hb X Pl (c :: R) :=
 h.call2 (Q := fun e c => ∃ v, e = .returned v ∧ IRow v 3 (X.cls X.mem).length (fun i => iv (glH (X.cls X.mem) i)) c) fun H hO hs' => (gCalls_any X K R0 B H w0 w hO hI (hs.trans hs') hX).mono fun e w' ⟨v, c, h1, h2, _, h3⟩ => ⟨c, ⟨v, h1, h2⟩, h3⟩
end
theorem rLongs {hb B : Nat} {X : HM} {Pl R : List (Option Blk)} {w0 w : World} (h : HAt B w0 w hb X Pl R) {ao bo : Option Addr} {n c d : Nat} {f g : Int → Int} (ha : SrcI R ao n f) (hb' : SrcI R bo n g) (hfg : ∀ i : Int, 0 ≤ i → i < n → f i = g i) (hn : n ≤ 1000000) :
  Calls Try.prog 84 #[.slice ao n c, .slice bo n d] w fun e w' => e = .returned (.bool true) ∧ HAt B w0 w' hb X Pl R :=
 h.call1 (Q := fun e => e = _) fun H hO hs => longs_any ao bo n c d B f g H w0 w hO (ha.sub hs) (hb'.sub hs) hfg hn
theorem rInts {hb B : Nat} {X : HM} {Pl R : List (Option Blk)} {w0 w : World} (h : HAt B w0 w hb X Pl R) {ao bo : Option Addr} {n c d : Nat} {f g : Int → Int} (ha : SrcI R ao n f) (hb' : SrcI R bo n g) (hfg : ∀ i : Int, 0 ≤ i → i < n → f i = g i) (hn : n ≤ 1000000) :
  Calls Try.prog 81 #[.slice ao n c, .slice bo n d] w fun e w' => e = .returned (.bool true) ∧ HAt B w0 w' hb X Pl R :=
 h.call1 (Q := fun e => e = _) fun H hO hs => ints_any ao bo n c d B f g H w0 w hO (ha.sub hs) (hb'.sub hs) hfg hn
theorem srcRow {E : TypeId} {a : Option Addr} {n p k : Nat} {g : Int → Int} {c : Option Blk} {R : List (Option Blk)} (h : IRow (.slice a n p) E n (fun m => iv (g m)) c) (hk : R[k]? = some c) : SrcI R a n g := fun _ _ _ hO => h.reads hO k hk
end Go.Proofs.Ytfbbagnpdfafjaa
