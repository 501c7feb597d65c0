import Derived.Test.YteagflekbbchhaaSfM
set_option maxRecDepth 100000
namespace Go.Proofs.Yteagflekbbchhaa
open Go.RowKit Go.Proofs
theorem SrcI.of_row {H : List (Option Blk)} {ao : Option Addr} {E : TypeId} {n m cap k : Nat} {G : Int → Int} {c : Option Blk} (h : IRow (.slice ao m cap) E n (fun i => iv (G i)) c) (hk : H[k]? = some c) : SrcI H ao n G := fun _ _ _ hO => h.reads hO k hk
theorem SrcI.of_mem {H : List (Option Blk)} {ao : Option Addr} {E : TypeId} {n m cap : Nat} {G : Int → Int} {c : Option Blk} (h : IRow (.slice ao m cap) E n (fun i => iv (G i)) c) (hk : c ∈ H) : SrcI H ao n G := by
 obtain ⟨k, hk⟩ := List.getElem?_of_mem hk
 exact SrcI.of_row h hk
theorem lt100 {l : List Int} (h : ∀ x ∈ l, 0 ≤ x ∧ x < 100) : ∀ x ∈ l, 0 ≤ x ∧ x ≤ 1000000000000 := fun x hx => ⟨(h x hx).1, by have := (h x hx).2; omega⟩
structure Acts where
 kind : Int → Int
 d : Int → Dl
 n : Int → Int
 kept : Int → Int
def Acts.l (a : Acts) : Int → List Value := fun i => actl (a.kind i) (a.d i) (a.n i) (a.kept i)
theorem act_cfg (X : MW) (kind : Int) (d : Dl) (n kept : Int) : (X.act kind d n kept).mem = X.mem ∧ (X.act kind d n kept).f1 = X.f1 ∧ (X.act kind d n kept).f2 = X.f2 ∧ (X.act kind d n kept).pat = X.pat := by
 have key : ∀ Y, cfg Y = cfg X → Y.mem = X.mem ∧ Y.f1 = X.f1 ∧ Y.f2 = X.f2 ∧ Y.pat = X.pat := fun Y h => ⟨cfg_mem h, congrArg (fun p => p.2.2.2.1) h, congrArg (fun p => p.2.2.2.2) h, cfg_pat h⟩
 have kb : (X.begin d).mem = X.mem ∧ (X.begin d).f1 = X.f1 ∧ (X.begin d).f2 = X.f2 ∧ (X.begin d).pat = X.pat := by
  have h : cfg (X.begin d) = cfg { X with deals := X.deals ++ [d] } := cfg_turn { X with deals := X.deals ++ [d] } ((X.deals.length : Int) + 1) 1 1
  exact ⟨congrArg (fun p => p.1) h, congrArg (fun p => p.2.2.2.1) h, congrArg (fun p => p.2.2.2.2) h, congrArg (fun p => p.2.1) h⟩
 unfold MW.act
 dsimp only
 split
 ·split
  ·exact kb
  ·exact key X rfl
 ·refine key _ ?_
  split
  ·split
   ·unfold MW.deliver; rw [cfg_bring]; rfl
   ·rfl
  ·split
   ·split <;> rfl
   ·split
    ·split <;> rfl
    ·split
     ·split
      ·exact cfg_tick0 X n
      ·rfl
     ·split
      ·split
       ·exact cfg_crash X n kept
       ·rfl
      ·split
       ·split
        ·exact cfg_restart X n
        ·rfl
       ·split
        ·split
         ·exact cfg_unfuse X n _
         ·rfl
        ·exact cfg_heal X _
end Go.Proofs.Yteagflekbbchhaa
