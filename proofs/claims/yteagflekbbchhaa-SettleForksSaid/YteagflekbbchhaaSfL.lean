import Derived.Test.YteagflekbbchhaaSfH
import Derived.Test.YteagflekbbchhaaSfE
set_option maxRecDepth 100000
namespace Go.Proofs.Yteagflekbbchhaa
open Go.RowKit Go.Proofs
theorem dlok {X : MW} {d : Dl} (h : bcode X d = 0) : d.Ok X ∧ X.deals.length < 1000 := by
 unfold bcode at h
 split at h; cases h
 next hb =>
 split at h; cases h
 split at h; cases h
 next hl =>
 unfold DlBad at hb
 unfold Dl.Ok
 refine ⟨⟨?_, ?_, ?_, ?_, ?_⟩, by omega⟩ <;> omega
end Go.Proofs.Yteagflekbbchhaa
