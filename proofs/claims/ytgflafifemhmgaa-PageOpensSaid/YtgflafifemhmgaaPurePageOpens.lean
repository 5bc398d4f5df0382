import Derived.Test.YtgflafifemhmgaaPages
namespace Go.Proofs.Ytgflafifemhmgaa.Pure
open Go.RowKit Go.Proofs.Ytgflafifemhmgaa.MPg Go.Proofs.Ytgflafifemhmgaa.Sums Go.Proofs.Ytgflafifemhmgaa.Crc
theorem PageOpens : intarsialaw06_PageOpens.Pure := fun l0 _ _ hw => ⟨3001, Pages.opens l0 (fun x hx => wf_byte (hw x hx))⟩
end Go.Proofs.Ytgflafifemhmgaa.Pure
