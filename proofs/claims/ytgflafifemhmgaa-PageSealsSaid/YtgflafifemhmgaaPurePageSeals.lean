import Derived.Test.YtgflafifemhmgaaSums
namespace Go.Proofs.Ytgflafifemhmgaa.Pure
open Go.RowKit Go.Proofs.Ytgflafifemhmgaa.MPg Go.Proofs.Ytgflafifemhmgaa.Sums Go.Proofs.Ytgflafifemhmgaa.Crc
theorem PageSeals : intarsialaw06_PageSeals.Pure := fun a0 a1 l2 _ _ _ _ hw => ⟨3000, seals a0 a1 l2 (fun x hx => wf_byte (hw x hx))⟩
end Go.Proofs.Ytgflafifemhmgaa.Pure
