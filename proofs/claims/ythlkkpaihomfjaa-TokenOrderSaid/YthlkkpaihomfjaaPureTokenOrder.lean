import Derived.Test.YthlkkpaihomfjaaTags
namespace Go.Proofs.Ythlkkpaihomfjaa.Pure
open Go.RowKit Go.Proofs.Ythlkkpaihomfjaa.MTok Go.Proofs.YthlkkpaihomfjaaW.PrintWords Go.Proofs.YthlkkpaihomfjaaW.PrintLast

theorem TokenOrder : intarsialaw23_TokenOrder.Pure := fun l0 l1 _ _ _ _ _ _ => ⟨41, Tags.order l0 l1⟩

end Go.Proofs.Ythlkkpaihomfjaa.Pure
