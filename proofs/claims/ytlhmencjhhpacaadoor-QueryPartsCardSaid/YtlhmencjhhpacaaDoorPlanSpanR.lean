/- cahierref20.span: the bounds that conditions give a column. -/
import Derived.Test.YtlhmencjhhpacaaDoorPlanSpan
namespace Go.Proofs.YtlhmencjhhpacaaDoor
open Go.RowKit

end Go.Proofs.YtlhmencjhhpacaaDoor
