/- Which nodes may be, and their forms: the document's May, eight, Put (every input). -/
import Derived.Test.YtdekplalhfpooaaDoorNodF
set_option linter.unusedVariables false
set_option linter.unusedSimpArgs false
namespace Go.Proofs.YtdekplalhfpooaaDoor.Nod
open Go Go.RowKit Go.Proofs.YtdekplalhfpooaaDoorW.PrintWords Go.Proofs.YtdekplalhfpooaaDoorW.PrintLast Go.Proofs.YtdekplalhfpooaaDoorW.PrintMore Base Odr Hlp

end Go.Proofs.YtdekplalhfpooaaDoor.Nod
