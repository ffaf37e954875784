/- The parts of a sequence. No statement of the seat is proved here. -/
import Derived.Test.YtgbokmphbimihaaDoorBase
namespace Go.Proofs.YtgbokmphbimihaaDoor
set_option linter.unusedSimpArgs false
set_option linter.unusedVariables false
open Go.RowKit

def fstC : Code → Code | .seq x _ => x | c => c
def sndC : Code → Code | .seq _ y => y | c => c
end Go.Proofs.YtgbokmphbimihaaDoor
