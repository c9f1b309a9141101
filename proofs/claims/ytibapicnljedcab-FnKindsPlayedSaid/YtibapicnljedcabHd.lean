/- Words of this session for slices.Delete in a row that a call owns. -/
import Derived.Lib.LazyBuf
import Derived.Lib.SliceRun
import Derived.Test.YtibapicnljedcabHw
namespace Go.Proofs.Ytibapicnljedcab.Hw
open Go.RowKit Go.Proofs.YtibapicnljedcabW.PrintWords Go.Proofs.YtibapicnljedcabW.PrintLast Go.Proofs.YtibapicnljedcabW.PrintMore

end Go.Proofs.Ytibapicnljedcab.Hw
