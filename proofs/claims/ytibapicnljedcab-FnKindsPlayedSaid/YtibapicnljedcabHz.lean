/- Words of this session for two blocks made in one statement. -/
import Derived.Test.YtibapicnljedcabHy
namespace Go.Proofs.Ytibapicnljedcab.Hz
open Go.RowKit Go.Proofs.YtibapicnljedcabW.PrintWords Go.Proofs.YtibapicnljedcabW.PrintLast Go.Proofs.YtibapicnljedcabW.PrintMore

end Go.Proofs.Ytibapicnljedcab.Hz
