/- StreamBlocks over numbers and lists alone. Conditions: none but the row's own. -/
import Derived.Test.YtomflcpebnebpaaPureA
namespace Go.Proofs.Ytomflcpebnebpaa.Pure
open Go.RowKit Go.Proofs.Ytomflcpebnebpaa.PStr Go.Proofs.YtomflcpebnebpaaW.PrintWords Go.Proofs.YtomflcpebnebpaaW.PrintLast
theorem StreamBlocks : dovecotelaw05_StreamBlocks.Pure := StreamBlocks_pure
end Go.Proofs.Ytomflcpebnebpaa.Pure
