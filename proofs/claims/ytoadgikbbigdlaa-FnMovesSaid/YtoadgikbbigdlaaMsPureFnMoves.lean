import Derived.Test.YtoadgikbbigdlaaMsBPL
namespace Go.Proofs.Ytoadgikbbigdlaa.Pure
open Go.RowKit Go.Proofs.Ytoadgikbbigdlaa.B
theorem FnMoves : laws_FnMoves.Pure := FnMoves_law
end Go.Proofs.Ytoadgikbbigdlaa.Pure
