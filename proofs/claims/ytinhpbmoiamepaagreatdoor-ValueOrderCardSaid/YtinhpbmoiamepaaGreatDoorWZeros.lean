/- Words that the proofs of this claim lean on: those of the printed words that are named here, taken out of the printed text by a program of ours. -/
import Derived.Test.YtinhpbmoiamepaaGreatDoorWApart
import Derived.Test.YtinhpbmoiamepaaGreatDoorWArr
/-! ### 42. append(v, make([]T, n)...): the operation comes as_ append with the number in the second place -/
namespace Go.Proofs.YtinhpbmoiamepaaGreatDoorW.PrintWords
open Go.RowKit
namespace Kd
/-! #### the same for rows whose elements lie apart -/
end Kd
end Go.Proofs.YtinhpbmoiamepaaGreatDoorW.PrintWords
