/- Words that the proofs of this claim lean on: those of the printed words that are named here, taken out of the printed text by a program of ours. -/
import Derived.Test.YtinhpbmoiamepaaGreatDoorWWords
/-! ### 41. Arrays '[n]T' as_ values: a kind (a field, an element of a row), an element read, an element set -/
namespace Go.Proofs.YtinhpbmoiamepaaGreatDoorW.PrintWords
open Go.RowKit
namespace Kd
end Kd
end Go.Proofs.YtinhpbmoiamepaaGreatDoorW.PrintWords
