/- Words that the proofs of this claim lean on: those of the printed words that are named here, taken out of the printed text by a program of ours. -/
import Derived.Test.YtinhpbmoiamepaaGreatDoorWN
/-! ### 48. N's events: append, a whole row appended, zeros appended, literals, make, stores, cuts, an element taken out -/
namespace Go.Proofs.YtinhpbmoiamepaaGreatDoorW.PrintWords
open Go.RowKit
namespace Kd
end Kd
end Go.Proofs.YtinhpbmoiamepaaGreatDoorW.PrintWords
