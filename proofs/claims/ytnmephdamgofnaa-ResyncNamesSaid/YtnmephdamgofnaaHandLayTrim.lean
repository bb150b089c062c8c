/- slices.Sort and slices.ContainsFunc at this cut: the shelf's contracts, laid. -/
import Derived.Test.YtnmephdamgofnaaProg
import Derived.Shelf.SlLaysM
import Derived.Shelf.SlLaysH
import Derived.Ground.SlgmProg
import Derived.Ground.SlgfProg
import Derived.Shelf.SortM.Plain
import Derived.Shelf.SlicesE.IndexFunc
import Derived.Shelf.SlGeneric
namespace Go.Proofs.Ytnmephdamgofnaa.Hand
open Go.Shelf
shelf_lay_g SlLaysM.n5 Slgm 5 at Try 42 as laysSort
shelf_lay_g SlLaysH.n8 Slgf 8 at Try 41 as laysAny
end Go.Proofs.Ytnmephdamgofnaa.Hand
