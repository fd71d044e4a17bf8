/-
  Entries put into a map that the call has just made, its keys whole numbers: by run equations.
-/
import Derived.Test.YtpallcggmaheoaaDoorProg
import Derived.MapFrom
import Derived.Maps.OwnSet
import Derived.WalkKit
import Derived.WalkLawsBesides
import Derived.WalkSpells
import Derived.Outline
import Derived.Below
import Derived.Deep.QuietTactic
import Derived.BigQuiet
import Derived.Lib.Hide
import Derived.Test.YtpallcggmaheoaaDoorWWords
import Derived.Test.YtpallcggmaheoaaDoorWMore
namespace Go.Proofs.YtpallcggmaheoaaDoor
open Go.RowKit Go.MapKept
open Go.Proofs.YtpallcggmaheoaaDoorW.PrintWords Go.Proofs.YtpallcggmaheoaaDoorW.PrintMore

theorem alloc_block (w : World) (o : Obj) : (w.alloc o).heap[w.heap.size]? = some o := (MapKept.heap_alloc w o).1
end Go.Proofs.YtpallcggmaheoaaDoor
