/- The contracts of the reference that writes and reads numbers and single strings. -/
import Derived.Test.YtjkmblbonambjaaOct
import Derived.Test.YtjkmblbonambjaaSRef
namespace Go.Proofs.Ytjkmblbonambjaa
set_option maxRecDepth 100000
open Go.RowKit
attribute [local irreducible] bin un conv call callV blt slc fldA fld idxA idx lkp mUpd mEnt eSt rng nxt ent ext alc box bld bldS ld sto nilC mkMap mkS ifc pick rdy wts gsel sti cond retM Gives cCode cGrp cSeq cOp




end Go.Proofs.Ytjkmblbonambjaa
