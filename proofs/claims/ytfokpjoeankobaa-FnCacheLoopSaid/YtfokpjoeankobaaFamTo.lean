/- to at each type: a copy in new memory. No condition. -/
import Derived.Test.YtfokpjoeankobaaTypes
import Derived.Test.YtfokpjoeankobaaChecked
namespace Go.Proofs.Ytfokpjoeankobaa
set_option linter.unusedVariables false
set_option linter.unusedSimpArgs false
set_option linter.unnecessarySimpa false
open Go.RowKit

def sizePtr (x : PtrD) : Nat := 0
def sizeTree (x : TreeD) : Nat := 0
def sizeRoot (x : RootD) : Nat := 0
def sizeFound (x : FoundD) : Nat := x.1.size
def sizeThing (x : ThingD) : Nat := x.2.2.size
def sizeWait (x : WaitD) : Nat := x.2.size
def sizeOp (x : OpD) : Nat := x.2.1.size + x.2.2.1.size + x.2.2.2.2.size
def sizeHead (x : HeadD) : Nat := x.1.size + x.2.2.2.1.length
def sizeSnap (x : SnapD) : Nat := x.2.1.size + x.2.2.2.2.2.length
def sizeFlat (x : FlatD) : Nat := x.1.length + (x.1.map sizeFound).sum + x.2.length + (x.2.map sizeThing).sum
def sizeMeta (x : MetaD) : Nat := x.1.length + (x.1.map sizeHead).sum + x.2.1.length + (x.2.1.map sizeSnap).sum
def sizeCache (x : CacheD) : Nat := x.2.2.1.length + x.2.2.2.1.length + x.2.2.2.2.1.length + x.2.2.2.2.2.length
def sizeDisk (x : DiskD) : Nat := x.1.length + (x.1.map ByteArray.size).sum + x.2.1.length + (x.2.1.map sizeWait).sum
def sizeIntent (x : IntentD) : Nat := x.2.2.1.size + x.2.2.2.2.1.size + x.2.2.2.2.2.1.size + x.2.2.2.2.2.2.2.size











end Go.Proofs.Ytfokpjoeankobaa
