/- windows: the plain laws · words.Put -/
import Derived.Test.YtfhmcahfjoliiaaGreatDoorPk02
import Derived.Lib.ItoaNum
import Derived.Test.YtfhmcahfjoliiaaGreatDoorPk20
import Derived.Test.YtfhmcahfjoliiaaGreatDoorShelf
set_option maxRecDepth 20000
set_option maxHeartbeats 8000000
set_option linter.unusedSimpArgs false
set_option linter.unusedVariables false
namespace Go.Proofs.YtfhmcahfjoliiaaGreatDoor
section
open Go.RowKit

/-- the numbers that the lowest n bits tell, rising -/
def memb (high:Int) (b:Nat):Nat→List Int
  | 0=>[]
  | n+1=>if b.testBit n then (high-n)::memb high b n else memb high b n
/-- the length in bits -/
def bl (b:Nat):Nat:=Go.Lib.bitLen b
/-- a bit struck -/
def strike (b n:Nat):Nat:=b &&& (18446744073709551615-2^n)
/-- may a window be? -/
def mayW (high:Int) (b:Nat):Bool:=if high < 1 then high==0&&b==0 else decide (high≤1048575)&&(b%2==1&&decide ((bl b:Int)≤min high 64))
end
section
open Go.RowKit

def PutRel (W:World) (N lo v k:Nat) (wr:World):Prop:=
  ∃ x y z:Nat,(x < 4294967296∧y < 4294967296∧z < 4294967296)∧val [x,y,z]=putV N lo v k∧Own wr W.heap.size [U32 x,U32 y,U32 z]∧Own wr (W.heap.size+1) [U32 0,U32 0,U32 0]∧Below W.heap.size W wr
def GrewW2 (a b c:Nat) (er:Int) (w:World) (e:Ending) (w':World):Prop:=e=.returned (T2 (wideV a b c) (I er))∧Below w.heap.size w w'
end
end Go.Proofs.YtfhmcahfjoliiaaGreatDoor
