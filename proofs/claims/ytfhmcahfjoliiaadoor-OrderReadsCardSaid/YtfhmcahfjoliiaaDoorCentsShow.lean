/- cents.Show and its reference -/
import Derived.Test.YtfhmcahfjoliiaaDoorDec
import Derived.Test.YtfhmcahfjoliiaaDoorPart
import Derived.Test.YtfhmcahfjoliiaaDoorShelf
import Derived.Deep.RegionHeld3
import Derived.Shelf.Unicode.PredsPay
namespace Go.Proofs.YtfhmcahfjoliiaaDoor
set_option linter.unusedSimpArgs false
set_option linter.unusedVariables false
open Go.RowKit
set_option maxRecDepth 20000

abbrev PowTab (w : World) : Prop := Go.Lib.TabIs Tryd.prog w "internal/strconv.uint64pow10" .u64 Go.Lib.pow10Tab
theorem PowTab.below {w w' : World} (h : PowTab w) (hb : Below w.heap.size w w') : PowTab w' := TabIs_below (g := 4) (by kernel_rfl) h hb
theorem grow_grew (w : World) (k : Nat) (os : Array Obj) : Below w.heap.size w (Go.Sort.grow (w.drewN k) os) :=
  ⟨rfl, rfl, rfl, by simp [Go.Sort.grow], fun i hi => by simp [Go.Sort.grow, Array.getElem?_append, show i < w.heap.size from hi]⟩
theorem Itoa_nat (n : Nat) (w : World) (hn : n < 9223372036854775808) (ht : PowTab w) : Calls Tryd.prog 20 #[I n] w (Grew (.string (decS n)) w) := by
  refine (Tryd.strconv_Itoa (n : Int) (by omega) (by omega) w ht).mono ?_
  rintro e w' ⟨rfl, k, os, rfl⟩
  refine ⟨?_, grow_grew _ _ _⟩
  have : Go.Lib.itoa (n : Int) = Go.Lib.decDigits n := by unfold Go.Lib.itoa; rw [if_neg (by omega), Int.toNat_natCast]
  rw [this]; rfl
/-- whole and last, with a point -/
def bodyS (m : Nat) : ByteArray := decS (m / 100) ++ (⟨#[46]⟩ ++ (decS (m / 10 % 10) ++ decS (m % 10)))
def centsS (n : Int) : ByteArray := if n < 0 then ⟨#[45]⟩ ++ bodyS n.natAbs else bodyS n.natAbs
def showE (n : Int) : Int := if inB n (-1000000000000) 1000000000000 then 0 else 2
def showV (n : Int) : ByteArray := if inB n (-1000000000000) 1000000000000 then centsS n else ⟨#[]⟩
def ShowP (n : Int) (w : World) (e : Ending) (w' : World) : Prop := Grew (T2 (.string (showV n)) (I (showE n))) w e w'
end Go.Proofs.YtfhmcahfjoliiaaDoor
