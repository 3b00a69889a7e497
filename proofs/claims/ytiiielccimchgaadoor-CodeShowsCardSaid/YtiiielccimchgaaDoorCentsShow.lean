/- cents.Show and its reference -/
import Derived.Test.YtiiielccimchgaaDoorDec
import Derived.Test.YtiiielccimchgaaDoorPart
import Derived.Test.YtiiielccimchgaaDoorShelf
import Derived.Deep.RegionHeld3
import Derived.Shelf.Unicode.PredsPay
namespace Go.Proofs.YtiiielccimchgaaDoor
open Go.RowKit
set_option maxRecDepth 20000

abbrev PowTab (w : World) : Prop := Go.Lib.TabIs Tryd.prog w "internal/strconv.uint64pow10" .u64 Go.Lib.pow10Tab
theorem PowTab.below {w w' : World} (h : PowTab w) (hb : Below w.heap.size w w') : PowTab w' := TabIs_below (g := 2) (by kernel_rfl) h hb
theorem grow_grew (w : World) (k : Nat) (os : Array Obj) : Below w.heap.size w (Go.Sort.grow (w.drewN k) os) :=
  ⟨rfl, rfl, rfl, by simp [Go.Sort.grow], fun i hi => by simp [Go.Sort.grow, Array.getElem?_append, show i < w.heap.size from hi]⟩
theorem Itoa_nat (n : Nat) (w : World) (hn : n < 9223372036854775808) (ht : PowTab w) : Calls Tryd.prog 10 #[I n] w (Grew (.string (decS n)) w) := by
  refine (Tryd.strconv_Itoa (n : Int) (by omega) (by omega) w ht).mono ?_
  rintro e w' ⟨rfl, k, os, rfl⟩
  refine ⟨?_, grow_grew _ _ _⟩
  have : Go.Lib.itoa (n : Int) = Go.Lib.decDigits n := by unfold Go.Lib.itoa; rw [if_neg (by omega), Int.toNat_natCast]
  rw [this]; rfl
/-- whole and last, with a point -/
def bodyS (m : Nat) : ByteArray := decS (m / 100) ++ (⟨#[46]⟩ ++ (decS (m / 10 % 10) ++ decS (m % 10)))
def centsS (n : Int) : ByteArray := if n < 0 then ⟨#[45]⟩ ++ bodyS n.natAbs else bodyS n.natAbs
def showE (n : Int) : Int := if inB n (-1000000000000) 1000000000000 then 0 else 2
def showV (n : Int) : ByteArray := if inB n (-1000000000000) 1000000000000 then centsS n else ⟨#[]⟩
def ShowP (n : Int) (w : World) (e : Ending) (w' : World) : Prop := Grew (T2 (.string (showV n)) (I (showE n))) w e w'
theorem last_cut (m : Nat) : (decS (100 + m % 100)).size = 3 ∧ (decS (100 + m % 100)).extract 1 3 = decS (m / 10 % 10) ++ decS (m % 10) := by
  have h1 : decS (100 + m % 100) = decS 1 ++ (decS (m / 10 % 10) ++ decS (m % 10)) := by
    rw [decS_big (by omega), show (100 + m % 100) / 10 = 10 + m / 10 % 10 by omega, show (100 + m % 100) % 10 = m % 10 by omega]
    rw [decS_big (n := 10 + m / 10 % 10) (by omega), show (10 + m / 10 % 10) / 10 = 1 by omega, show (10 + m / 10 % 10) % 10 = m / 10 % 10 by omega, ByteArray.append_assoc]
  have s1 : ∀ k, k < 10 → (decS k).size = 1 := fun k hk => by rw [decS_small hk]; rfl
  have z1 := s1 1 (by decide)
  have z2 := s1 (m / 10 % 10) (by omega)
  have z3 := s1 (m % 10) (by omega)
  rw [h1]
  generalize decS 1 = a at *
  generalize decS (m / 10 % 10) = b at *
  generalize decS (m % 10) = c at *
  refine ⟨by rw [ByteArray.size_append, ByteArray.size_append]; omega, ?_⟩
  apply ByteArray.ext
  apply Array.toList_inj.1
  have la : a.data.toList.length = 1 := by rw [Array.length_toList]; exact z1
  have lb : b.data.toList.length = 1 := by rw [Array.length_toList]; exact z2
  have lc : c.data.toList.length = 1 := by rw [Array.length_toList]; exact z3
  rw [Go.Lib.extract_data]
  simp only [ByteArray.data_append, Array.toList_append]
  rw [List.drop_append_of_le_length (by omega), List.drop_of_length_le (by omega), List.nil_append, List.take_of_length_le (by simp; omega)]
theorem cat_pos (a b c : ByteArray) : (⟨#[]⟩ : ByteArray) ++ a ++ b ++ c = a ++ (b ++ c) := by
  apply ByteArray.ext
  apply Array.toList_inj.1
  simp [ByteArray.data_append]
theorem cat_neg (s a b c : ByteArray) : s ++ a ++ b ++ c = s ++ (a ++ (b ++ c)) := by
  apply ByteArray.ext
  apply Array.toList_inj.1
  simp [ByteArray.data_append]
theorem show_pos (m : Nat) (hm : m ≤ 1000000000000) : showV m = bodyS m ∧ showE m = 0 := by
  have hin : inB (m : Int) (-1000000000000) 1000000000000 = true := by rw [inB_true]; omega
  refine ⟨?_, by unfold showE; rw [hin]; rfl⟩
  unfold showV
  rw [hin]
  unfold centsS
  rw [if_pos rfl, if_neg (by omega), Int.natAbs_natCast]
theorem show_neg (m : Nat) (hm : m ≤ 1000000000000) (h0 : 0 < m) : showV (-(m : Int)) = ⟨#[45]⟩ ++ bodyS m ∧ showE (-(m : Int)) = 0 := by
  have hin : inB (-(m : Int)) (-1000000000000) 1000000000000 = true := by rw [inB_true]; omega
  refine ⟨?_, by unfold showE; rw [hin]; rfl⟩
  unfold showV
  rw [hin]
  unfold centsS
  rw [if_pos rfl, if_pos (by omega), Int.natAbs_neg, Int.natAbs_natCast]
end Go.Proofs.YtiiielccimchgaaDoor
