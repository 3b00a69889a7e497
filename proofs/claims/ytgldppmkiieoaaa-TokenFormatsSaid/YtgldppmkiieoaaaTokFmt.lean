/- token.Format, ref.Formatted -/
import Derived.Test.YtgldppmkiieoaaaTokNum
import Derived.Test.YtgldppmkiieoaaaShowProg
import Derived.Test.YtgldppmkiieoaaaShowRef
namespace Go.Proofs.Ytgldppmkiieoaaa
open Go.RowKit
set_option maxRecDepth 20000

/-- k noughts ahead of a text -/
def zs (k : Nat) (B : ByteArray) : ByteArray := ⟨(Go.Lib.repeatL [48] k ++ B.data.toList).toArray⟩
theorem zs_zero (B : ByteArray) : zs 0 B = B := by
  unfold zs; simp [Go.Lib.repeatL]
theorem zs_succ (k : Nat) (B : ByteArray) : (⟨#[48]⟩ : ByteArray) ++ zs k B = zs (k + 1) B := by
  apply ByteArray.ext
  apply Array.toList_inj.1
  simp [zs, Go.Lib.repeatL, ByteArray.data_append]
theorem zs_size (k : Nat) (B : ByteArray) : (zs k B).size = k + B.size := by
  show (zs k B).data.size = _
  unfold zs
  have h := Go.Lib.repeatL_length [48] k
  simp only [List.length_cons, List.length_nil, Nat.mul_one, Nat.zero_add] at h
  simp [h]
theorem zs_cat (k : Nat) (B : ByteArray) : (⟨(Go.Lib.repeatL [48] k).toArray⟩ : ByteArray) ++ B = zs k B := by
  apply ByteArray.ext
  apply Array.toList_inj.1
  simp [zs, ByteArray.data_append]
def strLen : Value → Nat | .string s => s.size | _ => 0
def GrewFmt (N : Nat) (w : World) (e : Ending) (w' : World) : Prop := ∃ L, IsLen N L ∧ e = .returned (T2 (.string (zs (20 - L) (showB N L))) (I 0)) ∧ Below w.heap.size w w'
theorem Format_bad (x : AToken) (w : World) (h : tokFault x ≠ 0) : Calls Try.prog 34 #[.agg x.cells.toArray] w (Grew (T2 (.string ⟨#[]⟩) (I (tokFault x))) w) := by
  have B := Lib.hid (fun W => Words_bad x W h)
  generalize tokFault x = r at *
  obtain ⟨c, i, m, t⟩ := x
  show Calls Try.prog 34 #[.agg #[I c, I i, I m, I t]] w _
  have k0 := boxed_below w (.cells #[I c, I i, I m, I t] 45)
  go_enter Try.func34, Try.ntmps34
  go_wp2_with fail
  refine (B.out _).mono ?_
  rintro e w1 ⟨rfl, k1⟩
  have kk := k0.trans (k1.mono k0.size)
  clear k0 k1
  go_wp2
  go_ret2
  exact ⟨rfl, (by repeat first | exact Below.refl _ _ | assumption | refine drewN_below ?_ _ | refine Below.alloc ?_ (by first | exact Nat.le_refl _ | exact Below.size (by assumption) | (simp; done) | (simp; omega) | omega) _ | refine Below.setCell ?_ (by first | exact Nat.le_refl _ | (simp; done) | (simp; omega) | omega) _)⟩
theorem Formatted_bad (x : AToken) (w : World) (h : tokFault x ≠ 0) : Calls Try.prog 35 #[.agg x.cells.toArray] w (Grew (T2 (.string ⟨#[]⟩) (I (tokFault x))) w) := by
  have B := Lib.hid (fun W => TokenFault_any x W)
  generalize tokFault x = r at *
  obtain ⟨c, i, m, t⟩ := x
  show Calls Try.prog 35 #[.agg #[I c, I i, I m, I t]] w _
  have k0 := boxed_below w (.cells #[I c, I i, I m, I t] 45)
  go_enter Try.func35, Try.ntmps35
  go_wp2_with fail
  refine (B.out _).mono ?_
  rintro e w1 ⟨rfl, k1⟩
  have kk := k0.trans (k1.mono k0.size)
  clear k0 k1
  go_wp2
  go_ret2
  exact ⟨rfl, (by repeat first | exact Below.refl _ _ | assumption | refine drewN_below ?_ _ | refine Below.alloc ?_ (by first | exact Nat.le_refl _ | exact Below.size (by assumption) | (simp; done) | (simp; omega) | omega) _ | refine Below.setCell ?_ (by first | exact Nat.le_refl _ | (simp; done) | (simp; omega) | omega) _)⟩
set_option maxHeartbeats 4000000 in
theorem Format_good (c i m t : Nat) (w : World) (h : tokFault ⟨c, i, m, t⟩ = 0) : Calls Try.prog 34 #[.agg #[I c, I i, I m, I t]] w (GrewFmt (tokN c i m t) w) := by
  have hlt := tokN_lt h
  have W := Lib.hid (fun W => Words_good c i m t W h)
  have hv := val_digits (P := tokN c i m t) (by omega)
  have S := Lib.hid (fun W => Show_any (tokN c i m t % 4294967296) (tokN c i m t / 4294967296 % 4294967296) (tokN c i m t / 18446744073709551616 % 4294967296) W (mod_lt32 _) (mod_lt32 _) (mod_lt32 _))
  rw [hv] at S
  clear hv h
  generalize tokN c i m t = N at *
  generalize N % 4294967296 = n0 at *
  generalize N / 4294967296 % 4294967296 = n1 at *
  generalize N / 18446744073709551616 % 4294967296 = n2 at *
  have k0 := boxed_below w (.cells #[I c, I i, I m, I t] 45)
  go_enter Try.func34, Try.ntmps34
  go_wp2_with fail
  refine (W.out _).mono ?_
  rintro e w1 ⟨rfl, k1⟩
  have kk := k0.trans (k1.mono k0.size)
  have kA := boxed_below w1 (.cells #[U32 n0, U32 n1, U32 n2] 24)
  have kk2 := kk.trans (kA.mono kk.size)
  clear k0 k1 kk kA
  go_wp2_with fail
  refine (S.out _).mono ?_
  rintro e w2 ⟨L, hL, rfl, k2⟩
  have hL20 : L ≤ 20 := hL.le (m := 20) (by omega) (by decide)
  have kk3 := kk2.trans (k2.mono kk2.size)
  have hsz := showB_size N L
  have R := Lib.hid (fun T => Try.strings_Repeat ⟨#[48]⟩ (20 - L) T (by omega) (by show 1 * (20 - L) ≤ _; omega))
  have hc := Lib.hid (show (⟨(Go.Lib.repeatL (⟨#[48]⟩ : ByteArray).data.toList (20 - L)).toArray⟩ : ByteArray) ++ showB N L = zs (20 - L) (showB N L) from zs_cat _ _)
  have h20 : (20 : Int) - (L : Int) = ((20 - L : Nat) : Int) := by omega
  rw [← h20] at R
  have hzl : (⟨(Go.Lib.repeatL (⟨#[48]⟩ : ByteArray).data.toList (20 - L)).toArray⟩ : ByteArray).size = 20 - L := by
    have h1 := Go.Lib.repeatL_length [48] (20 - L)
    simp only [List.length_cons, List.length_nil, Nat.mul_one, Nat.zero_add] at h1
    show (Go.Lib.repeatL [48] (20 - L)).toArray.size = _
    simp [h1]
  generalize (⟨(Go.Lib.repeatL (⟨#[48]⟩ : ByteArray).data.toList (20 - L)).toArray⟩ : ByteArray) = z at *
  have hzl2 : ¬ 9223372036854775807 < z.size + L := by omega
  generalize hBB : showB N L = B at *
  generalize hFF : zs (20 - L) B = F at hc
  have hF : Hid (zs (20 - L) (showB N L) = F) := by unfold Hid; rw [hBB]; exact hFF
  clear hFF hBB
  clear kk2 k2 h20
  go_wp2_with fail
  refine (R.out _).mono ?_
  rintro e w3 ⟨rfl, k3⟩
  have kk4 := kk3.trans (k3.mono kk3.size)
  clear kk3 k3 R
  have HC := Lib.hid (And.intro hc.out (And.intro hzl hsz))
  clear hzl
  go_wp2
  go_ret2
  refine ⟨L, hL, ?_, kk4⟩
  rw [hF.out, ← hc.out]
  rfl
end Go.Proofs.Ytgldppmkiieoaaa
