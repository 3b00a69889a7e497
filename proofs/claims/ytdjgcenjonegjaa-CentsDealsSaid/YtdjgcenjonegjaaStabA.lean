/- two stretches of a row exchanged, and a rotation: the library's two helpers -/
import Derived.Test.YtdjgcenjonegjaaDealLaw
import Derived.Test.YtdjgcenjonegjaaBase
import Derived.Shelf.SlSortCmp.Kit1
import Derived.Sort.WalkB2
import Derived.Sort.WalkB12
import Derived.Deep.LoopGhost
namespace Go.Proofs.Ytdjgcenjonegjaa
open Go.RowKit Go.Shelf Go.Lib Go.Sort
set_option maxRecDepth 20000
variable {α : Type} [Inhabited α]

/- the exchange of dk[$1] and dk[$2] (naturals; as integers $3, $4), the row's fact $5 at the world $6; the new fact is S2 -/

set_option maxHeartbeats 4000000 in
/-- n elements from x on against n from y on -/
theorem swapRange_any (v : α → Int) (fv : Value) (blk off cap x y n : Nat) (d0 d : Array α) (w0 w : World) (R : Row1 (fun x => Value.int .i64 (v x)) w0 blk off d0) (hs : d0.size = d.size) (S : SW (fun x => Value.int .i64 (v x)) w0 blk off d w)
    (hx : x + n ≤ y) (hy : y + n ≤ d.size) (hsz : d.size < 4611686018427387904) :
    Calls Try.prog 17 #[.slice (some ⟨blk, off, none⟩) d.size cap, .int .i64 x, .int .i64 y, .int .i64 n, fv] w fun e w' => e = .returned (.tuple #[]) ∧ ∃ d', Swr d d' x y n ∧ SW (fun x => Value.int .i64 (v x)) w0 blk off d' w' := by
  have mixed : Try.prog.follows .mixedOrders = true := by kernel_rfl
  have S0 : Aside _ := S
  clear S
  go_enter Try.func17, Try.ntmps17
  go_wp2
  go_loopg [10] n (fun kx s10 wr => ∃ (i : Nat) (dk : Array α), s10 = .int .i64 i ∧ i ≤ n ∧ n - i ≤ kx ∧ Hid (Swr d dk x y i) ∧ Aside (SW (fun x => Value.int .i64 (v x)) w0 blk off dk wr))
  case atStart => exact ⟨0, d, rfl, Nat.zero_le _, by omega, Swr.none _ _ _, S0⟩
  case round =>
    clear S0
    obtain ⟨i, dk, rfl, hi, hkx, hd, S1⟩ := hrel
    have hds : dk.size = d.size := hd.out.sz
    by_cases hlt : (i : Int) < (n : Int)
    · have hd2 := Lib.hid (hd.out.step (k := i) (by omega) (by omega))
      clear hd
      go_wp2_with fail
      obtain ⟨ia, hia⟩ : ∃ zz : Nat, zz = x + i := ⟨_, rfl⟩
      obtain ⟨ib, hib⟩ : ∃ zz : Nat, zz = y + i := ⟨_, rfl⟩
      obtain ⟨xa, hxa⟩ : ∃ zz : α, zz = dk[x + i]! := ⟨_, rfl⟩
      obtain ⟨xb, hxb⟩ : ∃ zz : α, zz = dk[y + i]! := ⟨_, rfl⟩
      have S2 : Aside (SW (fun x => Value.int .i64 (v x)) w0 blk off (swp dk (x + i) (y + i)) ((wr.setCell ⟨blk, off + ia, none⟩ (.int .i64 (v xb))).setCell ⟨blk, off + ib, none⟩ (.int .i64 (v xa))).drew) := by rw [hia, hib, hxa, hxb]; exact S1.out.swapped R (x + i) (y + i) (by omega) (by omega)
      have ca : wr.cell? ⟨blk, off + ia, none⟩ = some (.int .i64 (v xa)) := by rw [hia, hxa]; exact S1.out.c1 R (by omega) (x + i) (by omega)
      have cb : wr.cell? ⟨blk, off + ib, none⟩ = some (.int .i64 (v xb)) := by rw [hib, hxb]; exact S1.out.c1 R (by omega) (y + i) (by omega)
      have fa : wr.frozen? ⟨blk, off + ia, none⟩ = false := by rw [hia]; exact S1.out.f1 R (by omega) (x + i) (by omega)
      have fb : wr.frozen? ⟨blk, off + ib, none⟩ = false := by rw [hib]; exact S1.out.f1 R (by omega) (y + i) (by omega)
      have cc : ∃ u, (wr.setCell ⟨blk, off + ia, none⟩ (.int .i64 (v xb))).cell? ⟨blk, off + ib, none⟩ = some u := by rw [hia, hib]; exact S1.out.c2 R (by omega) (x + i) (y + i) (by omega) (by omega) _
      obtain ⟨u, cc⟩ := cc
      have ea : (((x : Int) + (i : Int) : Int)).toNat = ia := by omega
      have pa : (0 : Int) ≤ (x : Int) + (i : Int) := by omega
      have ba : ((x : Int) + (i : Int) : Int) < (d.size : Int) := by omega
      have ra : IntKind.i64.wrap ((x : Int) + (i : Int)) = (x : Int) + (i : Int) := by rw [IntKind.wrap_i64]; omega
      have eb : (((y : Int) + (i : Int) : Int)).toNat = ib := by omega
      have pb : (0 : Int) ≤ (y : Int) + (i : Int) := by omega
      have bb : ((y : Int) + (i : Int) : Int) < (d.size : Int) := by omega
      have rb : IntKind.i64.wrap ((y : Int) + (i : Int)) = (y : Int) + (i : Int) := by rw [IntKind.wrap_i64]; omega
      clear S1 hia hib hxa hxb
      go_wp2_with fail
      go_big_region_o
      clear ca cb cc fa fb
      generalize ((wr.setCell ⟨blk, off + ia, none⟩ (.int .i64 (v xb))).setCell ⟨blk, off + ib, none⟩ (.int .i64 (v xa))).drew = w2 at S2 ⊢
      clear ea eb pa pb ba bb ra rb
      go_wp2
      go_roundg (n - (i + 1))
      case measure => omega
      case rel => exact ⟨i + 1, _, by go_num, by omega, by omega, hd2, S2⟩
    · have e : i = n := by omega
      subst e
      go_wp2
      go_end0
      exact ⟨rfl, dk, hd.out, S1.out⟩

theorem swapRange_int (v : α → Int) (fv : Value) (blk off cap x y n : Nat) (d0 d : Array α) (w0 w : World) (R : Row1 (fun x => Value.int .i64 (v x)) w0 blk off d0) (hs : d0.size = d.size) (S : SW (fun x => Value.int .i64 (v x)) w0 blk off d w)
    (hx : x + n ≤ y) (hy : y + n ≤ d.size) (hsz : d.size < 4611686018427387904) (len : Nat) (hl : len = d.size) (xi yi ni : Int) (ex : xi = x) (ey : yi = y) (en : ni = n) :
    Calls Try.prog 17 #[.slice (some ⟨blk, off, none⟩) len cap, .int .i64 xi, .int .i64 yi, .int .i64 ni, fv] w fun e w' => e = .returned (.tuple #[]) ∧ ∃ d', Swr d d' x y n ∧ SW (fun x => Value.int .i64 (v x)) w0 blk off d' w' := by
  subst ex ey en hl; exact swapRange_any v fv blk off cap x y n d0 d w0 w R hs S hx hy hsz

set_option maxHeartbeats 4000000 in
/-- [a, m) and [m, b) turned about -/
theorem rotate_any (v : α → Int) (fv : Value) (blk off cap a m b : Nat) (d0 d : Array α) (w0 w : World) (R : Row1 (fun x => Value.int .i64 (v x)) w0 blk off d0) (hs : d0.size = d.size) (S : SW (fun x => Value.int .i64 (v x)) w0 blk off d w)
    (ha : a < m) (hm : m < b) (hb : b ≤ d.size) (hsz : d.size < 4611686018427387904) :
    Calls Try.prog 16 #[.slice (some ⟨blk, off, none⟩) d.size cap, .int .i64 a, .int .i64 m, .int .i64 b, fv] w fun e w' => e = .returned (.tuple #[]) ∧ ∃ d', Rot d d' a m b ∧ SW (fun x => Value.int .i64 (v x)) w0 blk off d' w' := by
  have S0 : Aside _ := S
  clear S
  go_enter Try.func16, Try.ntmps16
  go_wp2
  go_loopg [10, 11] (b - a) (fun kx s10 s11 wr => ∃ (i j : Nat) (dk : Array α), s10 = .int .i64 i ∧ s11 = .int .i64 j ∧ 0 < i ∧ 0 < j ∧ i ≤ m ∧ m + j ≤ b ∧ i + j ≤ kx ∧ dk.size = d.size ∧ Hid (∀ d', Rot dk d' (m - i) m (m + j) → Rot d d' a m b) ∧ Aside (SW (fun x => Value.int .i64 (v x)) w0 blk off dk wr))
  case atStart => exact ⟨m - a, b - m, d, by go_num, by go_num, by omega, by omega, by omega, by omega, by omega, rfl, (fun d' h => by rwa [show m - (m - a) = a by omega, show m + (b - m) = b by omega] at h), S0⟩
  case round =>
    clear S0
    obtain ⟨i, j, dk, rfl, rfl, i0, j0, im, jb, hk, hds, hd, S1⟩ := hrel
    by_cases h1 : j < i
    · have c1 : (i : Int) ≠ (j : Int) := by omega
      have c2 : (j : Int) < (i : Int) := by omega
      have C := Lib.hid (swapRange_int v fv blk off cap (m - i) m j d0 dk w0 wr R (by omega) S1.out (by omega) (by omega) (by omega) d.size hds.symm ((m : Int) - (i : Int)) m j (by omega) rfl rfl)
      clear S1
      go_wp2_with (go_at_call 17; refine C.out.mono ?_; rintro e w2 ⟨rfl, d2, hr, S2⟩; have S2 := Lib.hid S2)
      go_roundg (i - j + j)
      case measure => omega
      case rel => exact ⟨i - j, j, d2, by go_num, rfl, by omega, j0, by omega, jb, by omega, hr.sz.trans hds, (fun d' h => hd.out d' (Rot.of_gt im h1 hr h)), S2⟩
    · by_cases h2 : i < j
      · have c1 : (i : Int) ≠ (j : Int) := by omega
        have c2 : ¬ (j : Int) < (i : Int) := by omega
        have C := Lib.hid (swapRange_int v fv blk off cap (m - i) (m + j - i) i d0 dk w0 wr R (by omega) S1.out (by omega) (by omega) (by omega) d.size hds.symm ((m : Int) - (i : Int)) ((m : Int) + (j : Int) - (i : Int)) i (by omega) (by omega) rfl)
        clear S1
        go_wp2_with (go_at_call 17; refine C.out.mono ?_; rintro e w2 ⟨rfl, d2, hr, S2⟩; have S2 := Lib.hid S2)
        go_roundg (i + (j - i))
        case measure => omega
        case rel => exact ⟨i, j - i, d2, rfl, by go_num, i0, by omega, im, by omega, by omega, hr.sz.trans hds, (fun d' h => hd.out d' (Rot.of_lt im h2 hr h)), S2⟩
      · have e : j = i := by omega
        subst e
        have C := Lib.hid (swapRange_int v fv blk off cap (m - j) m j d0 dk w0 wr R (by omega) S1.out (by omega) (by omega) (by omega) d.size hds.symm ((m : Int) - (j : Int)) m j (by omega) rfl rfl)
        clear S1
        go_wp2_with (go_at_call 17; refine C.out.mono ?_; rintro e w2 ⟨rfl, d2, hr, S2⟩; have S2 := Lib.hid S2)
        go_end0
        exact ⟨rfl, d2, hd.out d2 (Rot.of_eq im hr), S2.out⟩
theorem rotate_int (v : α → Int) (fv : Value) (blk off cap a m b : Nat) (d0 d : Array α) (w0 w : World) (R : Row1 (fun x => Value.int .i64 (v x)) w0 blk off d0) (hs : d0.size = d.size) (S : SW (fun x => Value.int .i64 (v x)) w0 blk off d w)
    (ha : a < m) (hm : m < b) (hb : b ≤ d.size) (hsz : d.size < 4611686018427387904) (len : Nat) (hl : len = d.size) (ai mi bi : Int) (ea : ai = a) (em : mi = m) (eb : bi = b) :
    Calls Try.prog 16 #[.slice (some ⟨blk, off, none⟩) len cap, .int .i64 ai, .int .i64 mi, .int .i64 bi, fv] w fun e w' => e = .returned (.tuple #[]) ∧ ∃ d', Rot d d' a m b ∧ SW (fun x => Value.int .i64 (v x)) w0 blk off d' w' := by
  subst ea em eb hl; exact rotate_any v fv blk off cap a m b d0 d w0 w R hs S ha hm hb hsz
end Go.Proofs.Ytdjgcenjonegjaa
