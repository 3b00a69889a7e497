/- order.number: the number at the head of what is left of a line -/
import Derived.Test.YtfhmcahfjoliiaaDoorOrdJoin
import Derived.Test.YtfhmcahfjoliiaaDoorWordCut
import Derived.Test.YtfhmcahfjoliiaaDoorChg
namespace Go.Proofs.YtfhmcahfjoliiaaDoor
set_option linter.unusedSimpArgs false
set_option linter.unusedVariables false
open Go Go.RowKit
set_option maxRecDepth 20000

/-- the first word, what stands behind its blank; a word as a number -/
def hdB (r : ByteArray) : ByteArray := ⟨(Go.Lib.cut r.data.toList (⟨#[32]⟩ : ByteArray).data.toList).1.toArray⟩
def tlB (r : ByteArray) : ByteArray := ⟨(Go.Lib.cut r.data.toList (⟨#[32]⟩ : ByteArray).data.toList).2.1.toArray⟩
def numI (h : ByteArray) : Int := match Go.Lib.atoiAll h.data.toList with | .ok v => v | _ => -2
theorem numI_dec (n : Nat) (hn : n < 9223372036854775808) : numI (decS n) = (n : Int) := by
  unfold numI decS
  rw [show ((⟨(Go.Lib.decDigits n).toArray⟩ : ByteArray).data.toList) = Go.Lib.decDigits n by simp, atoi_dec_all n hn]
theorem hdB_jn (x : ByteArray) (l : List ByteArray) (h : noBlank x.data.toList) : hdB (jn (x :: l)) = x ∧ tlB (jn (x :: l)) = jn l := by
  have e : (jn (x :: l)).data.toList = Go.Lib.join (x.data.toList :: l.map (·.data.toList)) [32] := by unfold jn; simp
  unfold hdB tlB
  rw [e, show (⟨#[32]⟩ : ByteArray).data.toList = [32] from rfl, cut_join _ _ h]
  exact ⟨by apply ByteArray.ext; simp, rfl⟩
theorem decS_blank (n : Nat) : noBlank (decS n).data.toList := by
  unfold decS
  simpa using decDigits_blank n
/-- what the library's readers want of the world -/
structure EnvN (w : World) : Prop where
  m : ∃ m, w.cell? ⟨1, 0, none⟩ = some (.int .i64 m)
  s : ∃ ev, w.cell? ⟨2, 0, none⟩ = some ev ∧ (ev = .nilIface ∨ ∃ te pe, ev = .iface te pe)
  r : ∃ ev, w.cell? ⟨3, 0, none⟩ = some ev ∧ (ev = .nilIface ∨ ∃ te pe, ev = .iface te pe)
theorem EnvN.lt {w : World} (h : EnvN w) : 3 < w.heap.size := by
  obtain ⟨ev, h, _⟩ := h.r
  exact block_lt_of_cell h
theorem chg_cell {z : Nat} {w w' : World} (k : Chg z w w') (a : Addr) (h1 : a.block < w.heap.size) (h2 : a.block ≠ z) : w'.cell? a = w.cell? a := by
  unfold World.cell?
  rw [k.block a.block h1 h2]
theorem EnvN.chg {z : Nat} {w w' : World} (h : EnvN w) (k : Chg z w w') (hz : 3 < z) : EnvN w' := by
  have hl := h.lt
  obtain ⟨m, hm⟩ := h.m
  obtain ⟨e1, h1, q1⟩ := h.s
  obtain ⟨e2, h2, q2⟩ := h.r
  exact ⟨⟨m, (chg_cell k ⟨1, 0, none⟩ (by show 1 < _; omega) (by show 1 ≠ z; omega)).trans hm⟩, ⟨e1, (chg_cell k ⟨2, 0, none⟩ (by show 2 < _; omega) (by show 2 ≠ z; omega)).trans h1, q1⟩, ⟨e2, (chg_cell k ⟨3, 0, none⟩ (by show 3 < _; omega) (by show 3 ≠ z; omega)).trans h2, q2⟩⟩

set_option maxHeartbeats 2000000 in
theorem number_any (g : Nat) (s : ByteArray) (w : World) (hO : Own w g [.string s]) (hE : EnvN w) (hg : 3 < g) (hs : s.size ≤ 200) :
    Calls Tryd.prog 7 #[.pointer (some ⟨g, 0, none⟩)] w (fun e w' => e = .returned (I (numI (hdB s))) ∧ Own w' g [.string (tlB s)] ∧ Chg g w w') := by
  obtain ⟨m, hm⟩ := hE.m
  have CU := Lib.hid (Tryd.strings_Cut s ⟨#[32]⟩ m w (by omega) hm)
  have hhs : (hdB s).size ≤ 200 := by
    have : (Go.Lib.cut s.data.toList (⟨#[32]⟩ : ByteArray).data.toList).1.length ≤ s.data.toList.length := by
      unfold Go.Lib.cut
      split
      · show (List.take _ _).length ≤ _
        rw [List.length_take]; exact Nat.min_le_right _ _
      · exact Nat.le_refl _
    have e1 : s.data.toList.length = s.size := Array.length_toList
    have e2 : (hdB s).size = (Go.Lib.cut s.data.toList (⟨#[32]⟩ : ByteArray).data.toList).1.length := by unfold hdB; exact List.size_toArray
    omega
  have HO := Lib.hid hO
  have HE := Lib.hid hE
  have hgl := hO.lt
  have e1 : (⟨(Go.Lib.cut s.data.toList (⟨#[32]⟩ : ByteArray).data.toList).1.toArray⟩ : ByteArray) = hdB s := rfl
  have e2 : (⟨(Go.Lib.cut s.data.toList (⟨#[32]⟩ : ByteArray).data.toList).2.1.toArray⟩ : ByteArray) = tlB s := rfl
  rw [e1, e2] at CU
  generalize (Go.Lib.cut s.data.toList (⟨#[32]⟩ : ByteArray).data.toList).2.2 = ok at CU
  have CH : ∀ q, Chg g w ((w.drewN q).setCell ⟨g, 0, none⟩ (.string (tlB s))) := fun q => ((Chg.refl g w).drewN q).set 0 _
  have OW : ∀ q, Own ((w.drewN q).setCell ⟨g, 0, none⟩ (.string (tlB s))) g [.string (tlB s)] := fun q => (hO.drewN q).set 0 _
  have hCH := Lib.hid CH
  have hOW := Lib.hid OW
  have xO := hO
  have xfA := xO.f; have x0 := xO.c0
  clear xO
  cases hA : Go.Lib.atoiAll (hdB s).data.toList with
  | ok v =>
    have hn : numI (hdB s) = v := by unfold numI; rw [hA]
    have AT := Lib.hid (fun W => Tryd.strconv_Atoi_ok (hdB s) (by omega) v hA W)
    rw [hn]
    clear hn hA e1 e2 CH OW hO hE hm
    generalize hdB s = hh at *
    generalize tlB s = tt at *
    go_enter Tryd.func7, Tryd.ntmps7
    go_wp2_with (first
      | (go_at_call 8; refine CU.out.mono ?_; rintro e w2 ⟨rfl, q, rfl⟩)
      | (go_at_call 16; refine (AT.out _).mono ?_; rintro e w3 ⟨rfl, h3⟩))
    go_ret
    rcases h3 with rfl | ⟨t, rfl⟩
    · exact ⟨rfl, hOW.out q, hCH.out q⟩
    · have kb := Lib.bytesWorld_below ((w.drewN q).setCell ⟨g, 0, none⟩ (.string tt)) 5 t
      exact ⟨rfl, (hOW.out q).below kb, (hCH.out q).trans (Chg.of_below kb)⟩
  | range =>
    have hn : numI (hdB s) = -2 := by unfold numI; rw [hA]
    have AT := Lib.hid (fun W ev h1 h2 => Tryd.strconv_Atoi_range (hdB s) (by omega) hA ev W h1 h2)
    rw [hn]
    clear hn hA e1 e2 CH OW hO hE hm
    generalize Go.Lib.atoiSat (hdB s).data.toList = sat at *
    generalize hdB s = hh at *
    generalize tlB s = tt at *
    go_enter Tryd.func7, Tryd.ntmps7
    go_wp2_with (first
      | (go_at_call 8; refine CU.out.mono ?_; rintro e w2 ⟨rfl, q, rfl⟩; obtain ⟨ev, hev, hev2⟩ := (HE.out.chg (hCH.out q) hg).r)
      | (go_at_call 16; refine (AT.out _ ev hev hev2).mono ?_; rintro e w3 ⟨N, rfl, hN, _, kb⟩))
    go_ret
    exact ⟨rfl, (hOW.out q).below kb, (hCH.out q).trans (Chg.of_below kb)⟩
  | _ =>
    have hn : numI (hdB s) = -2 := by unfold numI; rw [hA]
    have AT := Lib.hid (fun W ev h1 h2 => Tryd.strconv_Atoi_syntax (hdB s) (by omega) hA ev W h1 h2)
    rw [hn]
    clear hn hA e1 e2 CH OW hO hE hm
    generalize hdB s = hh at *
    generalize tlB s = tt at *
    go_enter Tryd.func7, Tryd.ntmps7
    go_wp2_with (first
      | (go_at_call 8; refine CU.out.mono ?_; rintro e w2 ⟨rfl, q, rfl⟩; obtain ⟨ev, hev, hev2⟩ := (HE.out.chg (hCH.out q) hg).s)
      | (go_at_call 16; refine (AT.out _ ev hev hev2).mono ?_; rintro e w3 ⟨N, rfl, hN, _, kb⟩))
    go_ret
    exact ⟨rfl, (hOW.out q).below kb, (hCH.out q).trans (Chg.of_below kb)⟩
end Go.Proofs.YtfhmcahfjoliiaaDoor
