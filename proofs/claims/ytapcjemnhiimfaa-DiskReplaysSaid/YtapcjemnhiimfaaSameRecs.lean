/- sameRecords: are two lists of records the same? -/
import Derived.Test.YtapcjemnhiimfaaSameWords
import Derived.Test.YtapcjemnhiimfaaDiskReplay
namespace Go.Proofs.Ytapcjemnhiimfaa
open Go.RowKit
set_option maxRecDepth 20000

theorem recs_cells {W : World} {base : Nat} {v : Value} {rs : List (List Int)} {us : List Value} (h : Recs W base v rs us) (hl : rs.length ≤ 281474976710656) : Sl W v 1 rs.length us := Sl.of_owns h.2.1 hl
set_option maxHeartbeats 2000000 in
theorem sameRecs_any (v1 v2 : Value) (base1 base2 : Nat) (xs : List (List Int)) (us1 us2 : List Value) (w : World) (h1 : Recs w base1 v1 xs us1) (h2 : Recs w base2 v2 xs us2) (hn : xs.length ≤ 4096) :
    Calls Try.prog 7 #[v1, v2] w (Grew (.bool true) w) := by
  have s1 := recs_cells h1 (by omega)
  have s2 := recs_cells h2 (by omega)
  obtain ⟨a1, c1, rfl, hn1, hl1, _, s1⟩ := s1
  obtain ⟨a2, c2, rfl, hn2, hl2, _, s2⟩ := s2
  have H1 := Lib.hid h1
  have H2 := Lib.hid h2
  clear h1 h2
  go_enter Try.func7, Try.ntmps7
  go_wp2
  go_loopw [5] (fun i wr => ∃ k : Nat, k ≤ xs.length ∧ i = I k ∧ Below w.heap.size w wr) (fun i _ => xs.length - (intOf i).toNat)
  case atStart => exact ⟨0, Nat.zero_le _, rfl, Below.refl _ _⟩
  case round =>
    obtain ⟨k, hk, rfl, hbw⟩ := hrel
    by_cases hlt : k < xs.length
    · obtain ⟨b1, o1, rfl, hb1, hc1⟩ := s1.resolve_left (by omega)
      obtain ⟨b2, o2, rfl, hb2, hc2⟩ := s2.resolve_left (by omega)
      have e1 := (hbw.cell (p := ⟨b1, o1 + k, none⟩) hb1).trans (hc1 k (by omega))
      have e2 := (hbw.cell (p := ⟨b2, o2 + k, none⟩) hb2).trans (hc2 k (by omega))
      have r1 := ((H1.out.2.2 k hlt).below hbw).sl
      have r2 := ((H2.out.2.2 k hlt).below hbw).sl
      have S := Lib.hid (fun W hW1 hW2 => sameWords_any (us1.getD k undef) (us2.getD k undef) (xs.getD k []) (xs.getD k []) W hW1 hW2)
      clear hc1 hc2 s1 s2 H1 H2
      have hi0 : (0 : Int) ≤ (k : Int) := by omega
      have hi1 : (k : Int) < (xs.length : Int) := by omega
      generalize us1.getD k undef = u1 at *
      generalize us2.getD k undef = u2 at *
      generalize xs.getD k [] = ws at *
      go_wp2
      go_region_with ((refine (S.out _ ?_ ?_).mono ?_; (first | assumption | (apply Sl.drew; assumption)); (first | assumption | (apply Sl.drew; assumption)); rintro e w1 ⟨rfl, k1⟩))
      all_goals
        go_wp2
        exact ⟨⟨k + 1, by omega, by go_num, by first | exact hbw.trans (k1.mono hbw.size) | exact hbw.trans ((k1.mono hbw.size)) | (refine Below.trans ?_ (k1.mono hbw.size); exact drewN_below hbw 1)⟩, by simp [intOf]; omega⟩
    · have hge : (xs.length : Int) ≤ (k : Int) := by omega
      clear s1 s2 H1 H2
      go_wp2
      go_ret
      exact Grew.intro rfl hbw
end Go.Proofs.Ytapcjemnhiimfaa
