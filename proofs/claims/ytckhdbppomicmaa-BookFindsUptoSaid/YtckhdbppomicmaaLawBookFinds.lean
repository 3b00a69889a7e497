/- book.Find answers as the reference does, at every argument of bulk at most 1048576 (a longer list of customers than memory holds is left out). No other conditions. -/
import Derived.Test.YtckhdbppomicmaaUpto
import Derived.Test.YtckhdbppomicmaaBookFind
import Derived.Deep.RegionLaw
import Derived.Deep.AppendLies
namespace Go.Proofs.Ytckhdbppomicmaa.bookFinds
open Go.ChangeShapes Go.WideShapes Go.ChangeAt Go.RowKit
set_option maxRecDepth 20000
theorem infoCust : (Try.prog.info? 59).map (fun i => (i.zero, i.size, i.bytes)) = some (some (.agg #[.int .i64 0, .int .i64 0, .int .i64 0, .int .i64 0, .int .i64 0, .int .i64 0, .slice none 0 0, .slice none 0 0]), 8, 96) := by kernel_rfl
theorem cell_lt {w : World} {g j : Nat} {v : Value} (h : w.cell? ⟨g, j, none⟩ = some v) : g < w.heap.size := by
  unfold World.cell? at h
  cases hh : w.heap[g]? with
  | none => simp [hh] at h
  | some o => exact (Array.getElem?_eq_some_iff.1 hh).1
def newC (m : Int) : ACust := ⟨m, 0, 0, 0, 0, 0, none, 0, 0, none, 0, 0⟩
def newsC (l : List Int) (k : Nat) : List ACust := (l.take k).map newC
theorem newsC_succ {l : List Int} {k : Nat} (hk : k < l.length) : newsC l (k + 1) = newsC l k ++ [newC (l.getD k 0)] := by
  unfold newsC
  rw [List.take_add_one, List.map_append, List.getElem?_eq_getElem hk, List.getD_eq_getElem?_getD, List.getElem?_eq_getElem hk]
  simp
theorem newsC_len (l : List Int) {k : Nat} (hk : k ≤ l.length) : (newsC l k).length = k := by simp [newsC]; omega
def CRel (w : World) (l : List Int) (k : Nat) (v : Value) (wr : World) : Prop :=
  wr.cell? ⟨w.heap.size, 0, none⟩ = some v ∧ wr.frozen? ⟨w.heap.size, 0, none⟩ = false ∧ wr.ownsRow (w.heap.size + 1) 59 8 v k ((newsC l k).flatMap ACust.cells) ∧ Below w.heap.size w wr
set_option maxHeartbeats 1000000 in
theorem walk (v1 : Value) (l : List Int) (me : Int) (w : World) (h1 : Sl w v1 1 l.length (l.map I)) (_ : ∀ x ∈ l, I64 x) (hb1 : l.length ≤ 1048576) : Calls Try.prog 12 #[v1, I me] w (Grew (.bool true) w) := by
  obtain ⟨i0, hi, hz0, hz1, hz2⟩ := info_parts infoCust
  obtain ⟨a, cap, rfl, hn, hl, h0, hr⟩ := h1
  clear hl h0
  go_enter Try.func12, Try.ntmps12
  go_wp2
  go_loopw [6] (fun i wr => ∃ (k : Nat) (v : Value), k ≤ l.length ∧ i = I k ∧ lenOf v = k ∧ Hid (CRel w l k v wr)) (fun i _ => l.length - (intOf i).toNat)
  case atStart => exact ⟨0, .slice none 0 0, Nat.zero_le _, rfl, rfl, by simp, by simp, World.ownsRow_nil _ _ _ _, (by repeat first | exact Below.refl _ _ | assumption | refine drewN_below ?_ _ | refine Below.alloc ?_ (by first | exact Nat.le_refl _ | exact Below.size (by assumption) | (simp; done) | (simp; omega) | omega) _ | refine Below.setCell ?_ (by first | exact Nat.le_refl _ | (simp; done) | (simp; omega) | omega) _)⟩
  case round =>
    obtain ⟨k, v, hk, rfl, hlv, hD⟩ := hrel
    obtain ⟨hcv, hfv, hown, hbw⟩ := hD.out
    have hsz : w.heap.size < wr.heap.size := cell_lt hcv
    by_cases hlt : k < l.length
    · obtain ⟨b, off, rfl, hbl, hcell⟩ := hr.resolve_left (by omega)
      have e0 := (hbw.cell (p := ⟨b, off + k, none⟩) hbl).trans (hcell k (by simpa using hlt))
      rw [getD_map' _ _ hlt] at e0
      have hs := Lib.hid (newsC_succ hlt)
      have hi0 : (0 : Int) ≤ (k : Int) := by omega
      have hi1 : (k : Int) < (l.length : Int) := by omega
      clear hr hcell
      generalize l.getD k 0 = x at *
      go_wp2
      go_region_law (refine step_append_lies _ (by rfl) _ _ _ (by rfl) (w.heap.size + 1) 59 i0 _ 8 96 Try.underlying51 hi hz0 hz1 hz2 rfl (by omega) v k _ (by rfl) ((hown.alloc _).drew) ⟨wr.heap.size, 0, none⟩ 1 1 (newC x).cells (by rfl) (by rfl) (World.news_of_block (cs := (newC x).cells.toArray) (t := 59) (fr := (0, 0)) (heap_alloc_new wr _)) (by simp [newC, ACust.cells, Value.oneCell']) (by omega) (by unfold maxLen; omega) (by omega) (by simp; omega) (wr.heap.size + 1) (by simp) ?_; intro gg cap2 w1 hown1 hgrow hat hlt1; have hbg := Below.grown (B := w.heap.size + 1) (Below.refl _ _) hgrow (by simp; omega) (fun j hj => (hown.lt j hj).1); have hc1 := (hbg.cell (p := ⟨w.heap.size, 0, none⟩) (by simp)).trans (((boxed_below wr _).cell (p := ⟨w.heap.size, 0, none⟩) hsz).trans hcv); have hf1 := (hbg.frozen (p := ⟨w.heap.size, 0, none⟩) (by simp)).trans (((boxed_below wr _).frozen (p := ⟨w.heap.size, 0, none⟩) hsz).trans hfv); have hbw1 := Below.grown (drewN_below (hbw.alloc (Nat.le_of_lt hsz) (.cells (newC x).cells.toArray 59)) 1) hgrow (by simp; omega) (fun j hj => Nat.le_trans (Nat.le_succ _) (hown.lt j hj).1); have hD' : Hid (CRel w l (k + 1) (.slice (some ⟨gg, 0, none⟩) (k + 1) cap2) (w1.setCell ⟨w.heap.size, 0, none⟩ (.slice (some ⟨gg, 0, none⟩) (k + 1) cap2))) := (⟨by rw [set_same, hc1]; rfl, (World.frozen?_setCell _ _ _ _).trans hf1, by rw [hs.out, List.flatMap_append]; exact ownsRow_setCell_below (by simpa using hown1) (by show w.heap.size < w.heap.size + 1; omega) _, hbw1.setCell (Nat.le_refl _) _⟩))
      all_goals
        clear hown1 hgrow hat hlt1 hbg hbw1 hD hown hbw
        go_wp2
        exact ⟨⟨k + 1, _, by omega, by go_num, rfl, hD'⟩, by simp [intOf]; omega⟩
    · have hkl : k = l.length := by omega
      have hS := Sl.of_owns hown (by omega)
      have hS' : Hid (Sl wr v 8 (newsC l l.length).length ((newsC l l.length).flatMap ACust.cells)) := by
        rw [newsC_len l (Nat.le_refl _)]; rw [hkl] at hS; exact hS
      have hge : (l.length : Int) ≤ (k : Int) := by omega
      generalize newsC l l.length = xs at *
      clear hkl hS hD hown hr
      obtain ⟨a, cap2, rfl, _⟩ := hS'.out
      have k0 := hbw
      rcases findI_bd (me := me) (xs.map ACust.meter) 0 with hf | ⟨hf1, hf2⟩
      · have hfa : foundAt xs me = -1 := hf
        have e1 : findA xs me = 0 := by simp [findA, hfa]
        have e2 : findE xs me = 18 := by simp [findE, hfa]
        have C := Lib.hid (fun W hW => Find_any (.slice a xs.length cap2) xs me W hW)
        have R := Lib.hid (fun W hW => Found_any (.slice a xs.length cap2) xs me W hW)
        rw [e1, e2] at C
        rw [hfa] at R
        clear hf hfa e1 e2
        go_wp2_with fail
        refine (C.out _ hS'.out).mono ?_
        rintro e w2 ⟨rfl, k2⟩
        have hcv2 := (k2.cell (p := ⟨w.heap.size, 0, none⟩) hsz).trans hcv
        have hS2 := Lib.hid (hS'.out.below k2)
        go_wp2_with fail
        refine (R.out _ hS2.out).mono ?_
        rintro e w3 ⟨rfl, k3⟩
        have kk := (k0.trans (k2.mono k0.size)).trans (k3.mono (k0.trans (k2.mono k0.size)).size)
        clear k2 k3
        go_wp2
        go_ret
        exact Grew.intro rfl kk
      · have hfa : foundAt xs me = findI me (xs.map ACust.meter) 0 := rfl
        have hlt0 : ¬ foundAt xs me < 0 := by rw [hfa]; omega
        have e1 : findA xs me = foundAt xs me := by simp [findA, hlt0]
        have e2 : findE xs me = 0 := by simp [findE, hlt0]
        have C := Lib.hid (fun W hW => Find_any (.slice a xs.length cap2) xs me W hW)
        have R := Lib.hid (fun W hW => Found_any (.slice a xs.length cap2) xs me W hW)
        rw [e1, e2] at C
        clear hf1 hf2 hfa e1 e2
        generalize foundAt xs me = f at *
        go_wp2_with fail
        refine (C.out _ hS'.out).mono ?_
        rintro e w2 ⟨rfl, k2⟩
        have hcv2 := (k2.cell (p := ⟨w.heap.size, 0, none⟩) hsz).trans hcv
        have hS2 := Lib.hid (hS'.out.below k2)
        go_wp2_with fail
        refine (R.out _ hS2.out).mono ?_
        rintro e w3 ⟨rfl, k3⟩
        have kk := (k0.trans (k2.mono k0.size)).trans (k3.mono (k0.trans (k2.mono k0.size)).size)
        clear k2 k3
        go_wp2
        go_ret
        exact Grew.intro (by simp) kk

set_option maxRecDepth 100000 in
theorem lifted (os : Os) (started : os.Started) (H : Type) (enc : TypeId × Value → H) (F : Stop.Interp) :
    ReturnsInHanded {} Try.checked os 12 .any ((Rows.OpenSpec.upto Rows.bookFindsSpec).pre6 enc Try.prog Try.f12 Rows.bookFindsUptoRow.domain false) (((Rows.OpenSpec.upto Rows.bookFindsSpec).at F).post enc Try.prog Try.f12 false true false false) := by
  refine returnsInHanded_of_cond_sized (C := Try.checked) (s := Rows.OpenSpec.upto Rows.bookFindsSpec) (k := Rows.uptoSmall) rfl own started (by kernel_rfl) Try.func12
    (OpenSpec.witness (enc := enc) (C := Try.checked) (s := Rows.OpenSpec.upto Rows.bookFindsSpec) (k := Rows.uptoSmall) rfl false ⟨#[], #[.slice none 0 0, .int .i64 0], []⟩ 8 (by kernel_rfl) (by kernel_rfl) (by kernel_rfl)
      (x := ([.nil, .lit (.int .i64 0)], [], [])) (by kernel_rfl) rfl (by kernel_rfl)) ?_
  intro W base args ds gs before hval hW hcnd hk hsz _
  have hfin := fun W' => post_true (fn := Try.f12) (s := Rows.bookFindsSpec) (bt := 4) (W' := W') rfl laidOut (by kernel_rfl) Try.underlying4 rfl (fun ds h => by match ds, h with | [_, _], _ => rfl) hW
  have hsz : (DataW.weightsEach Try.prog (Try.f12.params.toList ++ []) (ds ++ gs)).all (· ≤ reachBytes) = true := hsz
  obtain ⟨p, q, hA, hV, rfl, hfz, hnd⟩ := hW
  obtain ⟨rfl, rfl⟩ := trodVars_none hV
  rw [Try.params12] at hA hval hsz
  obtain ⟨v0, vs0, d0, ds0, p0, q0, hargs, rfl, rfl, h0, r0⟩ := trodAll_cons hA
  obtain ⟨v1, vs1, d1, ds1, p1, q1, rfl, rfl, rfl, h1, r1⟩ := trodAll_cons r0
  obtain ⟨rfl, rfl, rfl⟩ := trodAll_nil r1
  obtain rfl : args = #[v0, v1] := by cases args; simp_all
  simp only [List.append_nil] at hsz hk
  have pl0 := arg_plains (ks := (shape Try.prog 9 24).getD []) (by kernel_rfl) h0 (arg_weights (j := 0) hsz rfl rfl)
  obtain ⟨xs0, hS0, hw0, hb0⟩ := plain_ints (arg_slice Try.underlying24 (hval 0 24 v0 rfl rfl) pl0)
  have hk0 := Nat.le_trans (slice_bulk Try.underlying24 h0 hS0) (bulk_bound hk (d := d0) (by simp))
  obtain ⟨a1, rfl, rfl, rfl, wf1⟩ := open_int Try.underlying3 (hval 1 3 v1 rfl rfl) h1
  exact (walk v0 xs0 a1 W hS0 hw0 hk0).mono fun e W' h => by
    obtain ⟨rfl, hb⟩ := h.grew
    exact ⟨_, rfl, hfin W' hb⟩

theorem proved : Rows.BookFindsUptoSaid :=
  OpenClaim.holds_of_cond 12 Try.f12 rfl rfl rfl rfl rfl rfl rfl ⟨rfl, rfl, rfl, rfl, rfl⟩ rfl rfl rfl rfl rfl (by kernel_rfl) Try.func12 (by kernel_rfl)
    (of_decide_eq_true (by kernel_rfl)) (by unfold Func.isWrapper; first | (rw [if_pos (by decide +kernel)]; kernel_rfl) | (rw [if_neg (by decide +kernel)]; exact ⟨rfl, rfl⟩))
    (fun os started H enc _ F => lifted os started H enc F)
#print axioms proved
end Go.Proofs.Ytckhdbppomicmaa.bookFinds
