/- cell.Apply -/
import Derived.Test.YtebcdabdnmeeaaaApply
namespace Go.Proofs.Ytebcdabdnmeeaaa
open Go.RowKit
set_option maxRecDepth 20000
theorem infoU32 : (Try.prog.info? 68).map (fun i => (i.zero, i.size, i.bytes)) = some (some (.int .u32 0), 1, 4) := by kernel_rfl

set_option maxHeartbeats 2000000 in
theorem Apply_any (v : Value) (xs : List Int) (v2 : Value) (ws : List AWrite) (k : Int) (w : World) (h : Sl w v 1 xs.length (xs.map U32)) (h2 : Sl w v2 2 ws.length (ws.flatMap AWrite.cells)) :
    Calls Try.prog 38 #[v, v2, I k] w (GrewSl2 1 (applyL xs ws k).length ((applyL xs ws k).map U32) (applyE xs ws k) w) := by
  have hmf : ∀ (fn : Fn) (first cap : Array Value) (w : World), (Instr.makeFunc fn first cap).run Try.prog w = .ok (.func fn first cap) w := fun _ _ _ _ => rfl
  obtain ⟨i0, hi, hz0, hz1, hz2⟩ := info_parts infoU32
  have hS := h
  have hS2 := h2
  obtain ⟨a, cap, rfl, hn, hl, h0, hr⟩ := h
  obtain ⟨a2, cap2, rfl, hn2, hl2, h02, hr2⟩ := h2
  have k0 := boxed_below w (.cells #[.slice a xs.length cap] 43)
  have F := Lib.hid (fits_any _ _ _ _ _ (hS.below k0))
  have hSW := Lib.hid (hS2.below k0)
  clear hl h0 hl2 h02 hr2
  cases hf : inB xs.length 1 2048
  · have e1 : applyE xs ws k = 1 := by
      have : applySz xs.length ws.length = false := by
        rw [← Bool.not_eq_true] at hf ⊢; rw [inB_true] at hf; simp only [applySz, decide_eq_true_eq]; omega
      simp [applyE, this]
    have e2 : applyL xs ws k = [] := by simp [applyL, e1]
    rw [e1, e2]
    rw [hf] at F
    clear e1 e2 hf
    go_enter Try.func38, Try.ntmps38
    go_wp2_with (go_at_call 59; refine (F.out).mono ?_; rintro e w' ⟨rfl, rfl⟩)
    go_ret2
    exact ⟨_, rfl, Sl.nil _ _, k0⟩
  · obtain ⟨f0, f1⟩ := inB_true.1 hf
    rw [hf] at F
    by_cases h4 : 4096 < ws.length
    · have e1 : applyE xs ws k = 1 := by
        have : applySz xs.length ws.length = false := by
          rw [← Bool.not_eq_true]; simp only [applySz, decide_eq_true_eq]; omega
        simp [applyE, this]
      have e2 : applyL xs ws k = [] := by simp [applyL, e1]
      rw [e1, e2]
      have h4' : (4096 : Int) < (ws.length : Int) := by omega
      clear e1 e2 hf h4
      go_enter Try.func38, Try.ntmps38
      go_wp2_with (go_at_call 59; refine (F.out).mono ?_; rintro e w' ⟨rfl, rfl⟩)
      go_ret2
      exact ⟨_, rfl, Sl.nil _ _, k0⟩
    · have hsz : applySz xs.length ws.length = true := by simp only [applySz, decide_eq_true_eq]; omega
      have h4' : ¬ (4096 : Int) < (ws.length : Int) := by omega
      have C := Lib.hid (ContainsW_any _ ws w.heap.size xs.length cap a _ hSW.out (by simp) (by simp))
      cases ha : atsOk xs.length ws
      · have e1 : applyE xs ws k = 2 := by simp [applyE, hsz, applyOk, ha]
        have e2 : applyL xs ws k = [] := by simp [applyL, e1]
        rw [e1, e2]
        rw [ha] at C
        clear e1 e2 hf h4 hsz ha
        go_enter Try.func38, Try.ntmps38
        go_wp2_with (first | (go_at_call 59; refine (F.out).mono ?_; rintro e w' ⟨rfl, rfl⟩) | (go_at_call 60; refine C.out.mono ?_; rintro e w1 ⟨rfl, k1⟩; have kk := k0.trans (k1.mono k0.size)))
        go_ret2
        exact ⟨_, rfl, Sl.nil _ _, kk⟩
      · rw [ha] at C
        cases hk : inB k 0 ws.length
        · have e1 : applyE xs ws k = 2 := by simp [applyE, hsz, applyOk, hk]
          have e2 : applyL xs ws k = [] := by simp [applyL, e1]
          rw [e1, e2]
          have hcase : k < 0 ∨ (0 ≤ k ∧ (ws.length : Int) < k) := by rw [← Bool.not_eq_true, inB_true] at hk; omega
          clear e1 e2 hf h4 hsz ha hk
          rcases hcase with c1 | ⟨c1, c2⟩
          all_goals
            go_enter Try.func38, Try.ntmps38
            go_wp2_with (first | (go_at_call 59; refine (F.out).mono ?_; rintro e w' ⟨rfl, rfl⟩) | (go_at_call 60; refine C.out.mono ?_; rintro e w1 ⟨rfl, k1⟩; have kk := k0.trans (k1.mono k0.size)))
            go_ret2
            exact ⟨_, rfl, Sl.nil _ _, kk⟩
        · obtain ⟨q0, q1⟩ := inB_true.1 hk
          obtain ⟨m, rfl⟩ := Int.eq_ofNat_of_zero_le q0
          have e1 : applyE xs ws m = 0 := by simp [applyE, hsz, applyOk, ha, hk]
          have e2 : applyL xs ws m = putsL xs ws m := by simp [applyL, e1]
          rw [e1, e2]
          have Hat := Lib.hid (fun j (hj : j < ws.length) => atsOk_at ha hj)
          have hlen : (putsL xs ws m).length = xs.length := putsL_len xs ws m
          have Hlen := Lib.hid hlen
          clear e1 e2 hf h4 hsz ha hk hlen
          obtain ⟨b, off, rfl, hb, hcell⟩ := hr.resolve_left (by omega)
          have hi0 : (0 : Int) ≤ (m : Int) := by omega
          have hone : oneCells (xs.map U32) := oneCells_map (fun _ => rfl) _
          clear hr hcell
          go_enter Try.func38, Try.ntmps38
          go_wp2_with (first
            | (go_at_call 59; refine (F.out).mono ?_; rintro e w' ⟨rfl, rfl⟩)
            | (go_at_call 60; refine C.out.mono ?_; rintro e w1 ⟨rfl, k1⟩; have kk := k0.trans (k1.mono k0.size); have hlt1 : w.heap.size < w1.heap.size := (by have := k1.size; simp at this; omega); have hcb := (k1.cell (p := ⟨w.heap.size, 0, none⟩) (by simp)).trans (show _ = some (.slice (some ⟨b, off, none⟩) xs.length cap) by simp))
            | (refine wpList_make_full _ rfl (.tmp 33) (.tmp 33) 43 rfl w1.heap.size 68 i0 (.int .u32 0) 1 Try.underlying43 hi hz0 hz1 .i64 .i64 _ _ xs.length rfl rfl rfl rfl (by rw [hz2]; omega) (by unfold maxLen; omega) (Nat.le_refl _) ?_; intro w2 hown hgrow; have hbel := Below.grown (B := w1.heap.size) (Below.refl _ w1) hgrow (Nat.le_refl _) (fun k hk => by cases hk); have hcb2 := (hbel.cell (p := ⟨w.heap.size, 0, none⟩) hlt1).trans hcb; have hnews := Lib.hid ((hS.below (kk.trans (hbel.mono kk.size))).news); obtain ⟨hol, (⟨hv, _⟩ | ⟨g', cap', cur, hv, hgb, hgc, hnc, hmx, hszc, htk⟩)⟩ := hown; (cases hv); (cases hv); clear hol hgb hmx htk hgrow)
            | ((refine wpList_copy_own rfl (.tmp 35) (.tmp 36) 43 43 rfl 68 Try.underlying43 (by rw [hi]; simp [hz1]) w1.heap.size 0 xs.length xs.length ⟨b, off, none⟩ xs.length cap rfl rfl cur 68 hgc (xs.map U32) (by rw [List.length_map]; exact (Nat.min_self _).symm) hnews.out (by simp; omega) hone ?_; have hO := own_setRow hgc (xs.map U32) (cur.toList.drop (0 + (xs.map U32).length)); rw [List.take_zero, List.nil_append]; have hb3 := below_setRow hbel (Nat.le_refl _) (xs.map U32 ++ cur.toList.drop (0 + (xs.map U32).length)).toArray; generalize w2.setRow w1.heap.size (xs.map U32 ++ cur.toList.drop (0 + (xs.map U32).length)).toArray = w3 at *)))
          have hsz1 := k1.size
          have hbw3 : Below w.heap.size w w3 := kk.trans (hb3.mono kk.size)
          clear hcb hcb2 hnews hgc hszc k1 hbel hb3 C hSW
          go_loopw [43] (fun i wr => ∃ q : Nat, q ≤ m ∧ i = I q ∧ Hid (PRel w w1.heap.size xs ws q wr)) (fun i _ => m - (intOf i).toNat)
          case atStart => exact ⟨0, Nat.zero_le _, rfl, hO, hbw3⟩
          case round =>
            obtain ⟨q, hq, rfl, hD⟩ := hrel
            by_cases hlt : q < m
            · obtain ⟨a2', cap2', hv2, _, _, _, hr2⟩ := hS2
              simp only [Value.slice.injEq] at hv2
              obtain ⟨rfl, _, rfl⟩ := hv2
              obtain ⟨b2, off2, rfl, hb2, hcell2⟩ := hr2.resolve_left (by omega)
              obtain ⟨hOw, hbw⟩ := hD.out
              obtain ⟨e0, e1⟩ := elWrite hb2 hcell2 hbw q (by omega)
              obtain ⟨t0, t1⟩ := Hat.out q (by omega)
              have hnext0 := PRel.next hD.out (by omega)
              have hnext := Lib.hid (fun c => (⟨hnext0.1.alloc c, hnext0.2.alloc hnext0.2.size c⟩ : PRel w w1.heap.size xs ws (q + 1) (_)))
              clear hnext0
              have hglt := hOw.lt
              have hgne : ¬ w1.heap.size = wr.heap.size := by omega
              clear hcell2 hr2
              generalize ws.getD q default = x at *
              have hxl : x.at_.toNat < ((putsL xs ws q).map U32).length := by rw [List.length_map, putsL_len]; omega
              have e2 := hOw.cell x.at_.toNat hxl
              rw [getD_map' _ _ (by rw [putsL_len]; omega)] at e2
              rw [Nat.zero_add] at e2
              have f2 := hOw.frozen x.at_.toNat
              have hi0' : (0 : Int) ≤ (q : Int) := by omega
              have hi1' : (q : Int) < (m : Int) := by omega
              generalize (putsL xs ws q).getD x.at_.toNat 0 = y at *
              clear hOw hbw hD hxl
              go_wp2
              exact ⟨⟨q + 1, by omega, by go_num, hnext.out _⟩, by simp [intOf]; omega⟩
            · have hqm : q = m := by omega
              have hS3 := hD.out.1.sl (n := xs.length) (cap := xs.length) (sz := 1) (by omega) (Nat.le_refl _) (by rw [List.length_map, putsL_len]; omega)
              have hb' := hD.out.2
              rw [hqm] at hS3
              have hge : (m : Int) ≤ (q : Int) := by omega
              clear hqm hD
              go_wp2
              go_ret2
              exact ⟨_, rfl, by rw [Hlen.out]; exact hS3, hb'⟩
end Go.Proofs.Ytebcdabdnmeeaaa
