/- ref.ActRead: what it reads, and its answer -/
import Derived.Test.YtfhmcahfjoliiaaDoorOrdReadS
namespace Go.Proofs.YtfhmcahfjoliiaaDoor
set_option linter.unusedSimpArgs false
set_option linter.unusedVariables false
open Go Go.RowKit
set_option maxRecDepth 20000

def has4 (A B C : Bool) : List Value := [.bool true, .bool A, .bool B, .bool C]
theorem has4_at (A B C : Bool) (h : Nat → Bool) (e0 : h 0 = true) (e1 : h 1 = A) (e2 : h 2 = B) (e3 : h 3 = C) (i : Nat) (hi : i < 4) : (has4 A B C).getD i undef = .bool (h i) := by
  have : i = 0 ∨ i = 1 ∨ i = 2 ∨ i = 3 := by omega
  rcases this with rfl | rfl | rfl | rfl
  · rw [e0]; rfl
  · rw [e1]; rfl
  · rw [e2]; rfl
  · rw [e3]; rfl
/-- the kind as the loop over the words leaves it -/
def kdR (K k : Int) : Int := if 1 ≤ K ∧ K < k then K else 0
theorem kindOf_eqI (wd : ByteArray) (k : Int) (hk : 1 ≤ k ∧ k ≤ 7) : actW k = wd ↔ kindOf wd = k := by
  have := kindOf_eq wd (k - 1).toNat (by omega)
  rwa [show (((k - 1).toNat : Nat) : Int) + 1 = k by omega] at this

theorem kdR_no (K k : Int) (h : K ≠ k) : kdR K (k + 1) = kdR K k := by
  unfold kdR
  by_cases h1 : 1 ≤ K ∧ K < k
  · rw [if_pos h1, if_pos (by omega)]
  · rw [if_neg h1, if_neg (by omega)]
theorem kdR_yes (K k : Int) (h : K = k) (h1 : 1 ≤ k) : kdR K (k + 1) = k := by
  unfold kdR
  rw [if_pos (by omega), h]
theorem kdR_one (K : Int) : kdR K 1 = 0 := by
  unfold kdR
  rw [if_neg (by omega)]
theorem kdR_end (wd : ByteArray) : kdR (kindOf wd) 8 = kindOf wd := by
  unfold kdR
  rcases kindOf_in wd with h | h
  · rw [h, if_neg (by omega)]
  · rw [if_pos (by omega)]
theorem list4 {l : List Int} (h : l.length = 4) : ∃ a b c d, l = [a, b, c, d] := by
  match l, h with
  | [a, b, c, d], _ => exact ⟨a, b, c, d, rfl⟩
theorem cand2_none {s : ByteArray} {cu pa : Int} {i : Nat} (hi : i ≤ 4) (h : stR s (hasR (kindOf (hdP s pa))) (nxP s pa) i = none) : cand2 s cu pa = none := by
  have h4 := stR_none h (4 - i)
  rw [show i + (4 - i) = 4 by omega] at h4
  show (match stR s (hasR (kindOf (hdP s pa))) (nxP s pa) 4 with | none => none | some (l, q) => _) = none
  rw [h4]
theorem cand2_some {s : ByteArray} {cu pa p n0 n1 n2 n3 : Int} (h : stR s (hasR (kindOf (hdP s pa))) (nxP s pa) 4 = some ([n0, n1, n2, n3], p)) :
    cand2 s cu pa = some ⟨kindOf (hdP s pa), n0, n1, n2, n3, if kindOf (hdP s pa) = 6 ∧ 0 ≤ p then frm s p.toNat else ⟨#[]⟩, cu⟩ := by
  show (match stR s (hasR (kindOf (hdP s pa))) (nxP s pa) 4 with | none => none | some (l, q) => _) = _
  rw [h]; rfl
theorem frm_size (s : ByteArray) (q : Nat) : (frm s q).size ≤ s.size := by
  unfold frm
  rw [ByteArray.size_extract]; omega

set_option maxHeartbeats 4000000 in
theorem ActRead_any (s : ByteArray) (w : World) (hs : s.size ≤ 120) (cu pa : Int) (hc : Bool)
    (hT : hc = true → hasC s ∧ ¬ nxP s (nxP s 0) < 0 ∧ plainI (hdP s (nxP s 0)) = cu ∧ nxP s (nxP s 0) = pa) (hF : hc = false → ¬ hasC s ∧ cu = -1 ∧ pa = 0) :
    Calls Tryd.prog 5 #[.string s] w (Grew (rdO (cand2 s cu pa) s) w) := by
  have hz := nxP_in s 0 (Nat.zero_le _)
  have OR := (Own.new (w := w) (g := w.heap.size) (by rfl) [I 0, I 0, I 0, I 0, I 0, .string ⟨#[]⟩, I 0] 23).alloc (.cells #[I 0, I 0, I 0, I 0, I 0, .string ⟨#[]⟩, I (-1)] 23)
  have OA := Own.new (w := (w.alloc (.cells #[I 0, I 0, I 0, I 0, I 0, .string ⟨#[]⟩, I 0] 23))) (g := w.heap.size + 1) (by simp) [I 0, I 0, I 0, I 0, I 0, .string ⟨#[]⟩, I (-1)] 23
  have bx0 := boxed_below w (.cells #[I 0, I 0, I 0, I 0, I 0, .string ⟨#[]⟩, I 0] 23)
  have KB := bx0.alloc bx0.size (.cells #[I 0, I 0, I 0, I 0, I 0, .string ⟨#[]⟩, I (-1)] 23)
  clear bx0
  have R0 := Lib.hid (show RdX w _ [I 0, I 0, I 0, I 0, I 0, .string ⟨#[]⟩, I (-1)] from ⟨OR, OA, KB⟩)
  have X0 := Lib.hid (fun W => next_at s 0 W (by omega) (by omega) (by omega))
  have X1 := Lib.hid (fun W (h : 0 < nxP s 0) => next_at s (nxP s 0) W (by omega) (by omega) (by omega))
  have hpa : 0 ≤ pa ∧ pa ≤ s.size := by
    cases hc with
    | true =>
      have h := hT rfl
      have h2 := h.2.1
      have h3 := (nxP_in s (nxP s 0) (by have := h.1.2; omega)).2
      rw [h.2.2.2] at h2 h3
      exact ⟨by omega, h3⟩
    | false =>
      have h := (hF rfl).2.2
      exact ⟨by omega, by omega⟩
  have hpz := nxP_in s pa (by omega)
  have X2 := Lib.hid (fun W => next_at s pa W hpa.1 hpa.2 (by omega))
  have PL := Lib.hid (fun W => plain_any (hdP s (nxP s 0)) W)
  have HC := Lib.hid (show (hc = true ↔ hdP s 0 = kCut ∧ 0 < nxP s 0) by
    cases hc with
    | true => exact ⟨fun _ => (hT rfl).1, fun _ => rfl⟩
    | false => exact ⟨fun e => absurd e (by decide), fun e => absurd e (hF rfl).1⟩)
  have HT := Lib.hid (show hc = true → 0 < nxP s 0 ∧ ¬ nxP s (nxP s 0) < 0 ∧ plainI (hdP s (nxP s 0)) = cu ∧ nxP s (nxP s 0) = pa from fun e => ⟨(hT e).1.2, (hT e).2⟩)
  have HF := Lib.hid (show hc = false → cu = -1 ∧ hdP s 0 = hdP s pa ∧ nxP s 0 = nxP s pa from fun e => ⟨(hF e).2.1, by rw [(hF e).2.2], by rw [(hF e).2.2]⟩)
  have j120 : (s.size : Int) ≤ 120 := by omega
  have HSZ := Lib.hid hpa
  have HPZ := Lib.hid hpz
  have HS := Lib.hid hs
  clear hT hF OR OA KB hz hpa hpz hs
  generalize hdP s 0 = h0 at *
  generalize plainI (hdP s (nxP s 0)) = pv at *
  generalize hdP s (nxP s 0) = h1 at *
  generalize nxP s (nxP s 0) = p1 at *
  generalize nxP s 0 = p0 at *
  go_enter Tryd.func5, Tryd.ntmps5
  go_upto_region 6 with (go_at_call 11; refine (X0.out _).mono ?_; rintro e w1 ⟨rfl, rfl⟩)
  go_cut [40] (fun s40 wx => s40 = .bool hc ∧ RdX w wx [I 0, I 0, I 0, I 0, I 0, .string ⟨#[]⟩, I (-1)] ∧ wx.heap.size = w.heap.size + 2)
  case first =>
    have RZ := Lib.hid (show ((w.alloc (.cells #[I 0, I 0, I 0, I 0, I 0, .string ⟨#[]⟩, I 0] 23)).alloc (.cells #[I 0, I 0, I 0, I 0, I 0, .string ⟨#[]⟩, I (-1)] 23)).heap.size = w.heap.size + 2 by simp)
    generalize ((w.alloc (.cells #[I 0, I 0, I 0, I 0, I 0, .string ⟨#[]⟩, I 0] 23)).alloc (.cells #[I 0, I 0, I 0, I 0, I 0, .string ⟨#[]⟩, I (-1)] 23)) = W0 at *
    by_cases h1 : h0 = kCut
    · have hw1 := cut_eq h1
      by_cases h2 : 0 < p0
      · have hq := HC.out.2 ⟨h1, h2⟩
        clear h1
        go_wp2_with fail
        go_meet
        exact ⟨congrArg Value.bool hq.symm, R0.out, RZ.out⟩
      · have hq : hc = false := by
          cases hc with
          | true => exact absurd (HC.out.1 rfl).2 h2
          | false => rfl
        clear h1
        go_wp2_with fail
        go_meet
        exact ⟨congrArg Value.bool hq.symm, R0.out, RZ.out⟩
    · have hw1 := cut_ne h1
      have hq : hc = false := by
        cases hc with
        | true => exact absurd (HC.out.1 rfl).1 h1
        | false => rfl
      clear h1
      go_wp2_with fail
      go_meet
      exact ⟨congrArg Value.bool hq.symm, R0.out, RZ.out⟩
  case rest =>
    obtain ⟨rfl, R, hsz⟩ := hcut
    have R := Lib.hid R
    have HZ := Lib.hid hsz
    clear R0 HC hsz X0
    go_upto_if 40 with fail
    go_cut [6, 7] (fun s6 s7 wx => s6 = .string (hdP s pa) ∧ s7 = I (nxP s pa) ∧ RdX w wx [I 0, I 0, I 0, I 0, I 0, .string ⟨#[]⟩, I cu] ∧ wx.heap.size = w.heap.size + 2)
    case first =>
      cases hc with
      | true =>
        obtain ⟨hp0, hp1, rfl, rfl⟩ := HT.out rfl
        have R1 := Lib.hid (R.out.setA 6 (I pv))
        have HZ1 := Lib.hid (show (wc.setCell ⟨w.heap.size + 1, 6, none⟩ (I pv)).heap.size = w.heap.size + 2 by rw [← HZ.out]; simp [World.setCell])
        have hn : ¬ p1 < 0 := by omega
        have aO := R.out.a
        have afA := aO.f; have a0 := aO.c0; have a1 := aO.c1; have a2 := aO.c2; have a3 := aO.c3; have a4 := aO.c4; have a5 := aO.c5; have a6 := aO.c6
        clear aO
        have rO := R.out.r
        have rfA := rO.f; have r0 := rO.c0; have r1 := rO.c1; have r2 := rO.c2; have r3 := rO.c3; have r4 := rO.c4; have r5 := rO.c5; have r6 := rO.c6
        clear rO
        clear HT HF
        go_wp2_with (first
          | (go_at_call 12; refine (PL.out _).mono ?_; rintro e w1 ⟨rfl, rfl⟩)
          | (go_at_call 11; refine (X1.out _ hp0).mono ?_; rintro e w1 ⟨rfl, rfl⟩; clear X1)
          | (go_at_call 11; refine (X2.out _).mono ?_; rintro e w1 ⟨rfl, rfl⟩))
        go_meet
        exact ⟨rfl, rfl, R1.out, HZ1.out⟩
      | false =>
        obtain ⟨e1, e2, e3⟩ := HF.out rfl
        subst e1
        go_wp2_with fail
        go_meet
        exact ⟨rfl, rfl, R.out, HZ.out⟩
    case rest =>
      obtain ⟨rfl, rfl, R, hsz⟩ := hcut
      have R := Lib.hid R
      clear X1 X2 PL HT HF HZ
      have KE := Lib.hid (kdR_end (hdP s pa))
      have KQ := Lib.hid (fun k hk => kindOf_eqI (hdP s pa) k hk)
      have KI := Lib.hid (kindOf_in (hdP s pa))
      have CN := Lib.hid (fun i (hi : i ≤ 4) (h : stR s (hasR (kindOf (hdP s pa))) (nxP s pa) i = none) => (show rdO (cand2 s cu pa) s = T2 (.agg #[I 0, I 0, I 0, I 0, I 0, .string ⟨#[]⟩, I 0]) (I 3) by rw [cand2_none (s := s) (cu := cu) (pa := pa) (i := i) hi h]; rfl))
      have CS := Lib.hid (fun (p n0 n1 n2 n3 : Int) (h : stR s (hasR (kindOf (hdP s pa))) (nxP s pa) 4 = some ([n0, n1, n2, n3], p)) => (show rdO (cand2 s cu pa) s = rdV ⟨kindOf (hdP s pa), n0, n1, n2, n3, if kindOf (hdP s pa) = 6 ∧ 0 ≤ p then frm s p.toNat else ⟨#[]⟩, cu⟩ s by rw [cand2_some (s := s) (cu := cu) (pa := pa) (p := p) (n0 := n0) (n1 := n1) (n2 := n2) (n3 := n3) h]; rfl))
      generalize kindOf (hdP s pa) = K at *
      generalize hdP s pa = wd at *
      generalize nxP s pa = p0' at *
      generalize rdO (cand2 s cu pa) s = VA at *
      go_wp2_with fail
      go_loopw [10] (fun s10 wr => ∃ k : Int, 1 ≤ k ∧ k ≤ 8 ∧ s10 = I k ∧ wr.heap.size = w.heap.size + 2 ∧ Hid (RdX w wr [I (kdR K k), I 0, I 0, I 0, I 0, .string ⟨#[]⟩, I cu])) (fun i _ => 8 - (intOf i).toNat)
      case atStart => exact ⟨1, by decide, by decide, rfl, hsz, by rw [kdR_one]; exact R⟩
      case round =>
        clear R hsz
        obtain ⟨k, hk1, hk8, rfl, hsz, R⟩ := hrel
        have AW := fun W => ActWord_any k W
        by_cases hlt : k ≤ 7
        · have hq := KQ.out k ⟨hk1, hlt⟩
          have aO := R.out.a
          have afA := aO.f; have a0 := aO.c0; have a1 := aO.c1; have a2 := aO.c2; have a3 := aO.c3; have a4 := aO.c4; have a5 := aO.c5; have a6 := aO.c6
          clear aO
          by_cases hw : actW k = wd
          · have R1 := Lib.hid (R.out.setA 0 (I k))
            have e1 := kdR_yes K k (hq.1 hw) hk1
            have hsz1 : (wr.setCell ⟨w.heap.size + 1, 0, none⟩ (I k)).heap.size = w.heap.size + 2 := by rw [← hsz]; simp [World.setCell]
            rw [hw] at AW
            have hw1 : (wd.toList == wd.toList) = true := beq_self_eq_true _
            clear hq hw KQ CN CS KE KI
            generalize actA k = fA at *
            generalize actB k = fB at *
            generalize actC k = fC at *
            have HQ := Lib.hid hsz1
            clear hsz1 R
            go_wp2_with (go_at_call 13; refine (AW _).mono ?_; rintro e w1 ⟨rfl, rfl⟩)
            exact ⟨⟨k + 1, by omega, by omega, by go_num, HQ.out, by rw [e1]; exact R1⟩, by simp [intOf]; omega⟩
          · have e1 := kdR_no K k (fun e => hw (hq.2 e))
            have hw1 := str_ne hw
            clear hq hw KQ CN CS KE KI
            generalize actW k = fW at *
            generalize actA k = fA at *
            generalize actB k = fB at *
            generalize actC k = fC at *
            go_wp2_with (go_at_call 13; refine (AW _).mono ?_; rintro e w1 ⟨rfl, rfl⟩)
            exact ⟨⟨k + 1, by omega, by omega, by go_num, hsz, by rw [e1]; exact R⟩, by simp [intOf]; omega⟩
        · obtain rfl : k = 8 := by omega
          have R := Lib.hid R.out
          rw [KE.out] at R
          clear KE KQ AW
          have AW := Lib.hid (fun W => ActWord_any K W)
          have H4 := Lib.hid (has4_at (actA K) (actB K) (actC K) (hasR K) rfl rfl rfl rfl)
          generalize actA K = fA at *
          generalize actB K = fB at *
          generalize actC K = fC at *
          generalize actW K = fW at *
          have OH := (Own.new (w := wr) rfl [.bool true, .bool fA, .bool fB, .bool fC] 4).alloc (.cells #[I 0, I 0, I 0, I 0] 49)
          have ON := Own.new (w := wr.alloc (.cells #[.bool true, .bool fA, .bool fB, .bool fC] 4)) rfl [I 0, I 0, I 0, I 0] 49
          have R2 := Lib.hid ((R.out.below (boxed_below _ (.cells #[.bool true, .bool fA, .bool fB, .bool fC] 4))).below (boxed_below _ (.cells #[I 0, I 0, I 0, I 0] 49)))
          rw [show (wr.alloc (.cells #[.bool true, .bool fA, .bool fB, .bool fC] 4)).heap.size = wr.heap.size + 1 by simp] at ON
          rw [hsz] at OH ON
          have OH := Lib.hid OH
          have ON := Lib.hid ON
          have aO := R.out.a
          have afA := aO.f; have a0 := aO.c0; have a1 := aO.c1; have a2 := aO.c2; have a3 := aO.c3; have a4 := aO.c4; have a5 := aO.c5; have a6 := aO.c6
          clear aO
          go_wp2_with (go_at_call 13; refine (AW.out _).mono ?_; rintro e w1 ⟨rfl, rfl⟩)
          clear AW a0 a1 a2 a3 a4 a5 a6 afA R KI
          go_loopw [7, 21] (fun s7 s21 wr => ∃ (i : Nat) (l : List Int) (p : Int), i ≤ 4 ∧ s21 = I i ∧ s7 = I p ∧ l.length = 4 ∧ (-1 ≤ p ∧ p ≤ s.size) ∧ Hid (stR s (hasR K) p0' i = some (l, p)) ∧ Hid (Own wr (w.heap.size + 2) (has4 fA fB fC)) ∧ Hid (Own wr (w.heap.size + 2 + 1) (l.map I)) ∧ Hid (RdX w wr [I K, I 0, I 0, I 0, I 0, .string ⟨#[]⟩, I cu])) (fun _ s21 _ => 4 - (intOf s21).toNat)
          case atStart => exact ⟨0, [0, 0, 0, 0], p0', by decide, rfl, rfl, rfl, HPZ.out, Lib.hid rfl, OH, ON, R2⟩
          case round =>
            clear OH ON R2 hsz
            obtain ⟨i, l, p, hi, rfl, rfl, hl, hp, HST, OH, ON, R⟩ := hrel
            by_cases hlt : i < 4
            · have x0 := OH.out.cell i (by show i < 4; exact hlt)
              rw [Nat.zero_add, H4.out i hlt] at x0
              have i0 : (0 : Int) ≤ (i : Int) := by omega
              have i1 : (i : Int) < 4 := by omega
              cases hh : hasR K i with
              | false =>
                have ST := Lib.hid (stR_skip HST.out hh)
                rw [hh] at x0
                clear HST H4 CN CS hh
                go_wp2_with fail
                exact ⟨⟨i + 1, l, p, by omega, by go_num, rfl, hl, hp, ST, OH, ON, R⟩, by simp [intOf]; omega⟩
              | true =>
                rw [hh] at x0
                by_cases hn : p < 0
                · have hV := CN.out (i + 1) (by omega) (stR_fail HST.out hh hn)
                  subst hV
                  have KB := R.out.b
                  have rO := R.out.r
                  have rfA := rO.f; have r0 := rO.c0; have r1 := rO.c1; have r2 := rO.c2; have r3 := rO.c3; have r4 := rO.c4; have r5 := rO.c5; have r6 := rO.c6
                  clear rO
                  clear HST H4 CS CN hh OH ON R
                  go_wp2_with fail
                  exact bodyPost_ret (v := T2 (.agg #[I 0, I 0, I 0, I 0, I 0, .string ⟨#[]⟩, I 0]) (I 3)) (by simp [results, Tryd.results5, go_sem, *]; try omega) rfl (⟨rfl, below_autor⟩)
                · have y0 := ON.out.cell i (by rw [List.length_map]; omega)
                  rw [Nat.zero_add] at y0
                  have yf := ON.out.frozen i
                  have hq := nxP_in s p (by omega)
                  have NX := Lib.hid (fun W => next_at s p W (by omega) hp.2 (by have := HS.out; omega))
                  have PL := Lib.hid (fun W => plain_any (hdP s p) W)
                  have ST := Lib.hid (stR_take HST.out hh hn)
                  have ON2 := Lib.hid (show ∀ v : Int, Own (wr.setCell ⟨w.heap.size + 2 + 1, i, none⟩ (I v)) (w.heap.size + 2 + 1) ((l.set i v).map I) from fun v => by rw [List.map_set]; exact ON.out.set i (I v))
                  have OH2 := Lib.hid (fun v : Int => OH.out.other (a := ⟨w.heap.size + 2 + 1, i, none⟩) (by show w.heap.size + 2 + 1 ≠ w.heap.size + 2; omega) (I v))
                  have R2 := Lib.hid (fun v : Int => R.out.other (a := ⟨w.heap.size + 2 + 1, i, none⟩) (by show w.heap.size + 2 ≤ w.heap.size + 2 + 1; omega) (I v))
                  clear HST H4 CN CS hh OH ON R
                  generalize plainI (hdP s p) = v at *
                  generalize hdP s p = hd at *
                  generalize nxP s p = q at *
                  generalize (l.map I).getD i undef = lv at *
                  go_wp2_with (first
                    | (go_at_call 11; refine (NX.out _).mono ?_; rintro e w1 ⟨rfl, rfl⟩)
                    | (go_at_call 12; refine (PL.out _).mono ?_; rintro e w1 ⟨rfl, rfl⟩))
                  exact ⟨⟨i + 1, l.set i v, q, by omega, by go_num, rfl, by rw [List.length_set]; exact hl, hq, ST, Lib.hid (OH2.out v), Lib.hid (ON2.out v), Lib.hid (R2.out v)⟩, by simp [intOf]; omega⟩
            · obtain rfl : i = 4 := by omega
              obtain ⟨n0, n1, n2, n3, rfl⟩ := list4 hl
              have hC := CS.out p n0 n1 n2 n3 HST.out
              have HT6 := Lib.hid (show ∀ te, te = (if K = 6 ∧ 0 ≤ p then frm s p.toNat else ⟨#[]⟩) → te.size ≤ s.size ∧ (K = 6 ∧ 0 ≤ p → te = s.extract p.toNat s.size) ∧ (¬ (K = 6 ∧ 0 ≤ p) → te = ⟨#[]⟩) from fun te h => by
                by_cases hc : K = 6 ∧ 0 ≤ p
                · rw [if_pos hc] at h
                  exact ⟨by rw [h]; exact frm_size s _, fun _ => h, fun n => absurd hc n⟩
                · rw [if_neg hc] at h
                  exact ⟨by rw [h]; exact Nat.zero_le _, fun y => absurd y hc, fun _ => h⟩)
              generalize hte : (if K = 6 ∧ 0 ≤ p then frm s p.toNat else (⟨#[]⟩ : ByteArray)) = te at hC
              obtain ⟨htz, ht6, ht0⟩ := HT6.out te hte.symm
              have TE6 := Lib.hid ht6
              have TE0 := Lib.hid ht0
              clear hte ht6 ht0 HT6 CS CN HST H4 OH
              have RO := Lib.hid (fun h h2 => rdV_ok (ki := K) (me := n0) (a := n1) (b := n2) (c := n3) (cu := cu) (te := te) (s := s) h h2)
              have RB := Lib.hid (fun h => rdV_bad (ki := K) (me := n0) (a := n1) (b := n2) (c := n3) (cu := cu) (te := te) (s := s) h)
              have SH := Lib.hid (fun W => ActShown_any K n0 n1 n2 n3 cu te W (by have := HS.out; omega))
              unfold AcP at SH
              rw [← hC] at RO RB
              clear hC
              generalize acT K n0 n1 n2 n3 te cu = t at *
              generalize acE K n0 n1 n2 n3 te cu = e at *
              have RF := Lib.hid (show RdX w _ [I K, I n0, I n1, I n2, I n3, .string ⟨#[]⟩, I cu] from ((((R.out.setA 1 (I n0)).setA 2 (I n1)).setA 3 (I n2)).setA 4 (I n3)))
              have r1 := set_same
              have r2 := set_off
              have r3 := set_blk
              have m1 : ¬ w.heap.size + 1 = w.heap.size + 2 + 1 := by omega
              have m2 : ¬ w.heap.size + 2 + 1 = w.heap.size + 1 := by omega
              have yO := ON.out
              have yfA := yO.f; have y0 := yO.c0; have y1 := yO.c1; have y2 := yO.c2; have y3 := yO.c3
              clear yO
              have aO := R.out.a
              have afA := aO.f; have a0 := aO.c0; have a1 := aO.c1; have a2 := aO.c2; have a3 := aO.c3; have a4 := aO.c4; have a5 := aO.c5; have a6 := aO.c6
              clear aO
              clear R ON
              go_upto_region 35 with fail
              go_cut [127] (fun s127 wx => s127 = .bool (decide (K = 6 ∧ 0 ≤ p)) ∧ RdX w wx [I K, I n0, I n1, I n2, I n3, .string ⟨#[]⟩, I cu])
              case first =>
                have zO := RF.out.a
                have zfA := zO.f; have z0 := zO.c0; have z1 := zO.c1; have z2 := zO.c2; have z3 := zO.c3; have z4 := zO.c4; have z5 := zO.c5; have z6 := zO.c6
                clear zO
                generalize (((((wr.setCell ⟨w.heap.size + 1, 1, none⟩ (.int .i64 n0)).setCell ⟨w.heap.size + 1, 2, none⟩ (.int .i64 n1)).setCell ⟨w.heap.size + 1, 3, none⟩ (.int .i64 n2)).setCell ⟨w.heap.size + 1, 4, none⟩ (.int .i64 n3))) = W4 at *
                clear a0 a1 a2 a3 a4 a5 a6 afA y0 y1 y2 y3 yfA TE6 TE0 RO RB SH
                by_cases h6 : K = 6
                · by_cases hp0 : 0 ≤ p
                  · have hd : decide (K = 6 ∧ 0 ≤ p) = true := decide_eq_true ⟨h6, hp0⟩
                    have hk : (K == 6) = true := by simp [h6]
                    clear h6
                    go_wp2_with fail
                    go_meet
                    exact ⟨congrArg Value.bool hd.symm, RF.out⟩
                  · have hd : decide (K = 6 ∧ 0 ≤ p) = false := decide_eq_false (fun h => hp0 h.2)
                    have hk : (K == 6) = true := by simp [h6]
                    clear h6
                    go_wp2_with fail
                    go_meet
                    exact ⟨congrArg Value.bool hd.symm, RF.out⟩
                · have hd : decide (K = 6 ∧ 0 ≤ p) = false := decide_eq_false (fun h => h6 h.1)
                  have hk : (K == 6) = false := by simp [h6]
                  clear h6
                  go_wp2_with fail
                  go_meet
                  exact ⟨congrArg Value.bool hd.symm, RF.out⟩
              case rest =>
                obtain ⟨rfl, R⟩ := hcut
                have R := Lib.hid R
                clear RF a0 a1 a2 a3 a4 a5 a6 afA y0 y1 y2 y3 yfA
                go_upto_if 127 with fail
                go_cut [] (fun wx => RdX w wx [I K, I n0, I n1, I n2, I n3, .string te, I cu])
                case first =>
                  by_cases h6 : K = 6 ∧ 0 ≤ p
                  · have hd : decide (K = 6 ∧ 0 ≤ p) = true := decide_eq_true h6
                    have et := TE6.out h6
                    have RT := Lib.hid (R.out.setA 5 (.string te))
                    have j1 : 0 ≤ p := h6.2
                    have j2 : p ≤ (s.size : Int) := hp.2
                    have aO := R.out.a
                    have afA := aO.f; have a0 := aO.c0; have a1 := aO.c1; have a2 := aO.c2; have a3 := aO.c3; have a4 := aO.c4; have a5 := aO.c5; have a6 := aO.c6
                    clear aO
                    clear R h6 RO RB SH TE6 TE0 hp
                    rw [et] at RT
                    rw [hd]
                    go_wp2_with fail
                    go_meet
                    rw [et]
                    exact RT.out
                  · have hd : decide (K = 6 ∧ 0 ≤ p) = false := decide_eq_false h6
                    have et := TE0.out h6
                    clear RO RB SH TE6 TE0
                    rw [hd]
                    go_wp2_with fail
                    go_meet
                    rw [et]
                    exact R.out
                case rest =>
                  have R7 := Lib.hid hcut
                  clear hcut R TE6 TE0
                  have aO := R7.out.a
                  have afA := aO.f; have a0 := aO.c0; have a1 := aO.c1; have a2 := aO.c2; have a3 := aO.c3; have a4 := aO.c4; have a5 := aO.c5; have a6 := aO.c6
                  clear aO
                  by_cases he : e = 0
                  · by_cases ht : t = s
                    · have hV := RO.out he ht
                      subst he
                      subst ht
                      have hw1 : (t.toList == t.toList) = true := beq_self_eq_true _
                      clear RO RB
                      go_wp2_with (
                        go_at_call 14
                        refine (SH.out _).mono ?_
                        rintro e2 w2 ⟨rfl, k2⟩
                        have KB := (R7.out.below k2).b
                        have QA := Lib.hid (R7.out.below k2).a
                        have QR := Lib.hid (R7.out.below k2).r
                        clear a0 a1 a2 a3 a4 a5 a6 afA R7 k2
                        have aO := QA.out
                        have afA := aO.f; have a0 := aO.c0; have a1 := aO.c1; have a2 := aO.c2; have a3 := aO.c3; have a4 := aO.c4; have a5 := aO.c5; have a6 := aO.c6
                        clear aO
                        have rO := QR.out
                        have rfA := rO.f; have r0 := rO.c0; have r1 := rO.c1; have r2 := rO.c2; have r3 := rO.c3; have r4 := rO.c4; have r5 := rO.c5; have r6 := rO.c6
                        clear rO
                        clear QA QR)
                      exact bodyPost_ret (v := T2 (.agg #[I K, I n0, I n1, I n2, I n3, .string te, I cu]) (I 0)) (by simp [results, Tryd.results5, go_sem, *]; try omega) rfl (⟨by rw [hV], below_autor⟩)
                    · have hV := RB.out (Or.inr ht)
                      subst he
                      have hw1 := str_ne ht
                      clear RO RB ht
                      go_wp2_with (
                        go_at_call 14
                        refine (SH.out _).mono ?_
                        rintro e2 w2 ⟨rfl, k2⟩
                        have KB := (R7.out.below k2).b
                        have QA := Lib.hid (R7.out.below k2).a
                        have QR := Lib.hid (R7.out.below k2).r
                        clear a0 a1 a2 a3 a4 a5 a6 afA R7 k2
                        have aO := QA.out
                        have afA := aO.f; have a0 := aO.c0; have a1 := aO.c1; have a2 := aO.c2; have a3 := aO.c3; have a4 := aO.c4; have a5 := aO.c5; have a6 := aO.c6
                        clear aO
                        have rO := QR.out
                        have rfA := rO.f; have r0 := rO.c0; have r1 := rO.c1; have r2 := rO.c2; have r3 := rO.c3; have r4 := rO.c4; have r5 := rO.c5; have r6 := rO.c6
                        clear rO
                        clear QA QR)
                      exact bodyPost_ret (v := T2 (.agg #[I 0, I 0, I 0, I 0, I 0, .string ⟨#[]⟩, I 0]) (I 3)) (by simp [results, Tryd.results5, go_sem, *]; try omega) rfl (⟨by rw [hV], below_autor⟩)
                  · have hV := RB.out (Or.inl he)
                    have he1 : (e == 0) = false := by simp [he]
                    clear RO RB
                    go_wp2_with (
                      go_at_call 14
                      refine (SH.out _).mono ?_
                      rintro e2 w2 ⟨rfl, k2⟩
                      have KB := (R7.out.below k2).b
                      have QA := Lib.hid (R7.out.below k2).a
                      have QR := Lib.hid (R7.out.below k2).r
                      clear a0 a1 a2 a3 a4 a5 a6 afA R7 k2
                      have aO := QA.out
                      have afA := aO.f; have a0 := aO.c0; have a1 := aO.c1; have a2 := aO.c2; have a3 := aO.c3; have a4 := aO.c4; have a5 := aO.c5; have a6 := aO.c6
                      clear aO
                      have rO := QR.out
                      have rfA := rO.f; have r0 := rO.c0; have r1 := rO.c1; have r2 := rO.c2; have r3 := rO.c3; have r4 := rO.c4; have r5 := rO.c5; have r6 := rO.c6
                      clear rO
                      clear QA QR)
                    exact bodyPost_ret (v := T2 (.agg #[I 0, I 0, I 0, I 0, I 0, .string ⟨#[]⟩, I 0]) (I 3)) (by simp [results, Tryd.results5, go_sem, *]; try omega) rfl (⟨by rw [hV], below_autor⟩)
end Go.Proofs.YtfhmcahfjoliiaaDoor
