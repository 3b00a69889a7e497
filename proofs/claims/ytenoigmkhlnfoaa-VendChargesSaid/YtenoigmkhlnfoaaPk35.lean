/- (*book.keeper).keep: events that may not be; registers · (*book.keeper).keep: a meter that is not there · a customer of a book is turned in place, as the program does it: the account first, then what was sold -/
import Derived.Test.YtenoigmkhlnfoaaPk33
import Derived.Test.YtenoigmkhlnfoaaPk28
namespace Go.Proofs.Ytenoigmkhlnfoaa
set_option linter.unusedSimpArgs false
set_option linter.unusedVariables false
open Go Go.RowKit
set_option maxRecDepth 20000
set_option maxHeartbeats 8000000 in
theorem keep_no (t : PTerms) (tv : Value) (A B kb mb : Nat) (cs : List PCust) (v : AEvent) (w : World) (hm : v.may = false) : Calls Try.prog 30 #[.pointer (some ⟨kb, 0, none⟩), v.v] w (KeepP A B kb mb t tv cs v w) := by
  have h5 := Lib.hid (evE_no (t := t) (cs := cs) hm)
  obtain ⟨ki, me, mo, ⟨id, te, de, fe, pr, ch, un⟩, ta, ⟨ow, bp⟩⟩ := v
  have C := Lib.hid (fun W => check_any me mo id te de fe pr ch un ta ow bp ki W)
  rw [show evMay ki me mo id te de fe pr ch un ta ow bp = false from hm] at C
  clear hm
  have oV := Own.new (w := w) (g := w.heap.size) (by rfl) [I ki, I me, I mo, I id, I te, I de, I fe, I pr, I ch, I un, I ta, I ow, I bp] 72
  have kB := boxed_below w (.cells #[I ki, I me, I mo, I id, I te, I de, I fe, I pr, I ch, I un, I ta, I ow, I bp] 72)
  go_enter Try.func30, Try.ntmps30
  go_wp2_with fail
  refine (C.out _).mono ?_
  rintro e w1 ⟨he, k1⟩
  simp only [Bool.false_eq_true, if_false] at he
  subst he
  exact ⟨rfl, KeepP.no h5.out (by decide) (kB.trans (k1.mono kB.size))⟩
set_option maxHeartbeats 8000000 in
theorem keep_twice (t : PTerms) (tv v : Value) (A B kb mb : Nat) (cs : List PCust) (ys : List ACust) (me mo id te de fe pr ch un ta ow bp : Int) (w : World) (hm : evMay 1 me mo id te de fe pr ch un ta ow bp = true) (hme : I64 me)
    (oK : Own w kb [v, tv, I t.f, I t.b, I t.d, I t.al, .map (some mb)]) (oM : OwnIdx w mb (cs.map fun c => c.acc.meter)) (hB : BookAt w B v cs ys) (ha : 0 ≤ idxOf cs me) :
    Calls Try.prog 30 #[.pointer (some ⟨kb, 0, none⟩), evV 1 me mo id te de fe pr ch un ta ow bp] w (KeepP A B kb mb t tv cs ⟨1, me, mo, ⟨id, te, de, fe, pr, ch, un⟩, ta, ⟨ow, bp⟩⟩ w) := by
  have h5 := Lib.hid (evE_twice (t := t) (cs := cs) (v := ⟨1, me, mo, ⟨id, te, de, fe, pr, ch, un⟩, ta, ⟨ow, bp⟩⟩) hm rfl ha)
  have C := Lib.hid (fun W => check_any me mo id te de fe pr ch un ta ow bp 1 W)
  rw [hm] at C
  have HA : Hid (0 ≤ findI me (cs.map fun c => c.acc.meter) 0) := ha
  clear hm ha
  have HB := Lib.hid hB
  have oV := Own.new (w := w) (g := w.heap.size) (by rfl) [I 1, I me, I mo, I id, I te, I de, I fe, I pr, I ch, I un, I ta, I ow, I bp] 72
  have kB := boxed_below w (.cells #[I 1, I me, I mo, I id, I te, I de, I fe, I pr, I ch, I un, I ta, I ow, I bp] 72)
  have HK := Lib.hid oK
  have HM := Lib.hid oM
  clear hB oK oM
  go_enter Try.func30, Try.ntmps30
  go_wp2_with fail
  refine (C.out _).mono ?_
  rintro e w1 ⟨he, k1⟩
  simp only [if_true] at he
  subst he
  have kw1 := kB.trans (k1.mono kB.size)
  have oV1 := oV.below k1
  have oK1 := HK.out.below kw1
  have oM1 := HM.out.below kw1
  have hsz1 : w.heap.size + 1 ≤ w1.heap.size := by have := k1.size; simp at this; omega
  clear oV kB k1 C
  go_upto_region 2 with fail
  go_cut [4, 5] (fun s4 s5 wx => s4 = I (idxA (cs.map fun c => c.acc.meter) me) ∧ s5 = .bool (decide (0 ≤ findI me (cs.map fun c => c.acc.meter) 0)) ∧ Own wx kb [v, tv, I t.f, I t.b, I t.d, I t.al, .map (some mb)] ∧ Own wx w.heap.size [I 1, I me, I mo, I id, I te, I de, I fe, I pr, I ch, I un, I ta, I ow, I bp] ∧ OwnIdx wx mb (cs.map fun c => c.acc.meter) ∧ Below w.heap.size w wx ∧ w.heap.size + 1 ≤ wx.heap.size)
  case first =>
    have L := run_lookI (w := w1.drew) oM1 hme
    have HK1 := Lib.hid oK1
    have HV1 := Lib.hid oV1
    have HM1 := Lib.hid oM1
    have KW1 := Lib.hid kw1
    have kO := oK1
    have kfA := kO.f; have k0 := kO.c0; have k1 := kO.c1; have k2 := kO.c2; have k3 := kO.c3; have k4 := kO.c4; have k5 := kO.c5; have k6 := kO.c6
    clear kO
    have vO := oV1
    have vfA := vO.f; have v0 := vO.c0; have v1 := vO.c1; have v2 := vO.c2; have v3 := vO.c3; have v4 := vO.c4; have v5 := vO.c5; have v6 := vO.c6; have v7 := vO.c7; have v8 := vO.c8; have v9 := vO.c9; have v10 := vO.c10; have v11 := vO.c11; have v12 := vO.c12
    clear vO
    clear oK1 oV1 oM1 kw1
    go_region
    all_goals
      go_wp2_with fail
      go_meet
      exact ⟨rfl, rfl, HK1.out, HV1.out, HM1.out, Below.drew KW1.out, hsz1⟩
  case rest =>
    obtain ⟨rfl, rfl, oK2, oV2, oM2, kw2, hsz2⟩ := hcut
    clear oK1 oV1 oM1 kw1 hsz1
    have ha' := HA.out
    generalize findI me (cs.map fun c => c.acc.meter) 0 = at_ at *
    generalize idxA (cs.map fun c => c.acc.meter) me = ai at *
    have KW2 := Lib.hid kw2
    have vO := oV2
    have vfA := vO.f; have v0 := vO.c0; have v1 := vO.c1; have v2 := vO.c2; have v3 := vO.c3; have v4 := vO.c4; have v5 := vO.c5; have v6 := vO.c6; have v7 := vO.c7; have v8 := vO.c8; have v9 := vO.c9; have v10 := vO.c10; have v11 := vO.c11; have v12 := vO.c12
    clear vO
    clear oK2 oM2 kw2 HB HK HM
    go_wp2_with fail
    refine (want_no _ _).mono ?_
    rintro e w' ⟨rfl, rfl⟩
    exact ⟨rfl, KeepP.no h5.out (by decide) KW2.out⟩
end Go.Proofs.Ytenoigmkhlnfoaa
namespace Go.Proofs.Ytenoigmkhlnfoaa
set_option linter.unusedSimpArgs false
set_option linter.unusedVariables false
open Go Go.RowKit
set_option maxRecDepth 20000
set_option maxHeartbeats 8000000 in
theorem keep_none (t : PTerms) (tv v : Value) (A B kb mb : Nat) (cs : List PCust) (ys : List ACust) (ki me mo id te de fe pr ch un ta ow bp : Int) (w : World) (hm : evMay ki me mo id te de fe pr ch un ta ow bp = true) (hme : I64 me) (hk : ¬ ki = 1)
    (oK : Own w kb [v, tv, I t.f, I t.b, I t.d, I t.al, .map (some mb)]) (oM : OwnIdx w mb (cs.map fun c => c.acc.meter)) (hB : BookAt w B v cs ys) (ha : ¬ 0 ≤ idxOf cs me) :
    Calls Try.prog 30 #[.pointer (some ⟨kb, 0, none⟩), evV ki me mo id te de fe pr ch un ta ow bp] w (KeepP A B kb mb t tv cs ⟨ki, me, mo, ⟨id, te, de, fe, pr, ch, un⟩, ta, ⟨ow, bp⟩⟩ w) := by
  have h5 := Lib.hid (evE_none (t := t) (cs := cs) (v := ⟨ki, me, mo, ⟨id, te, de, fe, pr, ch, un⟩, ta, ⟨ow, bp⟩⟩) hm hk ha)
  have C := Lib.hid (fun W => check_any me mo id te de fe pr ch un ta ow bp ki W)
  rw [hm] at C
  have HA : Hid (¬ 0 ≤ findI me (cs.map fun c => c.acc.meter) 0) := ha
  have hk' : (ki == 1) = false := by rw [beq_eq_false_iff_ne]; exact hk
  clear hm ha hk
  have HB := Lib.hid hB
  have oV := Own.new (w := w) (g := w.heap.size) (by rfl) [I ki, I me, I mo, I id, I te, I de, I fe, I pr, I ch, I un, I ta, I ow, I bp] 72
  have kB := boxed_below w (.cells #[I ki, I me, I mo, I id, I te, I de, I fe, I pr, I ch, I un, I ta, I ow, I bp] 72)
  have HK := Lib.hid oK
  have HM := Lib.hid oM
  clear hB oK oM
  go_enter Try.func30, Try.ntmps30
  go_wp2_with fail
  refine (C.out _).mono ?_
  rintro e w1 ⟨he, k1⟩
  simp only [if_true] at he
  subst he
  have kw1 := kB.trans (k1.mono kB.size)
  have oV1 := oV.below k1
  have oK1 := HK.out.below kw1
  have oM1 := HM.out.below kw1
  have hsz1 : w.heap.size + 1 ≤ w1.heap.size := by have := k1.size; simp at this; omega
  clear oV kB k1 C
  go_upto_region 2 with fail
  go_cut [4, 5] (fun s4 s5 wx => s4 = I (idxA (cs.map fun c => c.acc.meter) me) ∧ s5 = .bool (decide (0 ≤ findI me (cs.map fun c => c.acc.meter) 0)) ∧ Own wx kb [v, tv, I t.f, I t.b, I t.d, I t.al, .map (some mb)] ∧ Own wx w.heap.size [I ki, I me, I mo, I id, I te, I de, I fe, I pr, I ch, I un, I ta, I ow, I bp] ∧ OwnIdx wx mb (cs.map fun c => c.acc.meter) ∧ Below w.heap.size w wx ∧ w.heap.size + 1 ≤ wx.heap.size)
  case first =>
    have L := run_lookI (w := w1.drew) oM1 hme
    have HK1 := Lib.hid oK1
    have HV1 := Lib.hid oV1
    have HM1 := Lib.hid oM1
    have KW1 := Lib.hid kw1
    have kO := oK1
    have kfA := kO.f; have k0 := kO.c0; have k1 := kO.c1; have k2 := kO.c2; have k3 := kO.c3; have k4 := kO.c4; have k5 := kO.c5; have k6 := kO.c6
    clear kO
    have vO := oV1
    have vfA := vO.f; have v0 := vO.c0; have v1 := vO.c1; have v2 := vO.c2; have v3 := vO.c3; have v4 := vO.c4; have v5 := vO.c5; have v6 := vO.c6; have v7 := vO.c7; have v8 := vO.c8; have v9 := vO.c9; have v10 := vO.c10; have v11 := vO.c11; have v12 := vO.c12
    clear vO
    clear oK1 oV1 oM1 kw1
    go_region
    all_goals
      go_wp2_with fail
      go_meet
      exact ⟨rfl, rfl, HK1.out, HV1.out, HM1.out, Below.drew KW1.out, hsz1⟩
  case rest =>
    obtain ⟨rfl, rfl, oK2, oV2, oM2, kw2, hsz2⟩ := hcut
    clear oK1 oV1 oM1 kw1 hsz1
    have HD : decide (0 ≤ findI me (cs.map fun c => c.acc.meter) 0) = false := decide_eq_false (Int.not_le.2 HA.out)
    rw [HD]
    clear HD
    generalize idxA (cs.map fun c => c.acc.meter) me = ai
    have KW2 := Lib.hid kw2
    have vO := oV2
    have vfA := vO.f; have v0 := vO.c0; have v1 := vO.c1; have v2 := vO.c2; have v3 := vO.c3; have v4 := vO.c4; have v5 := vO.c5; have v6 := vO.c6; have v7 := vO.c7; have v8 := vO.c8; have v9 := vO.c9; have v10 := vO.c10; have v11 := vO.c11; have v12 := vO.c12
    clear vO
    clear oK2 oM2 kw2 HB HK HM
    go_wp2_with fail
    refine (want_no _ _).mono ?_
    rintro e w' ⟨rfl, rfl⟩
    exact ⟨rfl, KeepP.no h5.out (by decide) KW2.out⟩
end Go.Proofs.Ytenoigmkhlnfoaa
namespace Go.Proofs.Ytenoigmkhlnfoaa
set_option linter.unusedSimpArgs false
set_option linter.unusedVariables false
open Go Go.RowKit
set_option maxRecDepth 20000

/-- one world is another but for one block -/
def ButFor (g : Nat) (W W' : World) : Prop := (∀ z, z ≠ g → W'.heap[z]? = W.heap[z]?) ∧ W'.heap.size = W.heap.size ∧ W'.os = W.os ∧ W'.tape = W.tape ∧ W'.output = W.output
theorem ButFor.one (W : World) (g j : Nat) (v : Value) : ButFor g W (W.setCell ⟨g, j, none⟩ v) :=
  ⟨fun z hz => by simp [World.setCell, Array.getElem?_modify, show ¬ g = z by omega], by simp [World.setCell], rfl, rfl, rfl⟩
theorem ButFor.trans {g : Nat} {W W' W'' : World} (h : ButFor g W W') (k : ButFor g W' W'') : ButFor g W W'' :=
  ⟨fun z hz => (k.1 z hz).trans (h.1 z hz), k.2.1.trans h.2.1, k.2.2.1.trans h.2.2.1, k.2.2.2.1.trans h.2.2.2.1, k.2.2.2.2.trans h.2.2.2.2⟩
theorem ButFor.own {g z : Nat} {W W' : World} {cs : List Value} (k : ButFor g W W') (h : Own W z cs) (hz : z ≠ g) : Own W' z cs := by
  obtain ⟨cur, e, h, hc⟩ := h
  exact ⟨cur, e, (k.1 z hz).trans h, hc⟩
theorem ButFor.owns {g : Nat} {W W' : World} {base e sz n : Nat} {v : Value} {cs : List Value} (k : ButFor g W W') (h : W.ownsRow base e sz v n cs) (hz : v.ownBlock ≠ some g) : W'.ownsRow base e sz v n cs := owns_heap h fun z hz2 => k.1 z fun e => hz (e ▸ hz2)
theorem dblk_at {c : PCust} {ua sa : Option Addr} {uc sc z : Nat} (hz : dBlk (ofCust c ua uc sa sc) = some z) : ∃ off pr, ua = some ⟨z, off, pr⟩ ∧ 0 < c.debts.length := by
  unfold dBlk ofCust at hz
  simp only at hz
  split at hz
  · rename_i hp
    cases ua with
    | none => cases hz
    | some a =>
      obtain ⟨b, o, p⟩ := a
      injection hz with hz
      have hz : b = z := hz
      subst hz
      exact ⟨o, p, rfl, hp⟩
  · cases hz
theorem sl_lt {W : World} {z off sz n m cap : Nat} {pr : _} {cs : List Value} (h : Sl W (.slice (some ⟨z, off, pr⟩) m cap) sz n cs) (hn : 0 < n) : z < W.heap.size := by
  obtain ⟨a, c, hv, -, -, -, hr⟩ := h
  simp only [Value.slice.injEq] at hv
  rcases hr with hr | ⟨b, o, hb, hbl, -⟩
  · omega
  · rw [← hv.1] at hb
    injection hb with hb
    injection hb with hb
    rw [hb]
    exact hbl
/-- the end of a sale in the program: W1, its account written W7, the sale appended w5, written W6 -/
theorem book_sell0 {B g cap gg cap2 j : Nat} {cs : List PCust} {xs : List ACust} {x : ACust} {ua : Option Addr} {uc n : Nat} {X : AAcc} {L : List ADebt} {S : List ASold} {s : ASold} {so : Option Nat} {w W1 W7 P w5 W6 : World}
    (hB : BookAt w B (.slice (some ⟨g, 0, none⟩) cs.length cap) cs xs) (hBw : B ≤ w.heap.size) (hj : j < cs.length) (hx : xs.getD j default = x) (hso : so = sBlk x)
    (kw : Below w.heap.size w W1) (hu : Sl W1 (.slice ua L.length uc) 2 L.length (L.flatMap ADebt.cells)) (hF : FarB w.heap.size (.slice ua L.length uc)) (h7 : ButFor g W1 W7) (hP : Below W7.heap.size W7 P)
    (hown : w5.ownsRow B 122 5 (.slice (some ⟨gg, 0, none⟩) n cap2) n (S.flatMap ASold.cells ++ s.cells)) (hn : n = S.length + 1) (hgrow : P.grownBy w5 so) (hat : so = some gg ∨ gg = P.heap.size)
    (h6 : ButFor g w5 W6) (hrow : W6.ownsRow B 84 8 (.slice (some ⟨g, 0, none⟩) cs.length cap) cs.length ((xs.set j (ofCust ⟨X, L, S ++ [s]⟩ ua uc (some ⟨gg, 0, none⟩) cap2)).flatMap ACust.cells)) :
    (∃ ys, BookAt W6 B (.slice (some ⟨g, 0, none⟩) cs.length cap) (cs.set j ⟨X, L, S ++ [s]⟩) ys) ∧ Below B w W6 := by
  have hjx : j < xs.length := by rw [hB.1]; exact hj
  have hgB := hB.2.1.lt g rfl
  have hsoB : ∀ z, so = some z → B ≤ z ∧ z < w.heap.size := fun z hz => (hB.2.2.1 j hj).sblk (by rw [hx, ← hso]; exact hz)
  have hgso : so ≠ some g := fun e => (((hB.2.2.2 j hjx g).2 (by rw [hx, ← hso]; exact e)).1) rfl
  have s7 := h7.2.1
  have s6 := h6.2.1
  have sP := hP.size
  have s5 := hgrow.size
  have sw := kw.size
  have h16 : ∀ z, z < W1.heap.size → z ≠ g → some z ≠ so → W6.heap[z]? = W1.heap[z]? := fun z hz hg hs =>
    (h6.1 z hg).trans ((hgrow.block z (by omega) hs).trans ((hP.block z (by omega)).trans (h7.1 z hg)))
  have hgg : so = some gg ∨ W1.heap.size ≤ gg := hat.imp _root_.id (fun h => by omega)
  have hggg : gg ≠ g := fun e => by
    subst e
    rcases hgg with h | h
    · exact hgso h
    · omega
  have hd : ∀ z, dBlk (ofCust ⟨X, L, S ++ [s]⟩ ua uc (some ⟨gg, 0, none⟩) cap2) = some z → w.heap.size ≤ z ∧ z < W1.heap.size := fun z hz => by
    obtain ⟨off, pr, rfl, hp⟩ := dblk_at hz
    exact ⟨hF _ _ _ rfl, sl_lt hu hp⟩
  have hu6 : Sl W6 (.slice ua L.length uc) 2 L.length (L.flatMap ADebt.cells) := by
    refine sl_heap hu (by omega) fun a m cc hv hp => ?_
    simp only [Value.slice.injEq] at hv
    obtain ⟨rfl, -, -⟩ := hv
    have q1 : w.heap.size ≤ a.block := hF _ _ _ rfl
    have q2 : a.block < W1.heap.size := by obtain ⟨z, o, p⟩ := a; exact sl_lt hu hp
    exact h16 _ q2 (by omega) (fun e => by have := (hsoB _ e.symm).2; omega)
  have hown6 := h6.owns hown (fun e => hggg (by injection e))
  have hc : CRep W6 B (ofCust ⟨X, L, S ++ [s]⟩ ua uc (some ⟨gg, 0, none⟩) cap2) ⟨X, L, S ++ [s]⟩ := by
    refine ⟨rfl, hu6, ?_⟩
    show W6.ownsRow B _ 5 (.slice (some ⟨gg, 0, none⟩) (S ++ [s]).length cap2) (S ++ [s]).length ((S ++ [s]).flatMap ASold.cells)
    rw [show (S ++ [s]).length = n by rw [hn]; simp, List.flatMap_append]
    simpa using hown6
  refine ⟨⟨xs.set j (ofCust ⟨X, L, S ++ [s]⟩ ua uc (some ⟨gg, 0, none⟩) cap2), hB.set hBw hj (by omega) (fun z hz hv hs => ?_) hrow hc (fun z hz => ⟨(hd z hz).1, fun e => ?_⟩) (fun z hz => ?_)⟩, ?_⟩
  · have hzg : z ≠ g := fun e => hv (by rw [e]; rfl)
    rw [h16 z (by omega) hzg (fun e => hs (by rw [hx, ← hso]; exact e))]
    exact kw.block z hz
  · have e : gg = z := by injection e
    subst e
    rcases hgg with h | h
    · have := (hsoB _ h).2; have := (hd _ hz).1; omega
    · have := (hd _ hz).2; omega
  · have e : gg = z := by injection hz
    subst e
    rcases hgg with h | h
    · left; rw [hx, ← hso]; exact h
    · right; omega
  · refine ⟨h6.2.2.1.trans (hgrow.os.trans (hP.os.trans (h7.2.2.1.trans kw.os))), h6.2.2.2.1.trans (hgrow.tape.trans (hP.tape.trans (h7.2.2.2.1.trans kw.tape))), h6.2.2.2.2.trans (hgrow.output.trans (hP.output.trans (h7.2.2.2.2.trans kw.output))), by omega, fun z hz => ?_⟩
    rw [h16 z (by omega) (by omega) (fun e => by have := (hsoB _ e.symm).1; omega)]
    exact kw.block z (by omega)
/-- the row behind the seven cells of the account, an append elsewhere, and the eighth cell -/
theorem row8 {B g cap j : Nat} {cs : List PCust} {xs : List ACust} {X1 X2 X3 X4 X5 X6 : Int} {ua : Option Addr} {uc n gg cap2 : Nat} {L : List ADebt} {S : List ASold} {s : ASold} {W7 w5 : World}
    (h : W7.ownsRow B 84 8 (.slice (some ⟨g, 0, none⟩) cs.length cap) cs.length ((((((((xs.flatMap ACust.cells).set (j * 8) (I X1)).set (j * 8 + 1) (I X2)).set (j * 8 + 2) (I X3)).set (j * 8 + 3) (I X4)).set (j * 8 + 4) (I X5)).set (j * 8 + 5) (I X6)).set (j * 8 + 6) (.slice ua L.length uc))) (hjx : j < xs.length)
    (hg : w5.heap[g]? = W7.heap[g]?) (hn : n = S.length + 1) :
    (w5.setCell ⟨g, j * 8 + 7, none⟩ (.slice (some ⟨gg, 0, none⟩) n cap2)).ownsRow B 84 8 (.slice (some ⟨g, 0, none⟩) cs.length cap) cs.length ((xs.set j (ofCust ⟨⟨X1, X2, X3, X4, X5, X6⟩, L, S ++ [s]⟩ ua uc (some ⟨gg, 0, none⟩) cap2)).flatMap ACust.cells) := by
  have hrow5 := owns_heap h (W' := w5) fun z hz => by
    have e : g = z := by injection hz
    subst e
    exact hg
  have hrow6 := owns_store hrow5 (j * 8 + 7) (.slice (some ⟨gg, 0, none⟩) n cap2)
  have hflat := flat_set8 hjx ⟨X1, X2, X3, X4, X5, X6, ua, L.length, uc, some ⟨gg, 0, none⟩, n, cap2⟩
  dsimp only at hflat
  rw [hflat] at hrow6
  have hy : (⟨X1, X2, X3, X4, X5, X6, ua, L.length, uc, some ⟨gg, 0, none⟩, n, cap2⟩ : ACust) = ofCust ⟨⟨X1, X2, X3, X4, X5, X6⟩, L, S ++ [s]⟩ ua uc (some ⟨gg, 0, none⟩) cap2 := by
    unfold ofCust
    simp [hn]
  rw [hy] at hrow6
  exact hrow6
end Go.Proofs.Ytenoigmkhlnfoaa
