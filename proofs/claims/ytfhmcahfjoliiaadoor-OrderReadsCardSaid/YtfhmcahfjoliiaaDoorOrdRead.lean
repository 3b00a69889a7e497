/- order.Read -/
import Derived.Test.YtfhmcahfjoliiaaDoorOrdReadL
import Derived.Deep.DeepCutAuto
namespace Go.Proofs.YtfhmcahfjoliiaaDoor
set_option linter.unusedSimpArgs false
set_option linter.unusedVariables false
open Go Go.RowKit
set_option maxRecDepth 20000

abbrev zAct : List Value := [I 0, I 0, I 0, I 0, I 0, .string ⟨#[]⟩, I 0]
/-- the result, the order, the rest of the line: in three blocks of the call's own -/
structure RdW (w wr : World) (A : List Value) (S : ByteArray) : Prop where
  r : Own wr w.heap.size zAct
  a : Own wr (w.heap.size + 1) A
  s : Own wr (w.heap.size + 2) [.string S]
  b : Below w.heap.size w wr
theorem RdW.size {w wr : World} {A : List Value} {S : ByteArray} (h : RdW w wr A S) : w.heap.size + 3 ≤ wr.heap.size := h.s.lt
theorem RdW.num {w wr w' : World} {A : List Value} {S T : ByteArray} (h : RdW w wr A S) (o : Own w' (w.heap.size + 2) [.string T]) (c : Chg (w.heap.size + 2) wr w') : RdW w w' A T :=
  ⟨h.r.chg c (by omega), h.a.chg c (by omega), o, Chg.below h.b (by omega) c h.b.size⟩
theorem RdW.setA {w wr : World} {A : List Value} {S : ByteArray} (h : RdW w wr A S) (j : Nat) (x : Value) : RdW w (wr.setCell ⟨w.heap.size + 1, j, none⟩ x) (A.set j x) S :=
  ⟨h.r.other (by show w.heap.size + 1 ≠ w.heap.size; omega) x, h.a.set j x, h.s.other (by show w.heap.size + 1 ≠ w.heap.size + 2; omega) x, h.b.setCell (by show w.heap.size ≤ w.heap.size + 1; omega) x⟩
theorem RdW.setS {w wr : World} {A : List Value} {S : ByteArray} (h : RdW w wr A S) (T : ByteArray) : RdW w (wr.setCell ⟨w.heap.size + 2, 0, none⟩ (.string T)) A T :=
  ⟨h.r.other (by show w.heap.size + 2 ≠ w.heap.size; omega) _, h.a.other (by show w.heap.size + 2 ≠ w.heap.size + 1; omega) _, h.s.set 0 _, h.b.setCell (by show w.heap.size ≤ w.heap.size + 2; omega) _⟩
theorem RdW.below {w wr w' : World} {A : List Value} {S : ByteArray} (h : RdW w wr A S) (k : Below wr.heap.size wr w') : RdW w w' A S :=
  ⟨h.r.below k, h.a.below k, h.s.below k, h.b.trans (k.mono h.b.size)⟩
theorem RdW.drewN {w wr : World} {A : List Value} {S : ByteArray} (h : RdW w wr A S) (q : Nat) : RdW w (wr.drewN q) A S :=
  ⟨h.r.drewN q, h.a.drewN q, h.s.drewN q, drewN_below h.b q⟩

set_option maxHeartbeats 4000000 in
theorem Read_any (s : ByteArray) (w : World) (hF : FormT w) (hT : PowTab w) (hE : EnvN w) (hs : s.size ≤ 120) :
    Calls Tryd.prog 4 #[.string s] w (Grew (rdV (candP s) s) w) := by
  have hl := hE.lt
  have OR := ((Own.new (w := w) (g := w.heap.size) (by rfl) [I 0, I 0, I 0, I 0, I 0, .string ⟨#[]⟩, I 0] 23).alloc (.cells #[I 0, I 0, I 0, I 0, I 0, .string ⟨#[]⟩, I (-1)] 23)).alloc (.cells #[.string s] 9)
  have OA := (Own.new (w := (w.alloc (.cells #[I 0, I 0, I 0, I 0, I 0, .string ⟨#[]⟩, I 0] 23))) (g := w.heap.size + 1) (by simp) [I 0, I 0, I 0, I 0, I 0, .string ⟨#[]⟩, I (-1)] 23).alloc (.cells #[.string s] 9)
  have OS := Own.new (w := ((w.alloc (.cells #[I 0, I 0, I 0, I 0, I 0, .string ⟨#[]⟩, I 0] 23)).alloc (.cells #[I 0, I 0, I 0, I 0, I 0, .string ⟨#[]⟩, I (-1)] 23))) (g := w.heap.size + 2) (by simp) [.string s] 9
  have bx0 := boxed_below w (.cells #[I 0, I 0, I 0, I 0, I 0, .string ⟨#[]⟩, I 0] 23)
  have bx1 := bx0.alloc bx0.size (.cells #[I 0, I 0, I 0, I 0, I 0, .string ⟨#[]⟩, I (-1)] 23)
  have KB := bx1.alloc bx1.size (.cells #[.string s] 9)
  clear bx0 bx1
  have R0 := Lib.hid (show RdW w _ [I 0, I 0, I 0, I 0, I 0, .string ⟨#[]⟩, I (-1)] s from ⟨OR, OA, OS, KB⟩)
  have CP0 := fun W => Tryd.strings_CutPrefix s pCut W
  rw [show (⟨(Go.Lib.trimPrefix s.data.toList pCut.data.toList).toArray⟩ : ByteArray) = cutS s from rfl, show Go.Lib.hasPrefix s.data.toList pCut.data.toList = cutB s from rfl] at CP0
  have hcz := cutS_size s
  have HN := Lib.hid (show (cutB s = true → cutN s = numI (hdB (cutS s)) ∧ cutR s = tlB (cutS s)) ∧ (cutB s = false → cutN s = -1 ∧ cutR s = s) by
    unfold cutN cutR
    exact ⟨fun hc => by rw [hc]; exact ⟨if_pos rfl, if_pos rfl⟩, fun hc => by rw [hc]; exact ⟨if_neg (by decide), if_neg (by decide)⟩⟩)
  have CP := Lib.hid CP0
  clear CP0
  generalize cutB s = cb at *
  generalize cutS s = ct at *
  have CU := Lib.hid (fun W m h => Tryd.strings_Cut (cutR s) ⟨#[32]⟩ m W (by have := cutR_size s; omega) h)
  have N := Lib.hid (fun W A (S : ByteArray) (h : RdW w W A S) (hz : S.size ≤ 200) => number_any (w.heap.size + 2) S W h.s (hE.below h.b) (by omega) hz)
  have HF := Lib.hid (fun W (h : Below w.heap.size w W) => forms_range (hF.below h))
  have HE := Lib.hid (fun W (h : Below w.heap.size w W) => (hE.below h).m)
  have r1 := set_same
  have r2 := set_off
  have r3 := set_blk
  have n1 : ¬ w.heap.size + 1 = w.heap.size + 2 := by omega
  have n2 : ¬ w.heap.size + 2 = w.heap.size + 1 := by omega
  have n3 : ¬ w.heap.size + 1 = w.heap.size := by omega
  have n4 : ¬ w.heap.size + 2 = w.heap.size := by omega
  have sO := OS
  have sf0 := sO.f 0; have s0 := sO.c0
  clear sO
  have hF0 := Lib.hid hF
  have hT0 := Lib.hid hT
  clear OR OA OS KB hF hT hE
  go_enter Tryd.func4, Tryd.ntmps4
  have j120 : (s.size : Int) ≤ 120 := by omega
  go_upto_if 27 with (go_at_call 6; refine (CP.out _).mono ?_; rintro e w1 ⟨rfl, rfl⟩)
  go_cut [] (fun wx => RdW w wx [I 0, I 0, I 0, I 0, I 0, .string ⟨#[]⟩, I (cutN s)] (cutR s))
  case first =>
    generalize (((w.alloc (.cells #[I 0, I 0, I 0, I 0, I 0, .string ⟨#[]⟩, I 0] 23)).alloc (.cells #[I 0, I 0, I 0, I 0, I 0, .string ⟨#[]⟩, I (-1)] 23)).alloc (.cells #[.string s] 9)) = W0 at *
    cases cb with
    | true =>
      have R1 := Lib.hid (R0.out.setS ct)
      go_wp2_with (
        go_at_call 7
        refine (N.out _ _ _ R1.out (by omega)).mono ?_
        rintro e w2 ⟨rfl, hO, hC⟩
        have R2 := Lib.hid (R1.out.num hO hC)
        clear hO hC
        have aO := R2.out.a
        have afA := aO.f; have a0 := aO.c0; have a1 := aO.c1; have a2 := aO.c2; have a3 := aO.c3; have a4 := aO.c4; have a5 := aO.c5; have a6 := aO.c6
        clear aO
        skip)
      go_meet
      rw [(HN.out.1 (by first | trivial | rfl)).1, (HN.out.1 (by first | trivial | rfl)).2]
      exact R2.out.setA 6 _
    | false =>
      go_wp2
      go_meet
      rw [(HN.out.2 (by first | trivial | rfl)).1, (HN.out.2 (by first | trivial | rfl)).2]
      exact R0.out
  case rest =>
    have R := Lib.hid hcut
    clear hcut R0 CP
    have hz := cutR_size s
    obtain ⟨m, hm⟩ := HE.out wc R.out.b
    have e1 : (⟨(Go.Lib.cut (cutR s).data.toList (⟨#[32]⟩ : ByteArray).data.toList).1.toArray⟩ : ByteArray) = hdB (cutR s) := rfl
    have e2 : (⟨(Go.Lib.cut (cutR s).data.toList (⟨#[32]⟩ : ByteArray).data.toList).2.1.toArray⟩ : ByteArray) = tlB (cutR s) := rfl
    have CU2 := CU.out wc m hm
    rw [e1, e2] at CU2
    have CU := Lib.hid CU2
    generalize (Go.Lib.cut (cutR s).data.toList (⟨#[32]⟩ : ByteArray).data.toList).2.2 = ok at CU
    clear e1 e2 CU2 hm
    have R1 := Lib.hid (fun q => (R.out.drewN q).setS (tlB (cutR s)))
    have RA := Lib.hid (rdA_0 s)
    have s0 := R.out.s.cell 0 (by simp)
    have sf0 := R.out.s.frozen 0
    simp only [Nat.zero_add, List.getD_cons_zero] at s0 sf0
    go_wp2_with (first
      | (go_at_call 8
         refine CU.out.mono ?_
         rintro e w2 ⟨rfl, q, rfl⟩
         have hL := Lib.hid (HF.out _ (R1.out q).b)
         have R2 := Lib.hid (R1.out q)
         clear R1)
      | (refine wpList_load_mid rfl 36 _ rfl 0 0 rfl formsL _ hL.out Tryd.underlying36 rfl (by kernel_rfl) ?_
         rw [← formsA_eq]))
    have HHIT := Lib.hid (fun (k : Nat) (hk : k < 7) (h : actW ((k : Int) + 1) = hdB (cutR s)) => rdA_hit s k ((kindOf_eq _ k hk).1 h))
    have HOTH := Lib.hid (fun (k : Nat) (hk : k < 7) (h : actW ((k : Int) + 1) ≠ hdB (cutR s)) => rdA_other s k (fun e => h ((kindOf_eq _ k hk).2 e)))
    have HEND := Lib.hid (rdA_7 s)
    have hrz : (tlB (cutR s)).size ≤ 120 := Nat.le_trans (tlB_size _) (by omega)
    have HSZ := Lib.hid (fun j => Nat.le_trans (tlN_size (tlB (cutR s)) j) hrz)
    have R3 := Lib.hid (show RdW w ((wc.drewN q).setCell ⟨w.heap.size + 2, 0, none⟩ (.string (tlB (cutR s)))) (rdA s 0) (rdS s 0) by rw [RA.out.1, RA.out.2]; exact R2.out)
    clear RA R2 hL hrz hz CU R hcz
    generalize hdB (cutR s) = wd at *
    generalize tlB (cutR s) = r at *
    generalize cutN s = cu at *
    go_loopw [38] (fun s38 wr => ∃ k : Nat, k ≤ 7 ∧ s38 = I k ∧ Hid (RdW w wr (rdA s k) (rdS s k))) (fun i _ => 7 - (intOf i).toNat)
    case atStart => exact ⟨0, by decide, rfl, R3⟩
    case round =>
      clear R3
      obtain ⟨k, hk, rfl, R⟩ := hrel
      by_cases hlt : k < 7
      · have hx := fun W => forms_at k hlt W
        have j0 : (0 : Int) ≤ (k : Int) := by omega
        have j1 : (k : Int) < 7 := by omega
        have hsz := R.out.size
        have n5 : ¬ w.heap.size + 1 = wr.heap.size := by omega
        by_cases hw : actW ((k : Int) + 1) = wd
        · obtain ⟨q1, q2, q3, q4⟩ := HHIT.out k hlt hw
          rw [hw] at hx
          have hw1 : (wd.toList == wd.toList) = true := beq_self_eq_true _
          have R1 := Lib.hid (show RdW w wr [I 0, I 0, I 0, I 0, I 0, .string ⟨#[]⟩, I cu] r by rw [← q1, ← q2]; exact R.out)
          have PN := Lib.hid (pn_all ((k : Int) + 1) cu r)
          have hp1 := offs_pos (actA ((k : Int) + 1)) (actB ((k : Int) + 1)) (actC ((k : Int) + 1))
          have hp2 := Lib.hid (fun j hj => offs_lt (actA ((k : Int) + 1)) (actB ((k : Int) + 1)) (actC ((k : Int) + 1)) j hj)
          have RN := Lib.hid (show ∀ W, RdW w W (if (k : Int) + 1 = 6 then (fin0 ((k : Int) + 1) cu r).set 5 (.string (tlN r (nC ((k : Int) + 1)))) else fin0 ((k : Int) + 1) cu r) (tlN r (nC ((k : Int) + 1))) → RdW w W (rdA s (k + 1)) (rdS s (k + 1)) from fun W h => by rw [q3, q4]; exact h)
          clear q1 q2 q3 q4 HHIT HOTH HEND R hw
          have PL := Lib.hid (fun W => places_any ((k : Int) + 1) wd (actA ((k : Int) + 1)) (actB ((k : Int) + 1)) (actC ((k : Int) + 1)) (w.heap.size + 1) W)
          generalize nC ((k : Int) + 1) = nn at *
          generalize actA ((k : Int) + 1) = fA at *
          generalize actB ((k : Int) + 1) = fB at *
          generalize actC ((k : Int) + 1) = fC at *
          obtain ⟨fk, hfk⟩ : ∃ x : Int, x = (k : Int) + 1 := ⟨_, rfl⟩
          rw [← hfk] at hx PN RN PL
          have OF := Own.new (w := wr) rfl [I fk, .string wd, .bool fA, .bool fB, .bool fC] 35
          have RW := Lib.hid (R1.out.below (boxed_below wr (.cells #[I fk, .string wd, .bool fA, .bool fB, .bool fC] 35)))
          have OF1 := Lib.hid (OF.other (a := ⟨w.heap.size + 1, 0, none⟩) (by show w.heap.size + 1 ≠ wr.heap.size; omega) (I fk))
          have R2 := Lib.hid (show RdW w _ [I fk, I 0, I 0, I 0, I 0, .string ⟨#[]⟩, I cu] r from RW.out.setA 0 (I fk))
          have fO := OF
          have ffA := fO.f; have f0 := fO.c0; have f1 := fO.c1; have f2 := fO.c2; have f3 := fO.c3; have f4 := fO.c4
          clear fO
          have aO := RW.out.a
          have afA := aO.f; have a0 := aO.c0; have a1 := aO.c1; have a2 := aO.c2; have a3 := aO.c3; have a4 := aO.c4; have a5 := aO.c5; have a6 := aO.c6
          clear aO
          clear OF RW R1 hfk
          go_wp2_with fail
          have hs1 : wr.heap.size + 1 = ((wr.alloc (.cells #[I fk, .string wd, .bool fA, .bool fB, .bool fC] 35)).setCell ⟨w.heap.size + 1, 0, none⟩ (I fk)).heap.size := by simp [World.setCell]
          generalize ((wr.alloc (.cells #[I fk, .string wd, .bool fA, .bool fB, .bool fC] 35)).setCell ⟨w.heap.size + 1, 0, none⟩ (I fk)) = W1 at *
          refine (PL.out W1).mono ?_
          rintro e w2 ⟨v, rfl, hown, k2⟩
          have hfar := FarB.of_owns hown
          have hS := Sl.of_owns hown (by have := hp1.2; omega)
          obtain ⟨ad, cap, rfl, hn, hl2, h0, h⟩ := hS
          obtain ⟨b2, o2, rfl, hb2, hc2⟩ := h.resolve_left (by have := hp1.1; omega)
          have hb0 : W1.heap.size ≤ b2 := hfar _ _ _ rfl
          have OF3 := Lib.hid (OF1.out.below k2)
          have R3 := Lib.hid (R2.out.below k2)
          have HC := Lib.hid hc2
          obtain ⟨p1, p4⟩ := hp1
          clear hc2 hfar h0 h hl2 hn hown k2 OF1 R2 PL f0 f1 f2 f3 f4 ffA a0 a1 a2 a3 a4 a5 a6 afA
          generalize offs fA fB fC 3 = ol at *
          go_wp2_with fail
          generalize wr.heap.size = fb at *
          go_loopw [51] (fun s51 wr => ∃ j : Nat, j ≤ ol.length ∧ s51 = I j ∧ Hid (∀ i, i < (ptrs (w.heap.size + 1) ol).length → wr.cell? ⟨b2, o2 + i, none⟩ = some ((ptrs (w.heap.size + 1) ol).getD i undef)) ∧ Hid (Own wr fb [I fk, .string wd, .bool fA, .bool fB, .bool fC]) ∧ Hid (RdW w wr (pn [I fk, I 0, I 0, I 0, I 0, .string ⟨#[]⟩, I cu] ol r j) (tlN r j))) (fun i _ => ol.length - (intOf i).toNat)
          case atStart => exact ⟨0, Nat.zero_le _, rfl, HC, OF3, R3⟩
          case round =>
            clear HC OF3 R3
            obtain ⟨j, hj, rfl, HC, OF, R⟩ := hrel
            have hsz5 := R.out.size
            by_cases hjl : j < ol.length
            · have e0 := HC.out j (by unfold ptrs; rw [List.length_map]; exact hjl)
              rw [ptrs_get _ _ _ hjl] at e0
              have ho := hp2.out j hjl
              have hlen := pn_len [I fk, I 0, I 0, I 0, I 0, .string ⟨#[]⟩, I cu] ol r j
              have NN := Lib.hid (N.out wr _ _ R.out (Nat.le_trans (HSZ.out j) (by decide)))
              have SX := Lib.hid (show ∀ W, RdW w W (pn [I fk, I 0, I 0, I 0, I 0, .string ⟨#[]⟩, I cu] ol r j) (tlB (tlN r j)) → RdW w (W.setCell ⟨w.heap.size + 1, ol.getD j 0, none⟩ (I (numI (hdB (tlN r j))))) (pn [I fk, I 0, I 0, I 0, I 0, .string ⟨#[]⟩, I cu] ol r (j + 1)) (tlN r (j + 1)) from fun W h => h.setA _ _)
              have QF := Lib.hid (show ∀ W, Chg (w.heap.size + 2) wr W → Own W fb [I fk, .string wd, .bool fA, .bool fB, .bool fC] from fun W h => OF.out.chg h (by omega))
              have QR := Lib.hid (show ∀ W, Own W (w.heap.size + 2) [.string (tlB (tlN r j))] → Chg (w.heap.size + 2) wr W → RdW w W (pn [I fk, I 0, I 0, I 0, I 0, .string ⟨#[]⟩, I cu] ol r j) (tlB (tlN r j)) from fun W h1 h2 => R.out.num h1 h2)
              have QC := Lib.hid (show ∀ W o x, Chg (w.heap.size + 2) wr W → ∀ i, i < (ptrs (w.heap.size + 1) ol).length → (W.setCell ⟨w.heap.size + 1, o, none⟩ x).cell? ⟨b2, o2 + i, none⟩ = some ((ptrs (w.heap.size + 1) ol).getD i undef) from fun W o x h i hi => ((World.cell?_setCell_other _ _ _ _ (by intro e; simp only [Addr.mk.injEq] at e; omega)).trans (chg_cell h ⟨b2, o2 + i, none⟩ (block_lt_of_cell (HC.out i hi)) (by show b2 ≠ w.heap.size + 2; omega))).trans (HC.out i hi))
              clear HC OF R RN PN HSZ N
              generalize numI (hdB (tlN r j)) = nv at *
              generalize tlB (tlN r j) = rt at *
              generalize pn [I fk, I 0, I 0, I 0, I 0, .string ⟨#[]⟩, I cu] ol r j = cs at *
              generalize ol.getD j 0 = o at *
              have i0 : (0 : Int) ≤ (j : Int) := by omega
              have i1 : (j : Int) < (ol.length : Int) := by omega
              go_wp2_with (
                go_at_call 7
                refine NN.out.mono ?_
                rintro e w6 ⟨rfl, hO, hC⟩
                have R6 := Lib.hid (QR.out w6 hO hC)
                have C6 := Lib.hid hC
                have x0 := R6.out.a.cell o (by rw [hlen]; show _ < 7; omega)
                rw [Nat.zero_add] at x0
                have xf := R6.out.a.frozen o
                clear hO hC)
              exact ⟨⟨j + 1, by omega, by go_num, Lib.hid (QC.out _ _ _ C6.out), Lib.hid ((QF.out _ C6.out).other (by show w.heap.size + 1 ≠ fb; omega) _), Lib.hid (SX.out _ R6.out)⟩, by simp [intOf]; omega⟩
            · obtain rfl : j = ol.length := by omega
              have hpn := PN.out
              rw [hpn.1, hpn.2] at R
              clear HC PN HSZ hpn N
              have x5 : wr.cell? ⟨w.heap.size + 1, 5, none⟩ = some (.string ⟨#[]⟩) := R.out.a.cell 5 (by show 5 < 7; decide)
              have xf5 := R.out.a.frozen 5
              have s0 := R.out.s.cell 0 (by simp)
              simp only [Nat.zero_add, List.getD_cons_zero] at s0
              have fO := OF.out
              have ffA := fO.f; have f0 := fO.c0; have f1 := fO.c1; have f2 := fO.c2; have f3 := fO.c3; have f4 := fO.c4
              clear fO
              clear OF
              by_cases h6 : fk = 6
              · have RE := Lib.hid (RN.out _ (by rw [if_pos h6]; exact R.out.setA 5 _))
                clear RN R
                subst h6
                generalize tlN r nn = rt at *
                go_wp2_with fail
                exact ⟨⟨k + 1, by omega, by go_num, RE⟩, by simp [intOf]; omega⟩
              · have RE := Lib.hid (RN.out wr (by rw [if_neg h6]; exact R.out))
                have h6z : (fk == 6) = false := by simp [h6]
                clear RN R
                generalize tlN r nn = rt at *
                go_wp2_with fail
                exact ⟨⟨k + 1, by omega, by go_num, RE⟩, by simp [intOf]; omega⟩
        · obtain ⟨q1, q2⟩ := HOTH.out k hlt hw
          have RN := Lib.hid (show ∀ ob, RdW w (wr.alloc ob) (rdA s (k + 1)) (rdS s (k + 1)) from fun ob => by rw [q1, q2]; exact R.out.below (boxed_below _ _))
          clear q1 q2 HHIT HOTH HEND HSZ
          generalize actW ((k : Int) + 1) = fw at *
          generalize actA ((k : Int) + 1) = fA at *
          generalize actB ((k : Int) + 1) = fB at *
          generalize actC ((k : Int) + 1) = fC at *
          have hw1 := str_ne hw
          go_wp2_with fail
          exact ⟨⟨k + 1, by omega, by go_num, Lib.hid (RN.out _)⟩, by simp [intOf]; omega⟩
      · obtain rfl : k = 7 := by omega
        have R7 := Lib.hid (show RdW w wr (candP s).cells (rdS s 7) by rw [← HEND.out]; exact R.out)
        have htx := candP_text s
        clear R HEND HHIT HOTH HSZ N
        generalize rdS s 7 = S7 at *
        generalize candP s = x at *
        obtain ⟨ki, me, a, b, c, te, cu2⟩ := x
        change te.size ≤ s.size at htx
        have SH := Lib.hid (Show_any ki me a b c cu2 te wr (hF0.out.below R7.out.b) (PowTab.below hT0.out R7.out.b) (by omega))
        unfold AcP at SH
        have RO := Lib.hid (fun h h2 => rdV_ok (ki := ki) (me := me) (a := a) (b := b) (c := c) (cu := cu2) (te := te) (s := s) h h2)
        have RB := Lib.hid (fun h => rdV_bad (ki := ki) (me := me) (a := a) (b := b) (c := c) (cu := cu2) (te := te) (s := s) h)
        generalize rdV ⟨ki, me, a, b, c, te, cu2⟩ s = V at *
        generalize acT ki me a b c te cu2 = t at *
        generalize acE ki me a b c te cu2 = e at *
        have QA := Lib.hid (show Own wr (w.heap.size + 1) [I ki, I me, I a, I b, I c, .string te, I cu2] from R7.out.a)
        have aO := QA.out
        have afA := aO.f; have a0 := aO.c0; have a1 := aO.c1; have a2 := aO.c2; have a3 := aO.c3; have a4 := aO.c4; have a5 := aO.c5; have a6 := aO.c6
        clear aO
        by_cases he : e = 0
        · by_cases ht : t = s
          · have hV := RO.out he ht
            subst he
            subst ht
            subst hV
            have hw1 : (t.toList == t.toList) = true := beq_self_eq_true _
            clear RO RB hF0 hT0
            go_wp2_with (
              go_at_call 10
              refine SH.out.mono ?_
              rintro e2 w2 ⟨rfl, k2⟩
              have KB := (R7.out.below k2).b
              have QA := Lib.hid (QA.out.below k2)
              have QR := Lib.hid (R7.out.below k2).r
              clear a0 a1 a2 a3 a4 a5 a6 afA R7 k2
              have aO := QA.out
              have afA := aO.f; have a0 := aO.c0; have a1 := aO.c1; have a2 := aO.c2; have a3 := aO.c3; have a4 := aO.c4; have a5 := aO.c5; have a6 := aO.c6
              clear aO
              have rO := QR.out
              have rfA := rO.f; have r0 := rO.c0; have r1 := rO.c1; have r2 := rO.c2; have r3 := rO.c3; have r4 := rO.c4; have r5 := rO.c5; have r6 := rO.c6
              clear rO
              clear QA QR)
            exact bodyPost_ret (v := T2 (.agg #[I ki, I me, I a, I b, I c, .string te, I cu2]) (I 0)) (by simp [results, Tryd.results4, go_sem, *]; try omega) rfl (⟨rfl, below_autor⟩)
          · have hV := RB.out (Or.inr ht)
            subst he
            subst hV
            have hw1 := str_ne ht
            clear RO RB hF0 hT0 ht
            go_wp2_with (
              go_at_call 10
              refine SH.out.mono ?_
              rintro e2 w2 ⟨rfl, k2⟩
              have KB := (R7.out.below k2).b
              have QA := Lib.hid (QA.out.below k2)
              have QR := Lib.hid (R7.out.below k2).r
              clear a0 a1 a2 a3 a4 a5 a6 afA R7 k2
              have aO := QA.out
              have afA := aO.f; have a0 := aO.c0; have a1 := aO.c1; have a2 := aO.c2; have a3 := aO.c3; have a4 := aO.c4; have a5 := aO.c5; have a6 := aO.c6
              clear aO
              have rO := QR.out
              have rfA := rO.f; have r0 := rO.c0; have r1 := rO.c1; have r2 := rO.c2; have r3 := rO.c3; have r4 := rO.c4; have r5 := rO.c5; have r6 := rO.c6
              clear rO
              clear QA QR)
            exact bodyPost_ret (v := T2 (.agg #[I 0, I 0, I 0, I 0, I 0, .string ⟨#[]⟩, I 0]) (I 3)) (by simp [results, Tryd.results4, go_sem, *]; try omega) rfl (⟨rfl, below_autor⟩)
        · have hV := RB.out (Or.inl he)
          subst hV
          have he1 : (e == 0) = false := by simp [he]
          clear RO RB hF0 hT0
          go_wp2_with (
            go_at_call 10
            refine SH.out.mono ?_
            rintro e2 w2 ⟨rfl, k2⟩
            have KB := (R7.out.below k2).b
            have QA := Lib.hid (QA.out.below k2)
            have QR := Lib.hid (R7.out.below k2).r
            clear a0 a1 a2 a3 a4 a5 a6 afA R7 k2
            have aO := QA.out
            have afA := aO.f; have a0 := aO.c0; have a1 := aO.c1; have a2 := aO.c2; have a3 := aO.c3; have a4 := aO.c4; have a5 := aO.c5; have a6 := aO.c6
            clear aO
            have rO := QR.out
            have rfA := rO.f; have r0 := rO.c0; have r1 := rO.c1; have r2 := rO.c2; have r3 := rO.c3; have r4 := rO.c4; have r5 := rO.c5; have r6 := rO.c6
            clear rO
            clear QA QR)
          exact bodyPost_ret (v := T2 (.agg #[I 0, I 0, I 0, I 0, I 0, .string ⟨#[]⟩, I 0]) (I 3)) (by simp [results, Tryd.results4, go_sem, *]; try omega) rfl (⟨rfl, below_autor⟩)
end Go.Proofs.YtfhmcahfjoliiaaDoor
