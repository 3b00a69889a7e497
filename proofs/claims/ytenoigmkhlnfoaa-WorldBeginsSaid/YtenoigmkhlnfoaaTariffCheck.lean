/- tariff.Check -/
import Derived.Test.YtenoigmkhlnfoaaTariff
import Derived.Test.YtenoigmkhlnfoaaCopySteps
import Derived.Test.YtenoigmkhlnfoaaOwn
import Derived.Lib.ReflectliteSlice
import Derived.Laws.Externs
import Derived.BigCall
import Derived.BigGuard
namespace Go.Proofs.Ytenoigmkhlnfoaa
set_option linter.unusedSimpArgs false
set_option linter.unusedVariables false
open Go.RowKit
set_option maxRecDepth 20000

theorem descSteps : ∃ i, Try.prog.info? 22 = some i ∧ i.desc = .slice 137 := by
  have h : (Try.prog.info? 22).map (·.desc) = some (.slice 137) := by kernel_rfl
  cases hi : Try.prog.info? 22 with
  | none => rw [hi] at h; cases h
  | some i => rw [hi] at h; exact ⟨i, rfl, by simpa using h⟩
theorem packSteps : Try.prog.packed 22 = false := by kernel_rfl

/-- the closure: does step i end no later than step j? -/
theorem Check1_any (v : Value) (xs : List AStep) (g i j : Nat) (w : World) (h : Sl w v 2 xs.length (xs.flatMap AStep.cells)) (hc : w.cell? ⟨g, 0, none⟩ = some v) (hi : i < xs.length) (hj : j < xs.length) :
    Calls Try.prog 84 #[I i, I j, .pointer (some ⟨g, 0, none⟩)] w (Grew (.bool (decide ((xs.getD i default).upto ≤ (xs.getD j default).upto))) w) := by
  obtain ⟨a, cap, rfl, hn, hl, h0, hr⟩ := h
  obtain ⟨b, off, rfl, hb, hcl⟩ := hr.resolve_left (by omega)
  obtain ⟨e0, -⟩ := elStep hb hcl (Below.refl _ _) i hi
  obtain ⟨d0, -⟩ := elStep hb hcl (Below.refl _ _) j hj
  have i0 : (0 : Int) ≤ (i : Int) := by omega
  have i1 : (i : Int) < (xs.length : Int) := by omega
  have j0 : (0 : Int) ≤ (j : Int) := by omega
  have j1 : (j : Int) < (xs.length : Int) := by omega
  clear hl h0 hr hcl hi hj
  generalize xs.getD i default = x at *
  generalize xs.getD j default = y at *
  go_enter Try.func84, Try.ntmps84
  go_wp2
  go_quiet (fail)
  go_wp2
  go_ret
  exact Grew.intro rfl below_auto

set_option maxHeartbeats 2000000 in
/-- sort.SliceIsSorted with that closure: does each step end behind the one ahead of it? -/
theorem SliceIsSorted_any (v : Value) (xs : List AStep) (g : Nat) (w : World) (h : Sl w v 2 xs.length (xs.flatMap AStep.cells)) (hg : g < w.heap.size) (hc : w.cell? ⟨g, 0, none⟩ = some v) (hpos : 0 < xs.length) (h8 : xs.length ≤ 8) :
    Calls Try.prog 83 #[.iface 22 v, .func (.func 84) #[] #[.pointer (some ⟨g, 0, none⟩)]] w (Grew (.bool (rises xs)) w) := by
  obtain ⟨i, hi, hd⟩ := descSteps
  have C := Lib.hid (fun i j W hW hc hi hj => Check1_any v xs g i j W hW hc hi hj)
  have HS := Lib.hid h
  obtain ⟨a, cap, rfl, hn, hl, h0, hr⟩ := h
  clear hl h0 hr
  have hv := Go.Lib.run_valueOf_slice (P := Try.prog) 22 137 i hi hd a xs.length cap
  have hlen := fun ad w ha => Go.Lib.run_valueLen_slice (P := Try.prog) 22 137 i hi hd packSteps ad a xs.length cap w ha
  simp only [typeHandle] at hv hlen
  generalize Try.prog.globals.size = G at hv hlen
  have HV := Lib.hid hv
  have HL := Lib.hid hlen
  clear hv hlen
  go_enter Try.func83, Try.ntmps83
  go_wp2
  rw [run_callFunc_extern Try.func105 (by kernel_rfl) (by kernel_rfl) (by kernel_rfl) (e := fun args => Extern.ReflectliteValue.unpack (args.getD 0 (.tuple #[]))) (by kernel_rfl),
    show Sem.run Try.prog ((fun args : Array Value => Extern.ReflectliteValue.unpack (args.getD 0 (.tuple #[]))) #[.iface 22 (.slice a xs.length cap)]) w = _ from HV.out w]
  simp only [Result.andThen]
  rw [Oper.upon_value]
  go_wp2
  rw [run_callFunc_extern Try.func106 (by kernel_rfl) (by kernel_rfl) (by kernel_rfl) (e := Extern.ReflectliteValue.method (Extern.ReflectliteValue.valueError "reflectlite.Value.Len" 0) Extern.ReflectliteValue.len) (by kernel_rfl),
    HL.out _ _ (by simp)]
  simp only [Result.andThen]
  rw [Oper.upon_value]
  go_wp2
  have k0 : Below w.heap.size w ((w.alloc (.cells #[.slice a xs.length cap] 22)).alloc (.cells #[.pointer (some ⟨G, 22, none⟩), .pointer (some ⟨w.heap.size, 0, none⟩), .int .u64 151] 177)) := (boxed_below w _).alloc (boxed_below w _).size _
  go_loopw [7] (fun i wr => ∃ k : Nat, k < xs.length ∧ i = I k ∧ Hid (∀ j, k ≤ j → j + 1 < xs.length → (xs.getD j default).upto < (xs.getD (j + 1) default).upto) ∧ Below w.heap.size w wr) (fun i _ => (intOf i).toNat)
  case atStart => exact ⟨xs.length - 1, by omega, by congr 1 <;> omega, (fun j h1 h2 => by omega), k0⟩
  case round =>
    clear k0
    obtain ⟨k, hk, rfl, hall, hb⟩ := hrel
    cases k with
    | zero =>
      have hT := Lib.hid (rises_true (xs := xs) (fun j hj => hall.out j (Nat.zero_le _) hj))
      clear hall
      go_wp2
      go_ret
      exact Grew.intro (eB hT.out.symm) hb
    | succ k =>
      have hw := HS.out.below hb
      have hcg := (hb.cell (p := ⟨g, 0, none⟩) hg).trans hc
      have CC := Lib.hid (C.out (k + 1) k _ hw hcg hk (by omega))
      have hF := Lib.hid (fun h => rises_false (xs := xs) (j := k) hk h)
      have hN := Lib.hid (show (xs.getD k default).upto < (xs.getD (k + 1) default).upto → ∀ j, k ≤ j → j + 1 < xs.length → (xs.getD j default).upto < (xs.getD (j + 1) default).upto from fun h j hj hl => by
        by_cases e : j = k
        · rw [e]; exact h
        · exact hall.out j (by omega) hl)
      have hp0 : (0 : Int) < ((k + 1 : Nat) : Int) := by omega
      have hKJ : ((k + 1 : Nat) : Int) - 1 = (k : Int) := by omega
      clear hall hw
      generalize xs.getD (k + 1) default = x at *
      generalize xs.getD k default = y at *
      generalize hK : ((k + 1 : Nat) : Int) = K at *
      have HK := Lib.hid hK
      clear hK
      by_cases hq : x.upto ≤ y.upto
      · have hA := Lib.hid (hF.out (by omega))
        rw [decide_eq_true hq] at CC
        clear hF hN hq
        go_wp2_with fail
        refine CC.out.mono ?_
        rintro e w1 ⟨rfl, k1⟩
        have kk := hb.trans (k1.mono hb.size)
        clear k1 hcg
        go_wp2
        go_ret
        exact Grew.intro (eB hA.out.symm) kk
      · have hA := Lib.hid (hN.out (by omega))
        rw [decide_eq_false hq] at CC
        clear hF hN hq
        go_wp2_with fail
        refine CC.out.mono ?_
        rintro e w1 ⟨rfl, k1⟩
        have kk := hb.trans (k1.mono hb.size)
        clear k1 hcg
        go_wp2
        exact ⟨⟨k, by omega, rfl, hA, kk⟩, by rw [← HK.out]; simp [intOf]; try omega⟩

set_option maxHeartbeats 4000000 in
theorem CheckT_any (v : Value) (xs : List AStep) (w : World) (h : Sl w v 2 xs.length (xs.flatMap AStep.cells)) :
    Calls Try.prog 57 #[v] w (Grew (I (tariffE xs)) w) := by
  have hS0 := h
  have k0 := boxed_below w (.cells #[v] 22)
  have ob := Own.new (w := w) rfl [v] 22
  obtain ⟨a, cap, rfl, hn, hl, h0, h⟩ := h
  clear hl h0
  by_cases hl1 : xs.length < 1
  · have hE : tariffE xs = 1 := by
      have : inB (xs.length : Int) 1 8 = false := by rw [inB_false]; omega
      simp [tariffE, this]
    have HE := Lib.hid hE
    have t1 : (xs.length : Int) < 1 := by omega
    clear hE h hS0 ob
    go_enter Try.func57, Try.ntmps57
    go_wp2
    go_ret
    exact Grew.intro (eI HE.out.symm) k0
  by_cases hl2 : 8 < xs.length
  · have hE : tariffE xs = 1 := by
      have : inB (xs.length : Int) 1 8 = false := by rw [inB_false]; omega
      simp [tariffE, this]
    have HE := Lib.hid hE
    have t1 : ¬ (xs.length : Int) < 1 := by omega
    have t2 : (8 : Int) < (xs.length : Int) := by omega
    clear hE h hS0 ob
    go_enter Try.func57, Try.ntmps57
    go_wp2
    go_ret
    exact Grew.intro (eI HE.out.symm) k0
  have hi : inB (xs.length : Int) 1 8 = true := by rw [inB_true]; omega
  have HE := Lib.hid (show tariffE xs = if xs.all okStep then (if rises xs then (if lastU xs = 10000000 then 0 else 3) else 3) else 2 by simp only [tariffE, hi, if_true])
  have t1 : ¬ (xs.length : Int) < 1 := by omega
  have t2 : ¬ (8 : Int) < (xs.length : Int) := by omega
  have S := Lib.hid (fun W hW hg hc => SliceIsSorted_any (.slice a xs.length cap) xs w.heap.size W hW hg hc (by omega) (by omega))
  obtain ⟨b, off, rfl, hbl, hcl⟩ := h.resolve_left (by omega)
  have HC := Lib.hid hcl
  have HS0 := Lib.hid hS0
  have OB := Lib.hid ob
  clear h hcl hi hS0 ob
  go_enter Try.func57, Try.ntmps57
  go_wp2
  go_loopw [16] (fun i wr => ∃ k : Nat, k ≤ xs.length ∧ i = I k ∧ Hid ((xs.take k).all okStep = true) ∧ Own wr w.heap.size [.slice (some ⟨b, off, none⟩) xs.length cap] ∧ Below w.heap.size w wr) (fun i _ => xs.length - (intOf i).toNat)
  case atStart => exact ⟨0, Nat.zero_le _, rfl, rfl, OB.out, k0⟩
  case round =>
    obtain ⟨k, hk, rfl, hall, hO, hbw⟩ := hrel
    have hsz := hbw.size
    by_cases hlt : k < xs.length
    · obtain ⟨e0, e1⟩ := elStep hbl HC.out hbw k hlt
      have hi0 : (0 : Int) ≤ (k : Int) := by omega
      have hi1 : (k : Int) < (xs.length : Int) := by omega
      have hgood := Lib.hid (fun hp => all_take_succ (p := okStep) hlt hall.out hp)
      have hbad := Lib.hid (fun hp => all_false_at (p := okStep) hlt hp)
      generalize xs.getD k default = x at *
      cases hq : okStep x
      · have hA := Lib.hid (hbad.out hq)
        rcases okStep_false.1 hq with q | ⟨q0, q | ⟨q1, q | ⟨q2, q⟩⟩⟩
        all_goals
          clear hq hgood hbad
          go_wp2
          go_ret
          exact Grew.intro (eI (by rw [HE.out, hA.out]; rfl)) (hbw.alloc hsz _)
      · obtain ⟨q0, q1, q2, q3⟩ := okStep_true.1 hq
        have hA := Lib.hid (hgood.out hq)
        clear hq hgood hbad
        go_wp2
        exact ⟨⟨k + 1, by omega, by go_num, hA.out, hO.alloc _, hbw.alloc hsz _⟩, by simp [intOf]; omega⟩
    · have hA := Lib.hid (show xs.all okStep = true by have := hall.out; rwa [List.take_of_length_le (by omega)] at this)
      rw [hA.out, if_pos rfl] at HE
      have hge : (xs.length : Int) ≤ (k : Int) := by omega
      have hg := hO.lt
      have hc := hO.cell 0 (by simp)
      simp only [Nat.zero_add, List.getD_cons_zero] at hc
      have SS := Lib.hid (S.out _ (HS0.out.below hbw) hg hc)
      obtain ⟨e0, e1⟩ := elStep hbl HC.out hbw (xs.length - 1) (by omega)
      have hL := Lib.hid (show lastU xs = (xs.getD (xs.length - 1) default).upto from rfl)
      have hj0 : (0 : Int) ≤ (xs.length : Int) - 1 := by omega
      have hj1 : (xs.length : Int) - 1 < (xs.length : Int) := by omega
      have hto : ((xs.length : Int) - 1).toNat = xs.length - 1 := by omega
      clear hA hall S
      generalize rises xs = rs at *
      generalize xs.getD (xs.length - 1) default = x at *
      rw [hL.out] at HE
      cases rs with
      | false =>
        rw [if_neg (by decide)] at HE
        go_wp2_with fail
        refine SS.out.mono ?_
        rintro e w1 ⟨rfl, k1⟩
        have kk := hbw.trans (k1.mono hsz)
        clear e0 e1 hc hO k1 hbw SS
        go_wp2
        go_ret
        exact Grew.intro (eI HE.out.symm) kk
      | true =>
        rw [if_pos rfl] at HE
        have hx : ∃ t, (x.upto != 10000000) = t ∧ tariffE xs = if t then 3 else 0 := by
          refine ⟨_, rfl, ?_⟩
          rw [HE.out]
          by_cases h : x.upto = 10000000 <;> simp [h]
        obtain ⟨t, ht, hEt⟩ := hx
        have HT := Lib.hid hEt
        clear hEt HE
        cases t
        all_goals
          go_wp2_with fail
          refine SS.out.mono ?_
          rintro e w1 ⟨rfl, k1⟩
          have hc1 := (hO.below k1).cell 0 (by simp)
          simp only [Nat.zero_add, List.getD_cons_zero] at hc1
          have f0 := (k1.cell (p := ⟨b, off + (xs.length - 1) * 2, none⟩) (Nat.lt_of_lt_of_le hbl hsz)).trans e0
          have kk := hbw.trans (k1.mono hsz)
          clear e0 e1 hc hO k1 hbw SS
          go_wp2
          go_ret
          exact Grew.intro (eI (by rw [HT.out]; rfl)) kk
end Go.Proofs.Ytenoigmkhlnfoaa
