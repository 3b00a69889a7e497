/- token.fault, token.Body and their references -/
import Derived.Test.YtmciccnmpoijdaaGreatDoorPk04
import Derived.Test.YtmciccnmpoijdaaGreatDoorApi
import Derived.Test.YtmciccnmpoijdaaGreatDoorPk06
import Derived.OwnWalk
namespace Go.Proofs.YtmciccnmpoijdaaGreatDoor
open Go.RowKit
set_option maxRecDepth 20000

def amtOk (c m : Int) : Bool := if c = 0 then inB m 1 2097151 else if c = 2 then inB m 1 15 else m == 0
def tokFault (x : AToken) : Int := if inB x.class_ 0 3 then (if inB x.id 1 1048575 && inB x.tag 0 65535 && amtOk x.class_ x.amount then 0 else 2) else 9
theorem tokFault_zero {x : AToken} (h : tokFault x = 0) : (0 ≤ x.class_ ∧ x.class_ ≤ 3) ∧ (1 ≤ x.id ∧ x.id ≤ 1048575) ∧ (0 ≤ x.tag ∧ x.tag ≤ 65535) ∧ (0 ≤ x.amount ∧ x.amount ≤ 2097151) := by
  unfold tokFault at h
  split at h
  · rename_i h1
    split at h
    · rename_i h2
      simp only [Bool.and_eq_true, inB_true] at h1 h2
      refine ⟨h1, h2.1.1, h2.1.2, ?_⟩
      have h3 := h2.2
      unfold amtOk at h3
      split at h3
      · rw [inB_true] at h3; omega
      · split at h3
        · rw [inB_true] at h3; omega
        · rw [beq_iff_eq] at h3; omega
    · omega
  · omega
def boundsL (c : Int) : Int := if c = 0 then 1 else if c = 2 then 1 else 0
def boundsH (c : Int) : Int := if c = 0 then 2097151 else if c = 2 then 15 else 0
theorem bounds_any (c : Int) (w : World) : Calls Tryz.prog 65 #[I c] w (Pure (.tuple #[I (boundsL c), I (boundsH c), .bool (inB c 0 3)]) w) := by
  by_cases h0 : c = 0
  · subst h0
    go_enter Tryz.func65, Tryz.ntmps65
    go_wp2
    go_ret3
    exact Pure.intro rfl
  by_cases h1 : c = 1
  · subst h1
    go_enter Tryz.func65, Tryz.ntmps65
    go_wp2
    go_ret3
    exact Pure.intro rfl
  by_cases h2 : c = 2
  · subst h2
    go_enter Tryz.func65, Tryz.ntmps65
    go_wp2
    go_ret3
    exact Pure.intro rfl
  by_cases h3 : c = 3
  · subst h3
    go_enter Tryz.func65, Tryz.ntmps65
    go_wp2
    go_ret3
    exact Pure.intro rfl
  have hL : boundsL c = 0 := by simp [boundsL, h0, h2]
  have hH : boundsH c = 0 := by simp [boundsH, h0, h2]
  have hB : inB c 0 3 = false := by rw [inB_false]; omega
  rw [hL, hH, hB]
  clear hL hH hB
  go_enter Tryz.func65, Tryz.ntmps65
  go_wp2
  go_ret3
  exact Pure.intro rfl
theorem tokFault_by {x : AToken} : tokFault x = if inB x.class_ 0 3 then (if x.id < 1 ∨ x.id > 1048575 ∨ x.amount < boundsL x.class_ ∨ x.amount > boundsH x.class_ ∨ x.tag < 0 ∨ x.tag > 65535 then 2 else 0) else 9 := by
  unfold tokFault
  cases hB : inB x.class_ 0 3
  · rfl
  · rw [inB_true] at hB
    simp only [if_true]
    by_cases h : x.id < 1 ∨ x.id > 1048575 ∨ x.amount < boundsL x.class_ ∨ x.amount > boundsH x.class_ ∨ x.tag < 0 ∨ x.tag > 65535
    · rw [if_pos h, if_neg]
      simp only [Bool.and_eq_true, inB_true]
      intro h2
      have h3 := h2.2
      unfold amtOk at h3
      unfold boundsL boundsH at h
      split at h3
      · rename_i hc
        simp only [hc, if_true] at h
        rw [inB_true] at h3; omega
      · rename_i hc
        simp only [hc, if_false] at h
        split at h3
        · rename_i hc2
          simp only [hc2, if_true] at h
          rw [inB_true] at h3; omega
        · rename_i hc2
          simp only [hc2, if_false] at h
          rw [beq_iff_eq] at h3; omega
    · rw [if_neg h, if_pos]
      simp only [Bool.and_eq_true, inB_true]
      refine ⟨⟨by omega, by omega⟩, ?_⟩
      unfold amtOk
      unfold boundsL boundsH at h
      split
      · rename_i hc
        simp only [hc, if_true] at h
        rw [inB_true]; omega
      · rename_i hc
        simp only [hc, if_false] at h
        split
        · rename_i hc2
          simp only [hc2, if_true] at h
          rw [inB_true]; omega
        · rename_i hc2
          simp only [hc2, if_false] at h
          rw [beq_iff_eq]; omega
set_option maxHeartbeats 2000000 in
theorem fault_any (x : AToken) (w : World) : Calls Tryz.prog 27 #[.agg x.cells.toArray] w (Grew (I (tokFault x)) w) := by
  have B := Lib.hid (fun W => bounds_any x.class_ W)
  have HF := Lib.hid (tokFault_by (x := x))
  generalize tokFault x = r at *
  obtain ⟨c, i, m, t⟩ := x
  simp only at B HF
  show Calls Tryz.prog 27 #[.agg #[I c, I i, I m, I t]] w (Grew (I r) w)
  generalize boundsL c = lo at *
  generalize boundsH c = hi at *
  cases hb : inB c 0 3
  · rw [hb] at B HF
    have hr := HF.out
    simp only [Bool.false_eq_true, if_false] at hr
    subst hr
    go_enter Tryz.func27, Tryz.ntmps27
    go_wp2_with fail
    refine (B.out _).mono ?_
    rintro e w' ⟨rfl, rfl⟩
    go_wp2
    go_ret
    exact Grew.intro rfl (by repeat first | exact Below.refl _ _ | assumption | refine drewN_below ?_ _ | refine Below.alloc ?_ (by first | exact Nat.le_refl _ | exact Below.size (by assumption) | (simp; done) | (simp; omega) | omega) _ | refine Below.setCell ?_ (by first | exact Nat.le_refl _ | (simp; done) | (simp; omega) | omega) _)
  · rw [hb] at B HF
    have hr := HF.out
    simp only [if_true] at hr
    have HR := Lib.hid hr
    clear hr HF
    go_enter Tryz.func27, Tryz.ntmps27
    go_wp2_with fail
    refine (B.out _).mono ?_
    rintro e w' ⟨rfl, rfl⟩
    go_wp2
    all_goals
      go_ret
      refine Grew.intro (eI ?_) (by repeat first | exact Below.refl _ _ | assumption | refine drewN_below ?_ _ | refine Below.alloc ?_ (by first | exact Nat.le_refl _ | exact Below.size (by assumption) | (simp; done) | (simp; omega) | omega) _ | refine Below.setCell ?_ (by first | exact Nat.le_refl _ | (simp; done) | (simp; omega) | omega) _)
      rw [HR.out]
      simp [*]
      try omega
set_option maxHeartbeats 4000000 in
theorem TokenFault_any (x : AToken) (w : World) : Calls Tryz.prog 45 #[.agg x.cells.toArray] w (Grew (I (tokFault x)) w) := by
  have HF := Lib.hid (show tokFault x = _ from by unfold tokFault amtOk; rfl)
  generalize tokFault x = r at *
  obtain ⟨c, i, m, t⟩ := x
  simp only at HF
  show Calls Tryz.prog 45 #[.agg #[I c, I i, I m, I t]] w (Grew (I r) w)
  cases h1 : inB c 0 3
  · have hr := HF.out
    simp only [h1, Bool.false_eq_true, if_false] at hr
    subst hr
    go_enter Tryz.func45, Tryz.ntmps45
    go_wp2_with (go_at_call 84; refine (In_any _ _ _ _).mono ?_; rintro e w' ⟨rfl, rfl⟩)
    go_ret
    exact Grew.intro rfl (by repeat first | exact Below.refl _ _ | assumption | refine drewN_below ?_ _ | refine Below.alloc ?_ (by first | exact Nat.le_refl _ | exact Below.size (by assumption) | (simp; done) | (simp; omega) | omega) _ | refine Below.setCell ?_ (by first | exact Nat.le_refl _ | (simp; done) | (simp; omega) | omega) _)
  · obtain ⟨c0, c1⟩ := inB_true.1 h1
    cases h2 : inB i 1 1048575
    · have hr := HF.out
      simp only [h1, h2, Bool.false_eq_true, if_true, if_false, Bool.false_and] at hr
      subst hr
      go_enter Tryz.func45, Tryz.ntmps45
      go_wp2_with (go_at_call 84; refine (In_any _ _ _ _).mono ?_; rintro e w' ⟨rfl, rfl⟩)
      go_ret
      exact Grew.intro rfl (by repeat first | exact Below.refl _ _ | assumption | refine drewN_below ?_ _ | refine Below.alloc ?_ (by first | exact Nat.le_refl _ | exact Below.size (by assumption) | (simp; done) | (simp; omega) | omega) _ | refine Below.setCell ?_ (by first | exact Nat.le_refl _ | (simp; done) | (simp; omega) | omega) _)
    · cases h3 : inB t 0 65535
      · have hr := HF.out
        simp only [h1, h2, h3, Bool.false_eq_true, if_true, if_false, Bool.true_and, Bool.false_and] at hr
        subst hr
        go_enter Tryz.func45, Tryz.ntmps45
        go_wp2_with (go_at_call 84; refine (In_any _ _ _ _).mono ?_; rintro e w' ⟨rfl, rfl⟩)
        go_ret
        exact Grew.intro rfl (by repeat first | exact Below.refl _ _ | assumption | refine drewN_below ?_ _ | refine Below.alloc ?_ (by first | exact Nat.le_refl _ | exact Below.size (by assumption) | (simp; done) | (simp; omega) | omega) _ | refine Below.setCell ?_ (by first | exact Nat.le_refl _ | (simp; done) | (simp; omega) | omega) _)
      · have hr := HF.out
        simp only [h1, h2, h3, if_true, Bool.true_and] at hr
        have HR := Lib.hid hr
        clear hr HF
        by_cases q0 : c = 0
        · subst q0
          cases h4 : inB m 1 2097151
          all_goals
            have hr := HR.out
            simp only [h4, Bool.false_eq_true, if_true, if_false] at hr
            subst hr
            clear HR
            go_enter Tryz.func45, Tryz.ntmps45
            go_wp2_with (go_at_call 84; refine (In_any _ _ _ _).mono ?_; rintro e w' ⟨rfl, rfl⟩)
            go_ret
            exact Grew.intro rfl (by repeat first | exact Below.refl _ _ | assumption | refine drewN_below ?_ _ | refine Below.alloc ?_ (by first | exact Nat.le_refl _ | exact Below.size (by assumption) | (simp; done) | (simp; omega) | omega) _ | refine Below.setCell ?_ (by first | exact Nat.le_refl _ | (simp; done) | (simp; omega) | omega) _)
        · by_cases q2 : c = 2
          · subst q2
            cases h4 : inB m 1 15
            all_goals
              have hr := HR.out
              simp only [h4, q0, Bool.false_eq_true, if_true, if_false] at hr
              subst hr
              clear HR
              go_enter Tryz.func45, Tryz.ntmps45
              go_wp2_with (go_at_call 84; refine (In_any _ _ _ _).mono ?_; rintro e w' ⟨rfl, rfl⟩)
              go_ret
              exact Grew.intro rfl (by repeat first | exact Below.refl _ _ | assumption | refine drewN_below ?_ _ | refine Below.alloc ?_ (by first | exact Nat.le_refl _ | exact Below.size (by assumption) | (simp; done) | (simp; omega) | omega) _ | refine Below.setCell ?_ (by first | exact Nat.le_refl _ | (simp; done) | (simp; omega) | omega) _)
          · have hr := HR.out
            simp only [q0, q2, if_false] at hr
            clear HR
            by_cases hm : m = 0
            · have hr2 : r = 0 := by rw [hr]; simp [hm]
              subst hr2
              clear hr
              by_cases q1 : c = 1
              all_goals
                have q3 : c = 1 ∨ c = 3 := by omega
                go_enter Tryz.func45, Tryz.ntmps45
                go_wp2_with (go_at_call 84; refine (In_any _ _ _ _).mono ?_; rintro e w' ⟨rfl, rfl⟩)
                go_ret
                exact Grew.intro rfl (by repeat first | exact Below.refl _ _ | assumption | refine drewN_below ?_ _ | refine Below.alloc ?_ (by first | exact Nat.le_refl _ | exact Below.size (by assumption) | (simp; done) | (simp; omega) | omega) _ | refine Below.setCell ?_ (by first | exact Nat.le_refl _ | (simp; done) | (simp; omega) | omega) _)
            · have hr2 : r = 2 := by rw [hr]; simp [hm]
              subst hr2
              clear hr
              by_cases q1 : c = 1
              · subst q1
                go_enter Tryz.func45, Tryz.ntmps45
                go_wp2_with (go_at_call 84; refine (In_any _ _ _ _).mono ?_; rintro e w' ⟨rfl, rfl⟩)
                go_ret
                exact Grew.intro rfl (by repeat first | exact Below.refl _ _ | assumption | refine drewN_below ?_ _ | refine Below.alloc ?_ (by first | exact Nat.le_refl _ | exact Below.size (by assumption) | (simp; done) | (simp; omega) | omega) _ | refine Below.setCell ?_ (by first | exact Nat.le_refl _ | (simp; done) | (simp; omega) | omega) _)
              · have q3 : c = 3 := by omega
                subst q3
                go_enter Tryz.func45, Tryz.ntmps45
                go_wp2_with (go_at_call 84; refine (In_any _ _ _ _).mono ?_; rintro e w' ⟨rfl, rfl⟩)
                go_ret
                exact Grew.intro rfl (by repeat first | exact Below.refl _ _ | assumption | refine drewN_below ?_ _ | refine Below.alloc ?_ (by first | exact Nat.le_refl _ | exact Below.size (by assumption) | (simp; done) | (simp; omega) | omega) _ | refine Below.setCell ?_ (by first | exact Nat.le_refl _ | (simp; done) | (simp; omega) | omega) _)
theorem or_low (x y k : Nat) (hy : y < 2 ^ k) : x * 2 ^ k ||| y = x * 2 ^ k + y := by
  rw [Nat.mul_comm, ← Nat.two_pow_add_eq_or_of_lt hy]
theorem i64_or_nat (a b : Nat) (ha : a < 9223372036854775808) (hb : b < 9223372036854775808) : bits .or .i64 (a : Int) (b : Int) = ((a ||| b : Nat) : Int) := by
  have hx : a ||| b < 2 ^ 63 := Nat.or_lt_two_pow (by omega) (by omega)
  show IntKind.i64.wrap ((BitVec.ofInt 64 (a : Int) ||| BitVec.ofInt 64 (b : Int)).toNat : Int) = _
  rw [BitVec.toNat_or, ofInt_u64 a (by omega), ofInt_u64 b (by omega)]
  generalize a ||| b = n at *
  have e : (n : Int) % 2 ^ 64 = n := Int.emod_eq_of_lt (by omega) (by omega)
  simp only [IntKind.wrap, IntKind.bits, IntKind.signed, e]
  rw [if_neg]
  simp
  omega
theorem or_i64 (x y : Int) (k : Nat) (m : Int) (hm : m = 2 ^ k) (hx : 0 ≤ x) (hy : 0 ≤ y) (hym : y < m) (hmm : m ≤ 9223372036854775808) (hxm : x * m < 9223372036854775808) : bits .or .i64 (x * m) y = x * m + y := by
  subst hm
  obtain ⟨x, rfl⟩ := Int.eq_ofNat_of_zero_le hx
  obtain ⟨y, rfl⟩ := Int.eq_ofNat_of_zero_le hy
  have e : ((x : Int)) * 2 ^ k = ((x * 2 ^ k : Nat) : Int) := by push_cast; rfl
  have hyk : y < 2 ^ k := by
    have : ((2 : Int)) ^ k = ((2 ^ k : Nat) : Int) := by push_cast; rfl
    omega
  rw [e, i64_or_nat _ _ (by omega) (by omega), or_low _ _ _ hyk]
  push_cast; rfl
def bodyN (x : AToken) : Int := x.class_ * 2199023255552 + x.id * 2097152 + x.amount
def bodyV (x : AToken) : Int := if tokFault x = 0 then bodyN x else 0
set_option maxHeartbeats 2000000 in
theorem Body_any (x : AToken) (w : World) : Calls Tryz.prog 30 #[.agg x.cells.toArray] w (Grew (T2 (I (bodyV x)) (I (tokFault x))) w) := by
  have B := Lib.hid (fun W => fault_any x W)
  have HZ := Lib.hid (fun h => tokFault_zero (x := x) h)
  have HV := Lib.hid (show bodyV x = if tokFault x = 0 then bodyN x else 0 from rfl)
  generalize bodyV x = v at *
  have HN := Lib.hid (show bodyN x = _ from by unfold bodyN; rfl)
  generalize bodyN x = u at *
  generalize tokFault x = r at *
  obtain ⟨c, i, m, t⟩ := x
  simp only at HZ HN
  show Calls Tryz.prog 30 #[.agg #[I c, I i, I m, I t]] w _
  by_cases hr : r = 0
  · obtain ⟨⟨c0, c1⟩, ⟨i0, i1⟩, ⟨t0, t1⟩, m0, m1⟩ := HZ.out hr
    have hv : v = u := by rw [HV.out, if_pos hr]
    subst hr
    subst hv
    go_enter Tryz.func30, Tryz.ntmps30
    go_wp2_with fail
    refine (B.out _).mono ?_
    rintro e w' ⟨rfl, k1⟩
    have dO := (Own.new (w := w) rfl [I c, I i, I m, I t] 44).below k1
    have d0 := dO.cell 0 (by simp)
    have df0 := dO.frozen 0
    have d1 := dO.cell 1 (by simp)
    have df1 := dO.frozen 1
    have d2 := dO.cell 2 (by simp)
    have df2 := dO.frozen 2
    have d3 := dO.cell 3 (by simp)
    have df3 := dO.frozen 3
    simp only [Nat.zero_add, List.getD_cons_zero, List.getD_cons_succ] at d0 d1 d2 d3
    clear dO
    have k := below_box k1
    clear k1
    go_wp2
    have hu := HN.out
    have e1 := or_i64 c i 20 1048576 rfl (by omega) (by omega) (by omega) (by decide) (by omega)
    have e2 : wrap64 ((c * 1048576 + i) * 2097152) = (c * 1048576 + i) * 2097152 := (by unfold wrap64; omega)
    have e3 := or_i64 (c * 1048576 + i) m 21 2097152 rfl (by omega) (by omega) (by omega) (by decide) (by omega)
    have e4 : (c * 1048576 + i) * 2097152 + m = v := by rw [hu]; omega
    rw [e1, e2, e3, e4]
    go_ret2
    exact ⟨rfl, (by repeat first | exact Below.refl _ _ | assumption | refine drewN_below ?_ _ | refine Below.alloc ?_ (by first | exact Nat.le_refl _ | exact Below.size (by assumption) | (simp; done) | (simp; omega) | omega) _ | refine Below.setCell ?_ (by first | exact Nat.le_refl _ | (simp; done) | (simp; omega) | omega) _)⟩
  · have hv : v = 0 := by rw [HV.out, if_neg hr]
    subst hv
    go_enter Tryz.func30, Tryz.ntmps30
    go_wp2_with fail
    refine (B.out _).mono ?_
    rintro e w' ⟨rfl, k1⟩
    have dO := (Own.new (w := w) rfl [I c, I i, I m, I t] 44).below k1
    have d0 := dO.cell 0 (by simp)
    have df0 := dO.frozen 0
    have d1 := dO.cell 1 (by simp)
    have df1 := dO.frozen 1
    have d2 := dO.cell 2 (by simp)
    have df2 := dO.frozen 2
    have d3 := dO.cell 3 (by simp)
    have df3 := dO.frozen 3
    simp only [Nat.zero_add, List.getD_cons_zero, List.getD_cons_succ] at d0 d1 d2 d3
    clear dO
    have k := below_box k1
    clear k1
    go_wp2
    go_ret2
    exact ⟨rfl, (by repeat first | exact Below.refl _ _ | assumption | refine drewN_below ?_ _ | refine Below.alloc ?_ (by first | exact Nat.le_refl _ | exact Below.size (by assumption) | (simp; done) | (simp; omega) | omega) _ | refine Below.setCell ?_ (by first | exact Nat.le_refl _ | (simp; done) | (simp; omega) | omega) _)⟩
set_option maxHeartbeats 2000000 in
theorem BodyOf_any (x : AToken) (w : World) : Calls Tryz.prog 49 #[.agg x.cells.toArray] w (Grew (T2 (I (bodyV x)) (I (tokFault x))) w) := by
  have B := Lib.hid (fun W => TokenFault_any x W)
  have HZ := Lib.hid (fun h => tokFault_zero (x := x) h)
  have HV := Lib.hid (show bodyV x = if tokFault x = 0 then bodyN x else 0 from rfl)
  generalize bodyV x = v at *
  have HN := Lib.hid (show bodyN x = _ from by unfold bodyN; rfl)
  generalize bodyN x = u at *
  generalize tokFault x = r at *
  obtain ⟨c, i, m, t⟩ := x
  simp only at HZ HN
  show Calls Tryz.prog 49 #[.agg #[I c, I i, I m, I t]] w _
  by_cases hr : r = 0
  · obtain ⟨⟨c0, c1⟩, ⟨i0, i1⟩, ⟨t0, t1⟩, m0, m1⟩ := HZ.out hr
    have hv : v = u := by rw [HV.out, if_pos hr]
    subst hr
    subst hv
    go_enter Tryz.func49, Tryz.ntmps49
    go_wp2_with fail
    refine (B.out _).mono ?_
    rintro e w' ⟨rfl, k1⟩
    have dO := (Own.new (w := w) rfl [I c, I i, I m, I t] 44).below k1
    have d0 := dO.cell 0 (by simp)
    have df0 := dO.frozen 0
    have d1 := dO.cell 1 (by simp)
    have df1 := dO.frozen 1
    have d2 := dO.cell 2 (by simp)
    have df2 := dO.frozen 2
    have d3 := dO.cell 3 (by simp)
    have df3 := dO.frozen 3
    simp only [Nat.zero_add, List.getD_cons_zero, List.getD_cons_succ] at d0 d1 d2 d3
    clear dO
    have k := below_box k1
    clear k1
    go_wp2
    have hu := HN.out
    go_ret2
    exact ⟨by rw [hu]; rfl, (by repeat first | exact Below.refl _ _ | assumption | refine drewN_below ?_ _ | refine Below.alloc ?_ (by first | exact Nat.le_refl _ | exact Below.size (by assumption) | (simp; done) | (simp; omega) | omega) _ | refine Below.setCell ?_ (by first | exact Nat.le_refl _ | (simp; done) | (simp; omega) | omega) _)⟩
  · have hv : v = 0 := by rw [HV.out, if_neg hr]
    subst hv
    go_enter Tryz.func49, Tryz.ntmps49
    go_wp2_with fail
    refine (B.out _).mono ?_
    rintro e w' ⟨rfl, k1⟩
    have dO := (Own.new (w := w) rfl [I c, I i, I m, I t] 44).below k1
    have d0 := dO.cell 0 (by simp)
    have df0 := dO.frozen 0
    have d1 := dO.cell 1 (by simp)
    have df1 := dO.frozen 1
    have d2 := dO.cell 2 (by simp)
    have df2 := dO.frozen 2
    have d3 := dO.cell 3 (by simp)
    have df3 := dO.frozen 3
    simp only [Nat.zero_add, List.getD_cons_zero, List.getD_cons_succ] at d0 d1 d2 d3
    clear dO
    have k := below_box k1
    clear k1
    go_wp2
    go_ret2
    exact ⟨rfl, (by repeat first | exact Below.refl _ _ | assumption | refine drewN_below ?_ _ | refine Below.alloc ?_ (by first | exact Nat.le_refl _ | exact Below.size (by assumption) | (simp; done) | (simp; omega) | omega) _ | refine Below.setCell ?_ (by first | exact Nat.le_refl _ | (simp; done) | (simp; omega) | omega) _)⟩
end Go.Proofs.YtmciccnmpoijdaaGreatDoor
