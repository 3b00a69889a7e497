/- calendar.DateOf, Month, Days and their references -/
import Derived.Test.YtjkdngbaidjdmaaCalDay
namespace Go.Proofs.Ytjkdngbaidjdmaa
open Go.RowKit
set_option maxRecDepth 20000

/-- the month that a day lies in -/
def kGo : Nat → Nat → Int → Nat
  | 0, k, _ => k
  | f + 1, k, day => if cum (k + 1) ≤ day then kGo f (k + 1) day else k
def kOf (day : Int) : Nat := kGo 3000 0 day
theorem kGo_eq {k : Nat} {day : Int} (h1 : cum k ≤ day) (h2 : day < cum (k + 1)) : ∀ (f a : Nat), a ≤ k → k ≤ a + f → kGo f a day = k
  | 0, a, ha, hk => by simp only [kGo]; omega
  | f + 1, a, ha, hk => by
    unfold kGo
    by_cases he : a = k
    · subst he; rw [if_neg (by omega)]
    · have := cum_mono (show a + 1 ≤ k by omega)
      rw [if_pos (by omega)]
      exact kGo_eq h1 h2 f (a + 1) (by omega) (by omega)
theorem kOf_eq {k : Nat} {day : Int} (h1 : cum k ≤ day) (h2 : day < cum (k + 1)) (hk : k ≤ 3000) : kOf day = k := kGo_eq h1 h2 3000 0 (Nat.zero_le _) (by omega)

theorem monthFrom_any (day : Int) (h0 : 0 ≤ day) (h1 : day ≤ 73048) (w : World) : Calls Try.prog 49 #[I day] w (Pure (T2 (I (kOf day)) (I (day - cum (kOf day)))) w) := by
  go_enter Try.func49, Try.ntmps49
  go_wp2
  go_loop [0, 4] (fun d n => ∃ k : Nat, n = I k ∧ d = I (day - cum k) ∧ cum k ≤ day) (fun d _ => (intOf d).toNat)
  case atStart => exact ⟨0, rfl, eI (by simp [cum]), h0⟩
  case round =>
    obtain ⟨k, rfl, rfl, hk⟩ := hrel
    have hb := cum_bd k
    have hmb := mk_bd k
    have hmk : Hid (mlen (2000 + (k : Int) / 12) ((k : Int) % 12 + 1) = mk k) := rfl
    have hbb := mlen_bd (2000 + (k : Int) / 12) ((k : Int) % 12 + 1)
    have hs : Hid (cum (k + 1) = cum k + mk k) := rfl
    by_cases hlt : mlen (2000 + (k : Int) / 12) ((k : Int) % 12 + 1) ≤ day - cum k
    · go_wp2_with (go_at_call 47; refine (monthLong_any _ _ (by omega) (by omega) _).mono ?_; rintro e w' ⟨rfl, rfl⟩)
      go_round
      case rel => exact ⟨k + 1, by go_num, eI (by rw [hs.out, ← hmk.out]; omega), by rw [hs.out, ← hmk.out]; omega⟩
      case measure => simp [intOf]; omega
    · have hko := Lib.hid (kOf_eq hk (by rw [hs.out, ← hmk.out]; omega) (by omega))
      go_wp2_with (go_at_call 47; refine (monthLong_any _ _ (by omega) (by omega) _).mono ?_; rintro e w' ⟨rfl, rfl⟩)
      go_ret2
      exact Pure.intro (by rw [hko.out]; rfl)

def dateOk (day : Int) : Bool := inB day 0 73048
def dateV (day : Int) : ADate := if dateOk day then ⟨2000 + (kOf day : Int) / 12, (kOf day : Int) % 12 + 1, day - cum (kOf day) + 1⟩ else ⟨0, 0, 0⟩
def dateE (day : Int) : Int := if dateOk day then 0 else 2
abbrev dateT (day : Int) : Value := T2 (.agg #[I (dateV day).year, I (dateV day).month, I (dateV day).day]) (I (dateE day))

theorem kOf_bd (day : Int) (h0 : 0 ≤ day) (h1 : day ≤ 73048) : cum (kOf day) ≤ day ∧ day < cum (kOf day + 1) ∧ kOf day ≤ 2609 := by
  have ex : ∀ n : Nat, cum n ≤ day ∨ ∃ k, k < n ∧ cum k ≤ day ∧ day < cum (k + 1) := by
    intro n
    induction n with
    | zero => left; simpa [cum] using h0
    | succ n ih =>
      rcases ih with h | ⟨k, hk, h⟩
      · by_cases hh : cum (n + 1) ≤ day
        · exact .inl hh
        · exact .inr ⟨n, by omega, h, by omega⟩
      · exact .inr ⟨k, by omega, h⟩
  rcases ex 2610 with h | ⟨k, hk, hk1, hk2⟩
  · have := cum_bd 2610; omega
  · rw [kOf_eq hk1 hk2 (by omega)]; exact ⟨hk1, hk2, by omega⟩

theorem DateFrom_any (day : Int) (w : World) : Calls Try.prog 20 #[I day] w (Grew (dateT day) w) := by
  by_cases h : inB day 0 73048 = true
  · obtain ⟨h0, h1⟩ := inB_true.1 h
    have hV : dateV day = ⟨2000 + (kOf day : Int) / 12, (kOf day : Int) % 12 + 1, day - cum (kOf day) + 1⟩ := by simp [dateV, dateOk, h]
    have hE : dateE day = 0 := by simp [dateE, dateOk, h]
    simp only [dateT, hV, hE]
    obtain ⟨k1, k2, k3⟩ := kOf_bd day h0 h1
    have hb := cum_bd (kOf day)
    have hb2 := cum_bd (kOf day + 1)
    clear hV hE
    go_enter Try.func20, Try.ntmps20
    go_wp2_with (first | (go_at_call 46; refine (In_any _ _ _ _).mono ?_; rintro e w' ⟨rfl, rfl⟩) | (go_at_call 49; refine (monthFrom_any _ h0 h1 _).mono ?_; rintro e w' ⟨rfl, rfl⟩))
    exact bodyPost_ret (v := T2 (.agg #[I (2000 + (kOf day : Int) / 12), I ((kOf day : Int) % 12 + 1), I (day - cum (kOf day) + 1)]) (I 0)) (by simp [results, Try.results20, go_sem]) rfl (Grew.intro rfl (by repeat first | exact Below.refl _ _ | assumption | refine drewN_below ?_ _ | refine Below.alloc ?_ (by first | exact Nat.le_refl _ | exact Below.size (by assumption) | (simp; done) | (simp; omega) | omega) _ | refine Below.setCell ?_ (by first | exact Nat.le_refl _ | (simp; done) | (simp; omega) | omega) _))
  · simp only [Bool.not_eq_true] at h
    have hV : dateV day = ⟨0, 0, 0⟩ := by simp [dateV, dateOk, h]
    have hE : dateE day = 2 := by simp [dateE, dateOk, h]
    simp only [dateT, hV, hE]
    clear hV hE
    go_enter Try.func20, Try.ntmps20
    go_wp2_with (go_at_call 46; refine (In_any _ _ _ _).mono ?_; rintro e w' ⟨rfl, rfl⟩)
    exact bodyPost_ret (v := T2 (.agg #[I 0, I 0, I 0]) (I 2)) (by simp [results, Try.results20, go_sem]) rfl (Grew.intro rfl (by repeat first | exact Below.refl _ _ | assumption | refine drewN_below ?_ _ | refine Below.alloc ?_ (by first | exact Nat.le_refl _ | exact Below.size (by assumption) | (simp; done) | (simp; omega) | omega) _ | refine Below.setCell ?_ (by first | exact Nat.le_refl _ | (simp; done) | (simp; omega) | omega) _))

theorem cum_le (j : Nat) : cum (12 * j) ≤ 366 * (j : Int) := by
  induction j with
  | zero => simp [cum]
  | succ j ih =>
    rw [show 12 * (j + 1) = 12 * j + 12 by omega, cum_year]
    have : ylen (2000 + (j : Int)) ≤ 366 := by unfold ylen; split <;> omega
    omega
theorem ylen_bd (y : Int) : 365 ≤ ylen y ∧ ylen y ≤ 366 := by unfold ylen; split <;> omega

theorem DateOf_any (day : Int) (w : World) : Calls Try.prog 19 #[I day] w (Grew (dateT day) w) := by
  by_cases h : inB day 0 73048 = true
  · obtain ⟨h0, h1⟩ := inB_true.1 h
    have hV : dateV day = ⟨2000 + (kOf day : Int) / 12, (kOf day : Int) % 12 + 1, day - cum (kOf day) + 1⟩ := by simp [dateV, dateOk, h]
    have hE : dateE day = 0 := by simp [dateE, dateOk, h]
    simp only [dateT, hV, hE]
    clear hV hE h
    have hj := cum_le (day / 366).toNat
    have hca := Lib.hid (cum_ahead (day / 366).toNat)
    have ha := ahead_bd (2000 + day / 366) (by omega) (by omega)
    have ha2 := ahead_bd 2000 (by omega) (by omega)
    go_enter Try.func19, Try.ntmps19
    go_wp2_with (go_at_call 45; refine (ahead_any _ (by omega) (by omega) _).mono ?_; rintro e w' ⟨rfl, rfl⟩)
    go_loopw [5, 6] (fun l _ wr => ∃ j : Nat, l = I (day - cum (12 * j)) ∧ cum (12 * j) ≤ day ∧ wr = (w.alloc (.cells #[I 0, I 0, I 0] 23)).alloc (.cells #[I (2000 + (j : Int)), I 1, I 0] 23)) (fun l _ _ => (intOf l).toNat)
    case atStart => exact ⟨(day / 366).toNat, eI (by rw [hca.out, show (((day / 366).toNat : Nat) : Int) = day / 366 by omega]), by omega, by rw [show (((day / 366).toNat : Nat) : Int) = day / 366 by omega]⟩
    case round =>
      obtain ⟨j, rfl, hj1, rfl⟩ := hrel
      have hb := cum_bd (12 * j)
      have hs := Lib.hid (cum_year j)
      have hyb := ylen_bd (2000 + (j : Int))
      cases hl : leapB (2000 + (j : Int))
      all_goals
        have hyl := Lib.hid (show ylen (2000 + (j : Int)) = _ by unfold ylen; rw [hl])
        simp only [Bool.false_eq_true, if_false, if_true] at hyl
        by_cases hlt : day - cum (12 * j) < ylen (2000 + (j : Int))
        · rw [hyl.out] at hlt
          go_wp2_with (go_at_call 48; refine (leap_any _ (by omega) (by omega) _).mono ?_; rintro e w' ⟨rfl, rfl⟩)
          clear hl
          go_loopw [5] (fun l wr => ∃ i : Nat, i < 12 ∧ l = I (day - cum (12 * j + i)) ∧ cum (12 * j + i) ≤ day ∧ wr = (w.alloc (.cells #[I 0, I 0, I 0] 23)).alloc (.cells #[I (2000 + (j : Int)), I ((i : Int) + 1), I 0] 23)) (fun l _ => (intOf l).toNat)
          case atStart => exact ⟨0, by omega, rfl, hj1, rfl⟩
          case round =>
            obtain ⟨i, hi, rfl, hi1, rfl⟩ := hrel
            have hbi := cum_bd (12 * j + i)
            have hm := mlen_bd (2000 + (j : Int)) ((i : Int) + 1)
            have hsi := Lib.hid (cum_in j i hi)
            by_cases hlt2 : mlen (2000 + (j : Int)) ((i : Int) + 1) ≤ day - cum (12 * j + i)
            · have hi12 : i < 11 := by
                rcases Nat.lt_or_ge i 11 with h | h
                · exact h
                · exfalso
                  have e : 12 * j + i + 1 = 12 * j + 12 := by omega
                  have h1 := hs.out; have h2 := hsi.out; have h3 := hyl.out
                  rw [e] at h2
                  omega
              go_wp2_with (go_at_call 44; refine (long_any _ _ (by omega) (by omega) (by omega) (by omega) _).mono ?_; rintro e w' ⟨rfl, rfl⟩)
              exact ⟨⟨i + 1, by omega, eI (by rw [show 12 * j + (i + 1) = 12 * j + i + 1 by omega, hsi.out]; omega), by rw [show 12 * j + (i + 1) = 12 * j + i + 1 by omega, hsi.out]; omega, by rw [show ((i + 1 : Nat) : Int) = (i : Int) + 1 by omega]⟩, by simp [intOf]; omega⟩
            · have hko := Lib.hid (kOf_eq (k := 12 * j + i) hi1 (by rw [hsi.out]; omega) (by omega))
              go_wp2_with (go_at_call 44; refine (long_any _ _ (by omega) (by omega) (by omega) (by omega) _).mono ?_; rintro e w' ⟨rfl, rfl⟩)
              have e1 := hko.out
              rw [e1]
              have e2 : ((12 * j + i : Nat) : Int) / 12 = (j : Int) := by omega
              have e3 : ((12 * j + i : Nat) : Int) % 12 = (i : Int) := by omega
              rw [e2, e3]
              exact bodyPost_ret (v := T2 (.agg #[I (2000 + (j : Int)), I ((i : Int) + 1), I (day - cum (12 * j + i) + 1)]) (I 0)) (by simp [results, Try.results19, go_sem]) rfl (Grew.intro rfl (by repeat first | exact Below.refl _ _ | assumption | refine drewN_below ?_ _ | refine Below.alloc ?_ (by first | exact Nat.le_refl _ | exact Below.size (by assumption) | (simp; done) | (simp; omega) | omega) _ | refine Below.setCell ?_ (by first | exact Nat.le_refl _ | (simp; done) | (simp; omega) | omega) _))
        · rw [hyl.out] at hlt
          go_wp2_with (go_at_call 48; refine (leap_any _ (by omega) (by omega) _).mono ?_; rintro e w' ⟨rfl, rfl⟩)
          exact ⟨⟨j + 1, eI (by rw [show 12 * (j + 1) = 12 * j + 12 by omega, hs.out, hyl.out]; omega), by rw [show 12 * (j + 1) = 12 * j + 12 by omega, hs.out, hyl.out]; omega, by rw [show (2000 : Int) + ((j + 1 : Nat) : Int) = 2000 + (j : Int) + 1 by omega]⟩, by simp [intOf]; omega⟩
  · simp only [Bool.not_eq_true] at h
    have hV : dateV day = ⟨0, 0, 0⟩ := by simp [dateV, dateOk, h]
    have hE : dateE day = 2 := by simp [dateE, dateOk, h]
    simp only [dateT, hV, hE]
    clear hV hE
    have h' := inB_false.1 h
    by_cases hn : day < 0
    · clear h h'
      go_enter Try.func19, Try.ntmps19
      go_wp2
      exact bodyPost_ret (v := T2 (.agg #[I 0, I 0, I 0]) (I 2)) (by simp [results, Try.results19, go_sem]) rfl (Grew.intro rfl (by repeat first | exact Below.refl _ _ | assumption | refine drewN_below ?_ _ | refine Below.alloc ?_ (by first | exact Nat.le_refl _ | exact Below.size (by assumption) | (simp; done) | (simp; omega) | omega) _ | refine Below.setCell ?_ (by first | exact Nat.le_refl _ | (simp; done) | (simp; omega) | omega) _))
    · have hn2 : 73048 < day := by omega
      clear h h'
      go_enter Try.func19, Try.ntmps19
      go_wp2
      exact bodyPost_ret (v := T2 (.agg #[I 0, I 0, I 0]) (I 2)) (by simp [results, Try.results19, go_sem]) rfl (Grew.intro rfl (by repeat first | exact Below.refl _ _ | assumption | refine drewN_below ?_ _ | refine Below.alloc ?_ (by first | exact Nat.le_refl _ | exact Below.size (by assumption) | (simp; done) | (simp; omega) | omega) _ | refine Below.setCell ?_ (by first | exact Nat.le_refl _ | (simp; done) | (simp; omega) | omega) _))
end Go.Proofs.Ytjkdngbaidjdmaa
