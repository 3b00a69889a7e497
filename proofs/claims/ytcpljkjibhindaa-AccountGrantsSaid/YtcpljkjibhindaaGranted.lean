/- ref.Granted -/
import Derived.Test.YtcpljkjibhindaaGrantedA
import Derived.Test.YtcpljkjibhindaaGrantedB
import Derived.Test.YtcpljkjibhindaaGrantedC
import Derived.Test.YtcpljkjibhindaaGrantedD
import Derived.Test.YtcpljkjibhindaaGrantedE
namespace Go.Proofs.Ytcpljkjibhindaa
open Go.RowKit
set_option maxRecDepth 20000
set_option maxHeartbeats 2000000 in
theorem Granted_any (x : AAcc) (v tv : Value) (xs : List ADebt) (ts : List AStep) (f b d al m : Int) (w : World) (h : Sl w v 2 xs.length (xs.flatMap ADebt.cells)) (ht : Sl w tv 2 ts.length (ts.flatMap AStep.cells)) :
    Calls Try.prog 41 #[.agg #[I x.meter, I x.rev, I x.next, I x.month, I x.bought, I x.free, v], .agg #[tv, I f, I b, I d, I al], I m] w (GrewAccB (grantX x m (grantE x xs ts f b d al m)) (grantL x xs m (grantE x xs ts f b d al m)) (grantB x al (grantE x xs ts f b d al m)) (grantE x xs ts f b d al m) w) := by
  have hr : grantE x xs ts f b d al m = if openErr x xs ts f b d al = 0 then (if rollE x m = 0 then (if al = 0 then 22 else if x.free = m then 21 else if x.next = 1048576 then 20 else 0) else rollE x m) else openErr x xs ts f b d al := rfl
  have M := Lib.hid (fun W (hW : Sl W v 2 xs.length (xs.flatMap ADebt.cells)) => AccountMay_any x v xs W hW)
  have F := Lib.hid (fun W (hW : Sl W tv 2 ts.length (ts.flatMap AStep.cells)) => TermsFault_any tv ts f b d al W hW)
  have R := Lib.hid (fun W (hW : Sl W v 2 xs.length (xs.flatMap ADebt.cells)) => RolledF_any x v xs m W hW)
  unfold openErr at hr
  cases c0 : accMay x xs
  · rw [c0] at hr M
    simp only [Bool.false_eq_true, if_false] at hr
    rw [if_neg (by decide)] at hr
    obtain ⟨e1, e2, e3⟩ := grant_err x xs m al (E := grantE x xs ts f b d al m) (by rw [hr]; decide)
    rw [e1, e2, e3, hr]
    exact Granted_may x.meter x.rev x.next x.month x.bought x.free f b d al m v tv xs ts w h ht M
  rw [c0] at hr M
  simp only [if_true] at hr
  obtain ⟨-, -, -, -, b5, b6, -⟩ := accMay_bd c0
  by_cases h1 : termsE ts f b d al = 0
  · rw [if_pos h1] at hr
    rw [h1] at F
    by_cases h2 : rollE x m = 0
    · rw [if_pos h2] at hr
      have hrE : rolledE x xs m = 0 := by simp [rolledE, c0, h2]
      obtain ⟨s1, s2⟩ := rolled_ok hrE
      rw [hrE, s1, s2] at R
      by_cases q1 : al = 0
      · rw [if_pos q1] at hr
        obtain ⟨e1, e2, e3⟩ := grant_err x xs m al (E := grantE x xs ts f b d al m) (by rw [hr]; decide)
        rw [e1, e2, e3, hr]
        subst q1
        exact Granted_22 x.meter x.rev x.next x.month x.bought x.free (rollX x m).bought f b d m v tv xs (rollL x xs m) ts w h ht M F R
      rw [if_neg q1] at hr
      by_cases q2 : x.free = m
      · rw [if_pos q2] at hr
        obtain ⟨e1, e2, e3⟩ := grant_err x xs m al (E := grantE x xs ts f b d al m) (by rw [hr]; decide)
        rw [e1, e2, e3, hr]
        subst q2
        exact Granted_21 x.meter x.rev x.next x.month x.bought x.free (rollX x x.free).bought f b d al v tv xs (rollL x xs x.free) ts w h ht M F R q1
      rw [if_neg q2] at hr
      by_cases q3 : x.next = 1048576
      · rw [if_pos q3] at hr
        obtain ⟨e1, e2, e3⟩ := grant_err x xs m al (E := grantE x xs ts f b d al m) (by rw [hr]; decide)
        rw [e1, e2, e3, hr]
        obtain ⟨x1, x2, x3, x4, x5, x6⟩ := x
        simp only at q3
        subst q3
        exact Granted_20 x1 x2 x4 x5 x6 (rollX ⟨x1, x2, 1048576, x4, x5, x6⟩ m).bought f b d al m v tv xs (rollL ⟨x1, x2, 1048576, x4, x5, x6⟩ xs m) ts w h ht M F R q1 q2
      rw [if_neg q3] at hr
      rw [hr]
      have hgL : grantL x xs m 0 = rollL x xs m := by simp [grantL]
      have hgX : grantX x m 0 = ⟨x.meter, x.rev, x.next + 1, m, (rollX x m).bought, m⟩ := by simp [grantX]
      have hgB : grantB x al 0 = ⟨x.next, 0, 0, 0, 0, 0, al⟩ := by simp [grantB]
      rw [hgL, hgX, hgB]
      exact Granted_ok x.meter x.rev x.next x.month x.bought x.free (rollX x m).bought f b d al m v tv xs (rollL x xs m) ts w h ht M F R q1 q2 q3 b5 b6
    · rw [if_neg h2] at hr
      have hrE : rolledE x xs m = rollE x m := by simp [rolledE, c0]
      obtain ⟨s1, s2⟩ := rolled_err (x := x) (xs := xs) (m := m) (by rw [hrE]; exact h2)
      rw [hrE, s1, s2] at R
      obtain ⟨e1, e2, e3⟩ := grant_err x xs m al (E := grantE x xs ts f b d al m) (by rw [hr]; exact h2)
      rw [e1, e2, e3, hr]
      exact Granted_roll x.meter x.rev x.next x.month x.bought x.free f b d al m (rollE x m) v tv xs ts w h ht M F R h2
  · rw [if_neg h1] at hr
    obtain ⟨e1, e2, e3⟩ := grant_err x xs m al (E := grantE x xs ts f b d al m) (by rw [hr]; exact h1)
    rw [e1, e2, e3, hr]
    exact Granted_terms x.meter x.rev x.next x.month x.bought x.free f b d al m (termsE ts f b d al) v tv xs ts w h ht M F h1
end Go.Proofs.Ytcpljkjibhindaa
