/- account.Grant -/
import Derived.Test.YtcpljkjibhindaaGrantB
import Derived.Test.YtcpljkjibhindaaGrantC
import Derived.Test.YtcpljkjibhindaaGrantD
import Derived.Test.YtcpljkjibhindaaGrantE
namespace Go.Proofs.Ytcpljkjibhindaa
open Go.RowKit
set_option maxRecDepth 20000
set_option maxHeartbeats 2000000 in
theorem Grant_any (x : AAcc) (v tv : Value) (xs : List ADebt) (ts : List AStep) (f b d al m : Int) (w : World) (h : Sl w v 2 xs.length (xs.flatMap ADebt.cells)) (ht : Sl w tv 2 ts.length (ts.flatMap AStep.cells)) :
    Calls Try.prog 40 #[.agg #[I x.meter, I x.rev, I x.next, I x.month, I x.bought, I x.free, v], .agg #[tv, I f, I b, I d, I al], I m] w (GrewAccBF (grantX x m (grantE x xs ts f b d al m)) (grantL x xs m (grantE x xs ts f b d al m)) (grantB x al (grantE x xs ts f b d al m)) (grantE x xs ts f b d al m) w) := by
  have hr : grantE x xs ts f b d al m = if openErr x xs ts f b d al = 0 then (if rollE x m = 0 then (if al = 0 then 22 else if x.free = m then 21 else if x.next = 1048576 then 20 else 0) else rollE x m) else openErr x xs ts f b d al := rfl
  by_cases h1 : openErr x xs ts f b d al = 0
  · rw [if_pos h1] at hr
    have c0 : accMay x xs = true := by
      unfold openErr at h1
      cases c : accMay x xs
      · rw [c] at h1; simp at h1
      · rfl
    obtain ⟨-, -, -, -, b5, b6, -⟩ := accMay_bd c0
    have G := Lib.hid (fun W hS tS => open_good x v tv xs ts f b d al W hS tS h1)
    by_cases h2 : rollE x m = 0
    · rw [if_pos h2] at hr
      have R := Lib.hid (fun W g u hO hS hF => roll_good g x u tv xs f b d al m W hO hS hF c0 h2)
      unfold GrewRoll at R
      by_cases q1 : al = 0
      · rw [if_pos q1] at hr
        obtain ⟨e1, e2, e3⟩ := grant_err x xs m al (E := grantE x xs ts f b d al m) (by rw [hr]; decide)
        rw [e1, e2, e3, hr]
        subst q1
        exact Grant_22 x.meter x.rev x.next x.month x.bought x.free (rollX x m).bought v tv xs (rollL x xs m) ts f b d m w h ht G R
      rw [if_neg q1] at hr
      by_cases q2 : x.free = m
      · rw [if_pos q2] at hr
        obtain ⟨e1, e2, e3⟩ := grant_err x xs m al (E := grantE x xs ts f b d al m) (by rw [hr]; decide)
        rw [e1, e2, e3, hr]
        subst q2
        exact Grant_21 x.meter x.rev x.next x.month x.bought x.free (rollX x x.free).bought v tv xs (rollL x xs x.free) ts f b d al w h ht G R q1
      rw [if_neg q2] at hr
      by_cases q3 : x.next = 1048576
      · rw [if_pos q3] at hr
        obtain ⟨e1, e2, e3⟩ := grant_err x xs m al (E := grantE x xs ts f b d al m) (by rw [hr]; decide)
        rw [e1, e2, e3, hr]
        exact Grant_20 x.meter x.rev x.next x.month x.bought x.free (rollX x m).bought v tv xs (rollL x xs m) ts f b d al m w h ht G R q1 q2 (by omega)
      rw [if_neg q3] at hr
      rw [hr]
      have hgL : grantL x xs m 0 = rollL x xs m := by simp [grantL]
      have hgX : grantX x m 0 = ⟨x.meter, x.rev, x.next + 1, m, (rollX x m).bought, m⟩ := by simp [grantX]
      have hgB : grantB x al 0 = ⟨x.next, 0, 0, 0, 0, 0, al⟩ := by simp [grantB]
      rw [hgL, hgX, hgB]
      exact Grant_ok x.meter x.rev x.next x.month x.bought x.free (rollX x m).bought v tv xs (rollL x xs m) ts f b d al m w h ht G R q1 q2 (by omega) (by omega)
    · rw [if_neg h2] at hr
      obtain ⟨e1, e2, e3⟩ := grant_err x xs m al (E := grantE x xs ts f b d al m) (by rw [hr]; exact h2)
      rw [e1, e2, e3, hr]
      exact Grant_roll x.meter x.rev x.next x.month x.bought x.free v tv xs ts f b d al m (rollE x m) w h ht G (Lib.hid (fun W g u hO => roll_bad g x u tv f b d al m W hO h2)) h2
  · rw [if_neg h1] at hr
    obtain ⟨e1, e2, e3⟩ := grant_err x xs m al (E := grantE x xs ts f b d al m) (by rw [hr]; exact h1)
    rw [e1, e2, e3, hr]
    exact Grant_open x.meter x.rev x.next x.month x.bought x.free v tv xs ts f b d al m (openErr x xs ts f b d al) w h ht (Lib.hid (fun W hS tS => open_bad x v tv xs ts f b d al W hS tS h1)) h1
end Go.Proofs.Ytcpljkjibhindaa
