/- meter.Key's state: take -/
import Derived.Test.YtmciccnmpoijdaaKeyState
import Derived.Test.YtmciccnmpoijdaaWinTake
namespace Go.Proofs.Ytmciccnmpoijdaa
open Go Go.RowKit
set_option maxRecDepth 20000

def actE (m : MM) (c n : Int) : Int := if c = 1 then 0 else if c = 2 then (if n ≤ m.rev then 24 else 0) else (if 99999999 < m.cr + n then 15 else 0)
def actM (m : MM) (c n : Int) : MM := if c = 1 then { m with cr := 0 } else if c = 2 then { m with rev := n } else { m with cr := m.cr + n }
def actA (ad c n : Int) : Int := if c = 1 then ad else if c = 2 then ad else n
def takeE (m : MM) (c id n : Int) : Int := if judgeE m.h m.b id = 0 then actE m c n else judgeE m.h m.b id
def takeM (m : MM) (c id n : Int) : MM := if takeE m c id n = 0 then { actM m c n with h := tkH m.h m.b id, b := tkB m.h m.b id, bad := 0 } else m
def takeA (m : MM) (ad c id n : Int) : Int := if takeE m c id n = 0 then actA ad c n else ad
theorem StP.of {g : Nat} {m : MM} {ad k k' : Int} {L : List Value} {w w' : World} (hO : Own w' g L) (hL : L = stL m ad) (hk : k' = k) (hc : Chg g w w') : StP g m ad k w (.returned (I k')) w' := by
  subst hk hL; exact ⟨rfl, hO, hc⟩
theorem StP.bad {g : Nat} {m : MM} {ad c id n k' : Int} {L : List Value} {w w' : World} (hO : Own w' g L) (hL : L = stL m ad) (hk : takeE m c id n = k') (h0 : k' ≠ 0) (hc : Chg g w w') :
    StP g (takeM m c id n) (takeA m ad c id n) (takeE m c id n) w (.returned (I k')) w' := by
  rw [takeM, takeA, hk, if_neg h0, if_neg h0]; exact StP.of hO hL rfl hc
theorem StP.good {g : Nat} {m : MM} {ad c id n : Int} {L : List Value} {w w' : World} (hO : Own w' g L) (hk : takeE m c id n = 0) (hL : L = stL { actM m c n with h := tkH m.h m.b id, b := tkB m.h m.b id, bad := 0 } (actA ad c n)) (hc : Chg g w w') :
    StP g (takeM m c id n) (takeA m ad c id n) (takeE m c id n) w (.returned (I 0)) w' := by
  rw [takeM, takeA, hk, if_pos rfl, if_pos rfl]; exact StP.of hO hL rfl hc

end Go.Proofs.Ytmciccnmpoijdaa
